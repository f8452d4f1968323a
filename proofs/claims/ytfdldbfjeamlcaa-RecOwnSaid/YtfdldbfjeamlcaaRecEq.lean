/- '==' of wants, boxes, spans; slices.Equal of numbers, and of what has nothing in it; configs without anything. No conditions but those named. -/
import Derived.BigQuiet
import Derived.Deep.QuietTactic
import Derived.Lib.QuietBelow
import Derived.Lib.SliceRun
import Derived.DeepKeys4
import Derived.Test.YtfdldbfjeamlcaaEqDeep
import Derived.Test.YtfdldbfjeamlcaaRecCommand
namespace Go.Proofs.Ytfdldbfjeamlcaa.RecEq
open Go.RowKit Mem RecMem RecByte RecNum RecEach RecMath RecCommand
set_option linter.unusedVariables false
set_option linter.unusedSimpArgs false

theorem k_int {D : Nat} {n : Int} (h : (Lit.int .i64 n).wf = true) : Try.prog.keyLits (D + 1) 3 [.int .i64 n] = some [.int .i64 n] := by
  unfold Program.keyLits
  rw [Try.underlying3]
  simp [h]
theorem k_bool {D : Nat} {b : Bool} : Try.prog.keyLits (D + 1) 4 [.bool b] = some [.bool b] := by
  unfold Program.keyLits
  rw [Try.underlying4]
theorem k_ints {D : Nat} {a b c : Int} (ha : (Lit.int .i64 a).wf = true) (hb : (Lit.int .i64 b).wf = true) (hc : (Lit.int .i64 c).wf = true) : Try.prog.keyLits (D + 2) 22 [.int .i64 a, .int .i64 b, .int .i64 c] = some [.int .i64 a, .int .i64 b, .int .i64 c] := by
  unfold Program.keyLits
  rw [Try.underlying22]
  have e : Try.prog.cellsOf 22 = 3 := by kernel_rfl
  have e1 : Try.prog.cellsOf 3 = 1 := by kernel_rfl
  simp [e, e1, List.range, List.range.loop, k_int ha, k_int hb, k_int hc]
theorem k_bools {D : Nat} {a b c : Bool} : Try.prog.keyLits (D + 2) 23 [.bool a, .bool b, .bool c] = some [.bool a, .bool b, .bool c] := by
  unfold Program.keyLits
  rw [Try.underlying23]
  have e : Try.prog.cellsOf 23 = 3 := by kernel_rfl
  have e1 : Try.prog.cellsOf 4 = 1 := by kernel_rfl
  simp [e, e1, List.range, List.range.loop, k_bool]
theorem k_wants {D : Nat} {a b c : Int} {p q r tn : Bool} (ha : (Lit.int .i64 a).wf = true) (hb : (Lit.int .i64 b).wf = true) (hc : (Lit.int .i64 c).wf = true) :
    Try.prog.keyLits (D + 3) 25 [.int .i64 a, .int .i64 b, .int .i64 c, .bool p, .bool q, .bool r, .bool tn] = some [.int .i64 a, .int .i64 b, .int .i64 c, .bool p, .bool q, .bool r, .bool tn] := by
  unfold Program.keyLits
  rw [Try.underlying25]
  have e : Try.prog.cellsOf 25 = 7 := by kernel_rfl
  have e1 : Try.prog.cellsOf 22 = 3 := by kernel_rfl
  have e2 : Try.prog.cellsOf 23 = 3 := by kernel_rfl
  have e3 : Try.prog.cellsOf 4 = 1 := by kernel_rfl
  simp [e, e1, e2, e3, k_ints ha hb hc, k_bools, k_bool]
theorem k_box {D : Nat} {a b c d e_ f : Int} (h1 : (Lit.int .i64 a).wf = true) (h2 : (Lit.int .i64 b).wf = true) (h3 : (Lit.int .i64 c).wf = true) (h4 : (Lit.int .i64 d).wf = true) (h5 : (Lit.int .i64 e_).wf = true) (h6 : (Lit.int .i64 f).wf = true) :
    Try.prog.keyLits (D + 3) 30 [.int .i64 a, .int .i64 b, .int .i64 c, .int .i64 d, .int .i64 e_, .int .i64 f] = some [.int .i64 a, .int .i64 b, .int .i64 c, .int .i64 d, .int .i64 e_, .int .i64 f] := by
  unfold Program.keyLits
  rw [Try.underlying30]
  have e : Try.prog.cellsOf 30 = 6 := by kernel_rfl
  have e1 : Try.prog.cellsOf 22 = 3 := by kernel_rfl
  simp [e, e1, k_ints h1 h2 h3, k_ints h4 h5 h6]
theorem k_span {D : Nat} {a b : Int} (h1 : (Lit.int .i64 a).wf = true) (h2 : (Lit.int .i64 b).wf = true) :
    Try.prog.keyLits (D + 2) 32 [.int .i64 a, .int .i64 b] = some [.int .i64 a, .int .i64 b] := by
  unfold Program.keyLits
  rw [Try.underlying32]
  have e : Try.prog.cellsOf 32 = 2 := by kernel_rfl
  have e1 : Try.prog.cellsOf 3 = 1 := by kernel_rfl
  simp [e, e1, k_int h1, k_int h2]
def wantsB (c d : CV) : Bool := decide (c.a = d.a ∧ c.b = d.b ∧ c.c = d.c ∧ c.p = d.p ∧ c.q = d.q ∧ c.r = d.r ∧ c.tn = d.tn)
def boxB (c d : CV) : Bool := decide (c.b0 = d.b0 ∧ c.b1 = d.b1 ∧ c.b2 = d.b2 ∧ c.b3 = d.b3 ∧ c.b4 = d.b4 ∧ c.b5 = d.b5)
def spanB (c d : CV) : Bool := decide (c.fr = d.fr ∧ c.to = d.to)
theorem eq_wants {c d : CV} (hc : CWf c) (hd : CWf d) (w : World) : (Op.equalIn 10000 25 (.agg #[.int .i64 c.a, .int .i64 c.b, .int .i64 c.c, .bool c.p, .bool c.q, .bool c.r, .bool c.tn]) (.agg #[.int .i64 d.a, .int .i64 d.b, .int .i64 d.c, .bool d.p, .bool d.q, .bool d.r, .bool d.tn])).run Try.prog w = .ok (wantsB c d) w :=
  EqDeep.eq_of (m := 5) (D := 3) (D' := 3) (by kernel_rfl) (by omega) (by kernel_rfl) (by kernel_rfl) (k_wants (hc.1 _ (by simp)) (hc.1 _ (by simp)) (hc.1 _ (by simp))) (k_wants (hd.1 _ (by simp)) (hd.1 _ (by simp)) (hd.1 _ (by simp))) _ (by simp [wantsB]) w
theorem eq_box {c d : CV} (hc : CWf c) (hd : CWf d) (w : World) : (Op.equalIn 10000 30 (.agg #[.int .i64 c.b0, .int .i64 c.b1, .int .i64 c.b2, .int .i64 c.b3, .int .i64 c.b4, .int .i64 c.b5]) (.agg #[.int .i64 d.b0, .int .i64 d.b1, .int .i64 d.b2, .int .i64 d.b3, .int .i64 d.b4, .int .i64 d.b5])).run Try.prog w = .ok (boxB c d) w :=
  EqDeep.eq_of (m := 5) (D := 3) (D' := 3) (by kernel_rfl) (by omega) (by kernel_rfl) (by kernel_rfl) (k_box (hc.1 _ (by simp)) (hc.1 _ (by simp)) (hc.1 _ (by simp)) (hc.1 _ (by simp)) (hc.1 _ (by simp)) (hc.1 _ (by simp))) (k_box (hd.1 _ (by simp)) (hd.1 _ (by simp)) (hd.1 _ (by simp)) (hd.1 _ (by simp)) (hd.1 _ (by simp)) (hd.1 _ (by simp))) _ (by simp [boxB]) w
theorem eq_span {c d : CV} (hc : CWf c) (hd : CWf d) (w : World) : (Op.equalIn 10000 32 (.agg #[.int .i64 c.fr, .int .i64 c.to]) (.agg #[.int .i64 d.fr, .int .i64 d.to])).run Try.prog w = .ok (spanB c d) w :=
  EqDeep.eq_of (m := 5) (D := 2) (D' := 2) (by kernel_rfl) (by omega) (by kernel_rfl) (by kernel_rfl) (k_span (hc.1 _ (by simp)) (hc.1 _ (by simp))) (k_span (hd.1 _ (by simp)) (hd.1 _ (by simp))) _ (by simp [spanB]) w
theorem below_drewN {B : Nat} {a w : World} (h : Below B a w) (n : Nat) : Below B a (w.drewN n) := ⟨h.os, h.tape, h.output, h.size, h.block⟩
theorem list_ne {α : Type} {l m : List α} {k : Nat} {x y : α} (hx : l[k]? = some x) (hy : m[k]? = some y) (h : x ≠ y) : l ≠ m := fun e => by
  rw [e, hy] at hx
  exact h (Option.some.inj hx).symm
theorem list_eq {α : Type} {l m : List α} (hl : l.length = m.length) (h : ∀ (i : Nat) (x y : α), i < l.length → l[i]? = some x → m[i]? = some y → x = y) : l = m := by
  refine List.ext_getElem? fun i => ?_
  rcases Nat.lt_or_ge i l.length with hi | hi
  · have h1 : l[i]? = some l[i] := List.getElem?_eq_getElem hi
    have h2 : m[i]? = some (m[i]'(by omega)) := List.getElem?_eq_getElem (by omega)
    rw [h1, h2, h i _ _ hi h1 h2]
  · rw [List.getElem?_eq_none hi, List.getElem?_eq_none (by omega)]
theorem iequal (X Y : Option Addr) (c d : Nat) (l m : List Int) (hl : l.length ≤ 1000) (hm : m.length ≤ 1000) (w : World) (hX : IntsAt w X l) (hY : IntsAt w Y m) :
    Calls Try.prog 50 #[.slice X l.length c, .slice Y m.length d] w fun e w' => e = .returned (.bool (decide (l = m))) ∧ Below w.heap.size w w' := by
  obtain ⟨V, hV⟩ : ∃ V, V = decide (l = m) := ⟨_, rfl⟩
  rw [← hV]
  have HV := Lib.hid hV
  have HX := Lib.hid hX
  have HY := Lib.hid hY
  clear hV hX hY
  by_cases hn : l.length = m.length
  · have hn' : ((l.length : Int) != (m.length : Int)) = false := by simp [hn]
    have HN := Lib.hid hn
    have hle : (l.length : Int) ≤ (m.length : Int) := by omega
    clear hn
    go_enter Try.func50, Try.ntmps50
    go_wp2_with fail
    go_loopw [13] (fun i wr => ∃ k : Nat, k ≤ l.length ∧ i = .int .i64 k ∧ Hid (∀ (j : Nat) (x y : Int), j < k → l[j]? = some x → m[j]? = some y → x = y) ∧ Hid (Below w.heap.size w wr))
      (fun i _ => l.length - (intOf i).toNat)
    case atStart => exact ⟨0, Nat.zero_le _, rfl, (fun j x y h => by omega), Below.refl _ _⟩
    case round =>
      obtain ⟨k, hk, rfl, hP, hB⟩ := hrel
      by_cases hlt : k < l.length
      · have hg : l[k]? = some l[k] := List.getElem?_eq_getElem hlt
        generalize l[k] = x at hg
        have hkm : k < m.length := by have := HN.out; omega
        have hg2 : m[k]? = some m[k] := List.getElem?_eq_getElem hkm
        generalize m[k] = y at hg2
        have hki : (k : Int) < (l.length : Int) := by omega
        have hki2 : (k : Int) < (m.length : Int) := by omega
        have hki0 : (0 : Int) ≤ (k : Int) := by omega
        obtain ⟨b, o, rfl, hb, y0⟩ := IntsAt.up HX.out hB.out k x hg
        obtain ⟨b', o', rfl, hb', z0⟩ := IntsAt.up HY.out hB.out k y hg2
        have HG := Lib.hid (And.intro hg hg2)
        clear hg hg2
        by_cases he : x = y
        · have he' : (x != y) = false := by simp [he]
          have HE := Lib.hid he
          clear he
          go_wp2_with fail
          go_quiet (fail)
          go_wp2_with fail
          go_roundw
          case rel => exact ⟨k + 1, by omega, by go_num, (fun j u v hj hu hv => by
              rcases Nat.lt_or_ge j k with h | h
              · exact hP.out j u v h hu hv
              · obtain rfl : j = k := by omega
                rw [HG.out.1] at hu; rw [HG.out.2] at hv; cases hu; cases hv; exact HE.out), below_drewN hB.out _⟩
          case measure => simp [intOf]; omega
        · have he' : (x != y) = true := by simp [he]
          have ev : V = false := by rw [HV.out]; exact decide_eq_false (list_ne HG.out.1 HG.out.2 he)
          have EV := Lib.hid ev
          clear he ev
          go_wp2_with fail
          go_quiet (fail)
          go_wp2_with fail
          go_ret
          rw [EV.out]
          exact ⟨rfl, below_drewN hB.out _⟩
      · obtain rfl : k = l.length := by omega
        have ev : V = true := by rw [HV.out]; exact decide_eq_true (list_eq HN.out hP.out)
        have EV := Lib.hid ev
        clear ev
        go_wp2_with fail
        go_ret
        rw [EV.out]
        exact ⟨rfl, hB.out⟩
  · have hn' : ((l.length : Int) != (m.length : Int)) = true := by simp; omega
    have ev : V = false := by rw [HV.out]; exact decide_eq_false fun e => hn (by rw [e])
    have EV := Lib.hid ev
    clear hn ev
    go_enter Try.func50, Try.ntmps50
    go_wp2_with fail
    go_ret
    rw [EV.out]
    exact ⟨rfl, Below.refl _ _⟩
set_option maxHeartbeats 1000000 in
theorem jobsNil (w : World) : Calls Try.prog 46 #[.slice none 0 0, .slice none 0 0, .func (.func 47) #[] #[]] w fun e w' => e = .returned (.bool true) ∧ Below w.heap.size w w' := by
  go_enter Try.func46, Try.ntmps46
  go_wp2_with fail
  refine wp_loop_rounds 1 ?_
  rw [rounds_succ]
  go_wp2_with fail
  go_ret
  exact ⟨rfl, Below.refl _ _⟩
set_option maxHeartbeats 1000000 in
theorem partsNil (w : World) : Calls Try.prog 48 #[.slice none 0 0, .slice none 0 0] w fun e w' => e = .returned (.bool true) ∧ Below w.heap.size w w' := by
  go_enter Try.func48, Try.ntmps48
  go_wp2_with fail
  refine wp_loop_rounds 1 ?_
  rw [rounds_succ]
  go_wp2_with fail
  go_ret
  exact ⟨rfl, Below.refl _ _⟩
set_option maxHeartbeats 1000000 in
theorem keepsNil (w : World) : Calls Try.prog 49 #[.slice none 0 0, .slice none 0 0] w fun e w' => e = .returned (.bool true) ∧ Below w.heap.size w w' := by
  go_enter Try.func49, Try.ntmps49
  go_wp2_with fail
  refine wp_loop_rounds 1 ?_
  rw [rounds_succ]
  go_wp2_with fail
  go_ret
  exact ⟨rfl, Below.refl _ _⟩
set_option maxHeartbeats 1000000 in
theorem classNil (w : World) : Calls Try.prog 77 #[.slice none 0 0, .slice none 0 0] w fun e w' => e = .returned (.bool true) ∧ Below w.heap.size w w' := by
  go_enter Try.func77, Try.ntmps77
  go_wp2_with fail
  refine wp_loop_rounds 1 ?_
  rw [rounds_succ]
  go_wp2_with fail
  go_ret
  exact ⟨rfl, Below.refl _ _⟩
end Go.Proofs.Ytfdldbfjeamlcaa.RecEq
