/- job.Same: whether two tables are one. -/
import Derived.BigQuiet
import Derived.Deep.QuietTactic
import Derived.Deep.MidRow
import Derived.Test.YtaldgmmmcbikgaaJobMem
import Derived.Test.YtaldgmmmcbikgaaJobIndex
import Derived.Test.YtaldgmmmcbikgaaTurnMap
namespace Go.Proofs.Ytaldgmmmcbikgaa.JobSame
open Go.RowKit Mem PosMath PartMath TurnMath TurnMap JobMath JobMem
set_option linter.unusedVariables false
set_option linter.unusedSimpArgs false

theorem list_ne {α : Type} {l m : List α} {k : Nat} {x y : α} (hx : l[k]? = some x) (hy : m[k]? = some y) (h : x ≠ y) : l ≠ m := fun e => by
  rw [e, hy] at hx
  exact h (Option.some.inj hx).symm
theorem list_eq {α : Type} {l m : List α} (hl : l.length = m.length) (h : ∀ (i : Nat) (x y : α), i < l.length → l[i]? = some x → m[i]? = some y → x = y) : l = m := by
  refine List.ext_getElem? fun i => ?_
  rcases Nat.lt_or_ge i l.length with hi | hi
  · have h1 : l[i]? = some l[i] := List.getElem?_eq_getElem hi
    have h2 : m[i]? = some (m[i]'(by omega)) := List.getElem?_eq_getElem (by omega)
    rw [h1, h2, h i _ _ hi h1 h2]
  · rw [List.getElem?_eq_none hi, List.getElem?_eq_none (by omega)]
theorem iequal (X Y : Option Addr) (c d : Nat) (l m : List Int) (hl : l.length ≤ 1000) (hm : m.length ≤ 1000) (w : World) (hX : IntsAt w X l) (hY : IntsAt w Y m) :
    Calls Try.prog 39 #[.slice X l.length c, .slice Y m.length d] w fun e w' => e = .returned (.bool (decide (l = m))) ∧ Below w.heap.size w w' := by
  obtain ⟨V, hV⟩ : ∃ V, V = decide (l = m) := ⟨_, rfl⟩
  rw [← hV]
  have HV := Lib.hid hV
  have HX := Lib.hid hX
  have HY := Lib.hid hY
  clear hV hX hY
  by_cases hn : l.length = m.length
  · have hn' : ((l.length : Int) != (m.length : Int)) = false := by simp [hn]
    have HN := Lib.hid hn
    have hle : (l.length : Int) ≤ (m.length : Int) := by omega
    clear hn
    go_enter Try.func39, Try.ntmps39
    go_wp2_with fail
    go_loopw [13] (fun i wr => ∃ k : Nat, k ≤ l.length ∧ i = .int .i64 k ∧ Hid (∀ (j : Nat) (x y : Int), j < k → l[j]? = some x → m[j]? = some y → x = y) ∧ Hid (Below w.heap.size w wr))
      (fun i _ => l.length - (intOf i).toNat)
    case atStart => exact ⟨0, Nat.zero_le _, rfl, (fun j x y h => by omega), Below.refl _ _⟩
    case round =>
      obtain ⟨k, hk, rfl, hP, hB⟩ := hrel
      by_cases hlt : k < l.length
      · have hg : l[k]? = some l[k] := List.getElem?_eq_getElem hlt
        generalize l[k] = x at hg
        have hkm : k < m.length := by have := HN.out; omega
        have hg2 : m[k]? = some m[k] := List.getElem?_eq_getElem hkm
        generalize m[k] = y at hg2
        have hki : (k : Int) < (l.length : Int) := by omega
        have hki2 : (k : Int) < (m.length : Int) := by omega
        have hki0 : (0 : Int) ≤ (k : Int) := by omega
        obtain ⟨b, o, rfl, hb, y0⟩ := HX.out.up hB.out k x hg
        obtain ⟨b', o', rfl, hb', z0⟩ := HY.out.up hB.out k y hg2
        have HG := Lib.hid (And.intro hg hg2)
        clear hg hg2
        by_cases he : x = y
        · have he' : (x != y) = false := by simp [he]
          have HE := Lib.hid he
          clear he
          go_wp2_with fail
          go_quiet (fail)
          go_wp2_with fail
          go_roundw
          case rel => exact ⟨k + 1, by omega, by go_num, (fun j u v hj hu hv => by
              rcases Nat.lt_or_ge j k with h | h
              · exact hP.out j u v h hu hv
              · obtain rfl : j = k := by omega
                rw [HG.out.1] at hu; rw [HG.out.2] at hv; cases hu; cases hv; exact HE.out), below_drewN hB.out _⟩
          case measure => simp [intOf]; omega
        · have he' : (x != y) = true := by simp [he]
          have ev : V = false := by rw [HV.out]; exact decide_eq_false (list_ne HG.out.1 HG.out.2 he)
          have EV := Lib.hid ev
          clear he ev
          go_wp2_with fail
          go_quiet (fail)
          go_wp2_with fail
          go_ret
          rw [EV.out]
          exact ⟨rfl, below_drewN hB.out _⟩
      · obtain rfl : k = l.length := by omega
        have ev : V = true := by rw [HV.out]; exact decide_eq_true (list_eq HN.out hP.out)
        have EV := Lib.hid ev
        clear ev
        go_wp2_with fail
        go_ret
        rw [EV.out]
        exact ⟨rfl, hB.out⟩
  · have hn' : ((l.length : Int) != (m.length : Int)) = true := by simp; omega
    have ev : V = false := by rw [HV.out]; exact decide_eq_false fun e => hn (by rw [e])
    have EV := Lib.hid ev
    clear hn ev
    go_enter Try.func39, Try.ntmps39
    go_wp2_with fail
    go_ret
    rw [EV.out]
    exact ⟨rfl, Below.refl _ _⟩
set_option maxRecDepth 100000 in
set_option maxHeartbeats 4000000 in
theorem so_0 (x y : JV) (Y Z : Option Addr) (c d : Nat) (hx : WWf x.x) (hy : WWf y.x) (hl : x.af.length ≤ 1000) (hm : y.af.length ≤ 1000) (h0 : ¬ x.id = y.id) (w : World) (hY : IntsAt w Y x.af) (hZ : IntsAt w Z y.af) :
    Calls Try.prog 38 #[.agg #[.int .i64 x.id, .int .i64 x.us, .int .i64 x.cl, .int .i64 x.x.a, .int .i64 x.x.b, .int .i64 x.x.c, .bool x.x.p, .bool x.x.q, .bool x.x.r, .bool x.x.tn, .int .i64 x.wa, .int .i64 x.pr, .bool x.he, .slice Y x.af.length c, .int .u8 x.st, .int .i64 x.ca], .agg #[.int .i64 y.id, .int .i64 y.us, .int .i64 y.cl, .int .i64 y.x.a, .int .i64 y.x.b, .int .i64 y.x.c, .bool y.x.p, .bool y.x.q, .bool y.x.r, .bool y.x.tn, .int .i64 y.wa, .int .i64 y.pr, .bool y.he, .slice Z y.af.length d, .int .u8 y.st, .int .i64 y.ca]] w fun e w' => e = .returned (.bool false) ∧ Below w.heap.size w w' := by
  have e0 : (x.id == y.id) = false := by simpa using h0
  have HE := Lib.hid (fun w hY hZ => iequal Y Z c d x.af y.af hl hm w hY hZ)
  have HYZ := Lib.hid (And.intro hY hZ)
  clear hY hZ hx hy h0
  go_enter Try.func38, Try.ntmps38
  go_wp2_with fail
  go_ret
  exact ⟨rfl, below_alloc (below_alloc (Below.refl _ _))⟩
set_option maxRecDepth 100000 in
set_option maxHeartbeats 4000000 in
theorem so_1 (x y : JV) (Y Z : Option Addr) (c d : Nat) (hx : WWf x.x) (hy : WWf y.x) (hl : x.af.length ≤ 1000) (hm : y.af.length ≤ 1000) (h0 : x.id = y.id) (h1 : ¬ x.us = y.us) (w : World) (hY : IntsAt w Y x.af) (hZ : IntsAt w Z y.af) :
    Calls Try.prog 38 #[.agg #[.int .i64 x.id, .int .i64 x.us, .int .i64 x.cl, .int .i64 x.x.a, .int .i64 x.x.b, .int .i64 x.x.c, .bool x.x.p, .bool x.x.q, .bool x.x.r, .bool x.x.tn, .int .i64 x.wa, .int .i64 x.pr, .bool x.he, .slice Y x.af.length c, .int .u8 x.st, .int .i64 x.ca], .agg #[.int .i64 y.id, .int .i64 y.us, .int .i64 y.cl, .int .i64 y.x.a, .int .i64 y.x.b, .int .i64 y.x.c, .bool y.x.p, .bool y.x.q, .bool y.x.r, .bool y.x.tn, .int .i64 y.wa, .int .i64 y.pr, .bool y.he, .slice Z y.af.length d, .int .u8 y.st, .int .i64 y.ca]] w fun e w' => e = .returned (.bool false) ∧ Below w.heap.size w w' := by
  have e0 : (x.id == y.id) = true := by simpa using h0
  have e1 : (x.us == y.us) = false := by simpa using h1
  have HE := Lib.hid (fun w hY hZ => iequal Y Z c d x.af y.af hl hm w hY hZ)
  have HYZ := Lib.hid (And.intro hY hZ)
  clear hY hZ hx hy h0 h1
  go_enter Try.func38, Try.ntmps38
  go_wp2_with fail
  go_ret
  exact ⟨rfl, below_alloc (below_alloc (Below.refl _ _))⟩
set_option maxRecDepth 100000 in
set_option maxHeartbeats 4000000 in
theorem so_2 (x y : JV) (Y Z : Option Addr) (c d : Nat) (hx : WWf x.x) (hy : WWf y.x) (hl : x.af.length ≤ 1000) (hm : y.af.length ≤ 1000) (h0 : x.id = y.id) (h1 : x.us = y.us) (h2 : ¬ x.cl = y.cl) (w : World) (hY : IntsAt w Y x.af) (hZ : IntsAt w Z y.af) :
    Calls Try.prog 38 #[.agg #[.int .i64 x.id, .int .i64 x.us, .int .i64 x.cl, .int .i64 x.x.a, .int .i64 x.x.b, .int .i64 x.x.c, .bool x.x.p, .bool x.x.q, .bool x.x.r, .bool x.x.tn, .int .i64 x.wa, .int .i64 x.pr, .bool x.he, .slice Y x.af.length c, .int .u8 x.st, .int .i64 x.ca], .agg #[.int .i64 y.id, .int .i64 y.us, .int .i64 y.cl, .int .i64 y.x.a, .int .i64 y.x.b, .int .i64 y.x.c, .bool y.x.p, .bool y.x.q, .bool y.x.r, .bool y.x.tn, .int .i64 y.wa, .int .i64 y.pr, .bool y.he, .slice Z y.af.length d, .int .u8 y.st, .int .i64 y.ca]] w fun e w' => e = .returned (.bool false) ∧ Below w.heap.size w w' := by
  have e0 : (x.id == y.id) = true := by simpa using h0
  have e1 : (x.us == y.us) = true := by simpa using h1
  have e2 : (x.cl == y.cl) = false := by simpa using h2
  have HE := Lib.hid (fun w hY hZ => iequal Y Z c d x.af y.af hl hm w hY hZ)
  have HYZ := Lib.hid (And.intro hY hZ)
  clear hY hZ hx hy h0 h1 h2
  go_enter Try.func38, Try.ntmps38
  go_wp2_with fail
  go_ret
  exact ⟨rfl, below_alloc (below_alloc (Below.refl _ _))⟩
set_option maxRecDepth 100000 in
set_option maxHeartbeats 4000000 in
theorem so_3 (x y : JV) (Y Z : Option Addr) (c d : Nat) (hx : WWf x.x) (hy : WWf y.x) (hl : x.af.length ≤ 1000) (hm : y.af.length ≤ 1000) (h0 : x.id = y.id) (h1 : x.us = y.us) (h2 : x.cl = y.cl) (h3 : ¬ x.x = y.x) (w : World) (hY : IntsAt w Y x.af) (hZ : IntsAt w Z y.af) :
    Calls Try.prog 38 #[.agg #[.int .i64 x.id, .int .i64 x.us, .int .i64 x.cl, .int .i64 x.x.a, .int .i64 x.x.b, .int .i64 x.x.c, .bool x.x.p, .bool x.x.q, .bool x.x.r, .bool x.x.tn, .int .i64 x.wa, .int .i64 x.pr, .bool x.he, .slice Y x.af.length c, .int .u8 x.st, .int .i64 x.ca], .agg #[.int .i64 y.id, .int .i64 y.us, .int .i64 y.cl, .int .i64 y.x.a, .int .i64 y.x.b, .int .i64 y.x.c, .bool y.x.p, .bool y.x.q, .bool y.x.r, .bool y.x.tn, .int .i64 y.wa, .int .i64 y.pr, .bool y.he, .slice Z y.af.length d, .int .u8 y.st, .int .i64 y.ca]] w fun e w' => e = .returned (.bool false) ∧ Below w.heap.size w w' := by
  have e0 : (x.id == y.id) = true := by simpa using h0
  have e1 : (x.us == y.us) = true := by simpa using h1
  have e2 : (x.cl == y.cl) = true := by simpa using h2
  have e3 : ∀ w, (Op.equalIn 10000 30 (.agg #[.int .i64 x.x.a, .int .i64 x.x.b, .int .i64 x.x.c, .bool x.x.p, .bool x.x.q, .bool x.x.r, .bool x.x.tn]) (.agg #[.int .i64 y.x.a, .int .i64 y.x.b, .int .i64 y.x.c, .bool y.x.p, .bool y.x.q, .bool y.x.r, .bool y.x.tn])).run Try.prog w = .ok false w := fun w => by
    have := eq_wants hx hy w
    rw [decide_eq_false h3] at this
    exact this
  have HE := Lib.hid (fun w hY hZ => iequal Y Z c d x.af y.af hl hm w hY hZ)
  have HYZ := Lib.hid (And.intro hY hZ)
  clear hY hZ hx hy h0 h1 h2 h3
  go_enter Try.func38, Try.ntmps38
  go_wp2_with fail
  go_ret
  exact ⟨rfl, below_alloc (below_alloc (Below.refl _ _))⟩
set_option maxRecDepth 100000 in
set_option maxHeartbeats 4000000 in
theorem so_4 (x y : JV) (Y Z : Option Addr) (c d : Nat) (hx : WWf x.x) (hy : WWf y.x) (hl : x.af.length ≤ 1000) (hm : y.af.length ≤ 1000) (h0 : x.id = y.id) (h1 : x.us = y.us) (h2 : x.cl = y.cl) (h3 : x.x = y.x) (h4 : ¬ x.wa = y.wa) (w : World) (hY : IntsAt w Y x.af) (hZ : IntsAt w Z y.af) :
    Calls Try.prog 38 #[.agg #[.int .i64 x.id, .int .i64 x.us, .int .i64 x.cl, .int .i64 x.x.a, .int .i64 x.x.b, .int .i64 x.x.c, .bool x.x.p, .bool x.x.q, .bool x.x.r, .bool x.x.tn, .int .i64 x.wa, .int .i64 x.pr, .bool x.he, .slice Y x.af.length c, .int .u8 x.st, .int .i64 x.ca], .agg #[.int .i64 y.id, .int .i64 y.us, .int .i64 y.cl, .int .i64 y.x.a, .int .i64 y.x.b, .int .i64 y.x.c, .bool y.x.p, .bool y.x.q, .bool y.x.r, .bool y.x.tn, .int .i64 y.wa, .int .i64 y.pr, .bool y.he, .slice Z y.af.length d, .int .u8 y.st, .int .i64 y.ca]] w fun e w' => e = .returned (.bool false) ∧ Below w.heap.size w w' := by
  have e0 : (x.id == y.id) = true := by simpa using h0
  have e1 : (x.us == y.us) = true := by simpa using h1
  have e2 : (x.cl == y.cl) = true := by simpa using h2
  have e3 : ∀ w, (Op.equalIn 10000 30 (.agg #[.int .i64 x.x.a, .int .i64 x.x.b, .int .i64 x.x.c, .bool x.x.p, .bool x.x.q, .bool x.x.r, .bool x.x.tn]) (.agg #[.int .i64 y.x.a, .int .i64 y.x.b, .int .i64 y.x.c, .bool y.x.p, .bool y.x.q, .bool y.x.r, .bool y.x.tn])).run Try.prog w = .ok true w := fun w => by
    have := eq_wants hx hy w
    rw [decide_eq_true h3] at this
    exact this
  have e4 : (x.wa == y.wa) = false := by simpa using h4
  have HE := Lib.hid (fun w hY hZ => iequal Y Z c d x.af y.af hl hm w hY hZ)
  have HYZ := Lib.hid (And.intro hY hZ)
  clear hY hZ hx hy h0 h1 h2 h3 h4
  go_enter Try.func38, Try.ntmps38
  go_wp2_with fail
  go_ret
  exact ⟨rfl, below_alloc (below_alloc (Below.refl _ _))⟩
set_option maxRecDepth 100000 in
set_option maxHeartbeats 4000000 in
theorem so_5 (x y : JV) (Y Z : Option Addr) (c d : Nat) (hx : WWf x.x) (hy : WWf y.x) (hl : x.af.length ≤ 1000) (hm : y.af.length ≤ 1000) (h0 : x.id = y.id) (h1 : x.us = y.us) (h2 : x.cl = y.cl) (h3 : x.x = y.x) (h4 : x.wa = y.wa) (h5 : ¬ x.pr = y.pr) (w : World) (hY : IntsAt w Y x.af) (hZ : IntsAt w Z y.af) :
    Calls Try.prog 38 #[.agg #[.int .i64 x.id, .int .i64 x.us, .int .i64 x.cl, .int .i64 x.x.a, .int .i64 x.x.b, .int .i64 x.x.c, .bool x.x.p, .bool x.x.q, .bool x.x.r, .bool x.x.tn, .int .i64 x.wa, .int .i64 x.pr, .bool x.he, .slice Y x.af.length c, .int .u8 x.st, .int .i64 x.ca], .agg #[.int .i64 y.id, .int .i64 y.us, .int .i64 y.cl, .int .i64 y.x.a, .int .i64 y.x.b, .int .i64 y.x.c, .bool y.x.p, .bool y.x.q, .bool y.x.r, .bool y.x.tn, .int .i64 y.wa, .int .i64 y.pr, .bool y.he, .slice Z y.af.length d, .int .u8 y.st, .int .i64 y.ca]] w fun e w' => e = .returned (.bool false) ∧ Below w.heap.size w w' := by
  have e0 : (x.id == y.id) = true := by simpa using h0
  have e1 : (x.us == y.us) = true := by simpa using h1
  have e2 : (x.cl == y.cl) = true := by simpa using h2
  have e3 : ∀ w, (Op.equalIn 10000 30 (.agg #[.int .i64 x.x.a, .int .i64 x.x.b, .int .i64 x.x.c, .bool x.x.p, .bool x.x.q, .bool x.x.r, .bool x.x.tn]) (.agg #[.int .i64 y.x.a, .int .i64 y.x.b, .int .i64 y.x.c, .bool y.x.p, .bool y.x.q, .bool y.x.r, .bool y.x.tn])).run Try.prog w = .ok true w := fun w => by
    have := eq_wants hx hy w
    rw [decide_eq_true h3] at this
    exact this
  have e4 : (x.wa == y.wa) = true := by simpa using h4
  have e5 : (x.pr == y.pr) = false := by simpa using h5
  have HE := Lib.hid (fun w hY hZ => iequal Y Z c d x.af y.af hl hm w hY hZ)
  have HYZ := Lib.hid (And.intro hY hZ)
  clear hY hZ hx hy h0 h1 h2 h3 h4 h5
  go_enter Try.func38, Try.ntmps38
  go_wp2_with fail
  go_ret
  exact ⟨rfl, below_alloc (below_alloc (Below.refl _ _))⟩
set_option maxRecDepth 100000 in
set_option maxHeartbeats 4000000 in
theorem so_6 (x y : JV) (Y Z : Option Addr) (c d : Nat) (hx : WWf x.x) (hy : WWf y.x) (hl : x.af.length ≤ 1000) (hm : y.af.length ≤ 1000) (h0 : x.id = y.id) (h1 : x.us = y.us) (h2 : x.cl = y.cl) (h3 : x.x = y.x) (h4 : x.wa = y.wa) (h5 : x.pr = y.pr) (h6 : ¬ x.he = y.he) (w : World) (hY : IntsAt w Y x.af) (hZ : IntsAt w Z y.af) :
    Calls Try.prog 38 #[.agg #[.int .i64 x.id, .int .i64 x.us, .int .i64 x.cl, .int .i64 x.x.a, .int .i64 x.x.b, .int .i64 x.x.c, .bool x.x.p, .bool x.x.q, .bool x.x.r, .bool x.x.tn, .int .i64 x.wa, .int .i64 x.pr, .bool x.he, .slice Y x.af.length c, .int .u8 x.st, .int .i64 x.ca], .agg #[.int .i64 y.id, .int .i64 y.us, .int .i64 y.cl, .int .i64 y.x.a, .int .i64 y.x.b, .int .i64 y.x.c, .bool y.x.p, .bool y.x.q, .bool y.x.r, .bool y.x.tn, .int .i64 y.wa, .int .i64 y.pr, .bool y.he, .slice Z y.af.length d, .int .u8 y.st, .int .i64 y.ca]] w fun e w' => e = .returned (.bool false) ∧ Below w.heap.size w w' := by
  have e0 : (x.id == y.id) = true := by simpa using h0
  have e1 : (x.us == y.us) = true := by simpa using h1
  have e2 : (x.cl == y.cl) = true := by simpa using h2
  have e3 : ∀ w, (Op.equalIn 10000 30 (.agg #[.int .i64 x.x.a, .int .i64 x.x.b, .int .i64 x.x.c, .bool x.x.p, .bool x.x.q, .bool x.x.r, .bool x.x.tn]) (.agg #[.int .i64 y.x.a, .int .i64 y.x.b, .int .i64 y.x.c, .bool y.x.p, .bool y.x.q, .bool y.x.r, .bool y.x.tn])).run Try.prog w = .ok true w := fun w => by
    have := eq_wants hx hy w
    rw [decide_eq_true h3] at this
    exact this
  have e4 : (x.wa == y.wa) = true := by simpa using h4
  have e5 : (x.pr == y.pr) = true := by simpa using h5
  have e6 : (x.he == y.he) = false := by simpa using h6
  have HE := Lib.hid (fun w hY hZ => iequal Y Z c d x.af y.af hl hm w hY hZ)
  have HYZ := Lib.hid (And.intro hY hZ)
  clear hY hZ hx hy h0 h1 h2 h3 h4 h5 h6
  go_enter Try.func38, Try.ntmps38
  go_wp2_with fail
  go_ret
  exact ⟨rfl, below_alloc (below_alloc (Below.refl _ _))⟩
set_option maxRecDepth 100000 in
set_option maxHeartbeats 4000000 in
theorem so_7 (x y : JV) (Y Z : Option Addr) (c d : Nat) (hx : WWf x.x) (hy : WWf y.x) (hl : x.af.length ≤ 1000) (hm : y.af.length ≤ 1000) (h0 : x.id = y.id) (h1 : x.us = y.us) (h2 : x.cl = y.cl) (h3 : x.x = y.x) (h4 : x.wa = y.wa) (h5 : x.pr = y.pr) (h6 : x.he = y.he) (h7 : ¬ x.st = y.st) (w : World) (hY : IntsAt w Y x.af) (hZ : IntsAt w Z y.af) :
    Calls Try.prog 38 #[.agg #[.int .i64 x.id, .int .i64 x.us, .int .i64 x.cl, .int .i64 x.x.a, .int .i64 x.x.b, .int .i64 x.x.c, .bool x.x.p, .bool x.x.q, .bool x.x.r, .bool x.x.tn, .int .i64 x.wa, .int .i64 x.pr, .bool x.he, .slice Y x.af.length c, .int .u8 x.st, .int .i64 x.ca], .agg #[.int .i64 y.id, .int .i64 y.us, .int .i64 y.cl, .int .i64 y.x.a, .int .i64 y.x.b, .int .i64 y.x.c, .bool y.x.p, .bool y.x.q, .bool y.x.r, .bool y.x.tn, .int .i64 y.wa, .int .i64 y.pr, .bool y.he, .slice Z y.af.length d, .int .u8 y.st, .int .i64 y.ca]] w fun e w' => e = .returned (.bool false) ∧ Below w.heap.size w w' := by
  have e0 : (x.id == y.id) = true := by simpa using h0
  have e1 : (x.us == y.us) = true := by simpa using h1
  have e2 : (x.cl == y.cl) = true := by simpa using h2
  have e3 : ∀ w, (Op.equalIn 10000 30 (.agg #[.int .i64 x.x.a, .int .i64 x.x.b, .int .i64 x.x.c, .bool x.x.p, .bool x.x.q, .bool x.x.r, .bool x.x.tn]) (.agg #[.int .i64 y.x.a, .int .i64 y.x.b, .int .i64 y.x.c, .bool y.x.p, .bool y.x.q, .bool y.x.r, .bool y.x.tn])).run Try.prog w = .ok true w := fun w => by
    have := eq_wants hx hy w
    rw [decide_eq_true h3] at this
    exact this
  have e4 : (x.wa == y.wa) = true := by simpa using h4
  have e5 : (x.pr == y.pr) = true := by simpa using h5
  have e6 : (x.he == y.he) = true := by simpa using h6
  have e7 : (x.st == y.st) = false := by simpa using h7
  have HE := Lib.hid (fun w hY hZ => iequal Y Z c d x.af y.af hl hm w hY hZ)
  have HYZ := Lib.hid (And.intro hY hZ)
  clear hY hZ hx hy h0 h1 h2 h3 h4 h5 h6 h7
  go_enter Try.func38, Try.ntmps38
  go_wp2_with fail
  go_ret
  exact ⟨rfl, below_alloc (below_alloc (Below.refl _ _))⟩
set_option maxRecDepth 100000 in
set_option maxHeartbeats 4000000 in
theorem so_8 (x y : JV) (Y Z : Option Addr) (c d : Nat) (hx : WWf x.x) (hy : WWf y.x) (hl : x.af.length ≤ 1000) (hm : y.af.length ≤ 1000) (h0 : x.id = y.id) (h1 : x.us = y.us) (h2 : x.cl = y.cl) (h3 : x.x = y.x) (h4 : x.wa = y.wa) (h5 : x.pr = y.pr) (h6 : x.he = y.he) (h7 : x.st = y.st) (h8 : ¬ x.ca = y.ca) (w : World) (hY : IntsAt w Y x.af) (hZ : IntsAt w Z y.af) :
    Calls Try.prog 38 #[.agg #[.int .i64 x.id, .int .i64 x.us, .int .i64 x.cl, .int .i64 x.x.a, .int .i64 x.x.b, .int .i64 x.x.c, .bool x.x.p, .bool x.x.q, .bool x.x.r, .bool x.x.tn, .int .i64 x.wa, .int .i64 x.pr, .bool x.he, .slice Y x.af.length c, .int .u8 x.st, .int .i64 x.ca], .agg #[.int .i64 y.id, .int .i64 y.us, .int .i64 y.cl, .int .i64 y.x.a, .int .i64 y.x.b, .int .i64 y.x.c, .bool y.x.p, .bool y.x.q, .bool y.x.r, .bool y.x.tn, .int .i64 y.wa, .int .i64 y.pr, .bool y.he, .slice Z y.af.length d, .int .u8 y.st, .int .i64 y.ca]] w fun e w' => e = .returned (.bool false) ∧ Below w.heap.size w w' := by
  have e0 : (x.id == y.id) = true := by simpa using h0
  have e1 : (x.us == y.us) = true := by simpa using h1
  have e2 : (x.cl == y.cl) = true := by simpa using h2
  have e3 : ∀ w, (Op.equalIn 10000 30 (.agg #[.int .i64 x.x.a, .int .i64 x.x.b, .int .i64 x.x.c, .bool x.x.p, .bool x.x.q, .bool x.x.r, .bool x.x.tn]) (.agg #[.int .i64 y.x.a, .int .i64 y.x.b, .int .i64 y.x.c, .bool y.x.p, .bool y.x.q, .bool y.x.r, .bool y.x.tn])).run Try.prog w = .ok true w := fun w => by
    have := eq_wants hx hy w
    rw [decide_eq_true h3] at this
    exact this
  have e4 : (x.wa == y.wa) = true := by simpa using h4
  have e5 : (x.pr == y.pr) = true := by simpa using h5
  have e6 : (x.he == y.he) = true := by simpa using h6
  have e7 : (x.st == y.st) = true := by simpa using h7
  have e8 : (x.ca == y.ca) = false := by simpa using h8
  have HE := Lib.hid (fun w hY hZ => iequal Y Z c d x.af y.af hl hm w hY hZ)
  have HYZ := Lib.hid (And.intro hY hZ)
  clear hY hZ hx hy h0 h1 h2 h3 h4 h5 h6 h7 h8
  go_enter Try.func38, Try.ntmps38
  go_wp2_with fail
  go_ret
  exact ⟨rfl, below_alloc (below_alloc (Below.refl _ _))⟩
set_option maxRecDepth 100000 in
set_option maxHeartbeats 4000000 in
theorem so_9 (x y : JV) (Y Z : Option Addr) (c d : Nat) (hx : WWf x.x) (hy : WWf y.x) (hl : x.af.length ≤ 1000) (hm : y.af.length ≤ 1000) (h0 : x.id = y.id) (h1 : x.us = y.us) (h2 : x.cl = y.cl) (h3 : x.x = y.x) (h4 : x.wa = y.wa) (h5 : x.pr = y.pr) (h6 : x.he = y.he) (h7 : x.st = y.st) (h8 : x.ca = y.ca) (w : World) (hY : IntsAt w Y x.af) (hZ : IntsAt w Z y.af) :
    Calls Try.prog 38 #[.agg #[.int .i64 x.id, .int .i64 x.us, .int .i64 x.cl, .int .i64 x.x.a, .int .i64 x.x.b, .int .i64 x.x.c, .bool x.x.p, .bool x.x.q, .bool x.x.r, .bool x.x.tn, .int .i64 x.wa, .int .i64 x.pr, .bool x.he, .slice Y x.af.length c, .int .u8 x.st, .int .i64 x.ca], .agg #[.int .i64 y.id, .int .i64 y.us, .int .i64 y.cl, .int .i64 y.x.a, .int .i64 y.x.b, .int .i64 y.x.c, .bool y.x.p, .bool y.x.q, .bool y.x.r, .bool y.x.tn, .int .i64 y.wa, .int .i64 y.pr, .bool y.he, .slice Z y.af.length d, .int .u8 y.st, .int .i64 y.ca]] w fun e w' => e = .returned (.bool (decide (x.af = y.af))) ∧ Below w.heap.size w w' := by
  have e0 : (x.id == y.id) = true := by simpa using h0
  have e1 : (x.us == y.us) = true := by simpa using h1
  have e2 : (x.cl == y.cl) = true := by simpa using h2
  have e3 : ∀ w, (Op.equalIn 10000 30 (.agg #[.int .i64 x.x.a, .int .i64 x.x.b, .int .i64 x.x.c, .bool x.x.p, .bool x.x.q, .bool x.x.r, .bool x.x.tn]) (.agg #[.int .i64 y.x.a, .int .i64 y.x.b, .int .i64 y.x.c, .bool y.x.p, .bool y.x.q, .bool y.x.r, .bool y.x.tn])).run Try.prog w = .ok true w := fun w => by
    have := eq_wants hx hy w
    rw [decide_eq_true h3] at this
    exact this
  have e4 : (x.wa == y.wa) = true := by simpa using h4
  have e5 : (x.pr == y.pr) = true := by simpa using h5
  have e6 : (x.he == y.he) = true := by simpa using h6
  have e7 : (x.st == y.st) = true := by simpa using h7
  have e8 : (x.ca == y.ca) = true := by simpa using h8
  have HE := Lib.hid (fun w hY hZ => iequal Y Z c d x.af y.af hl hm w hY hZ)
  have HYZ := Lib.hid (And.intro hY hZ)
  clear hY hZ hx hy h0 h1 h2 h3 h4 h5 h6 h7 h8
  go_enter Try.func38, Try.ntmps38
  go_wp2_with fail
  have hB0 : Below w.heap.size w ((w.alloc (.cells #[.int .i64 x.id, .int .i64 x.us, .int .i64 x.cl, .int .i64 x.x.a, .int .i64 x.x.b, .int .i64 x.x.c, .bool x.x.p, .bool x.x.q, .bool x.x.r, .bool x.x.tn, .int .i64 x.wa, .int .i64 x.pr, .bool x.he, .slice Y x.af.length c, .int .u8 x.st, .int .i64 x.ca] 33)).alloc (.cells #[.int .i64 y.id, .int .i64 y.us, .int .i64 y.cl, .int .i64 y.x.a, .int .i64 y.x.b, .int .i64 y.x.c, .bool y.x.p, .bool y.x.q, .bool y.x.r, .bool y.x.tn, .int .i64 y.wa, .int .i64 y.pr, .bool y.he, .slice Z y.af.length d, .int .u8 y.st, .int .i64 y.ca] 33)) := below_alloc (below_alloc (Below.refl _ _))
  refine (HE.out _ (HYZ.out.1.up hB0) (HYZ.out.2.up hB0)).mono ?_
  rintro e w1 ⟨rfl, hB1⟩
  have HB1 := Lib.hid (below_up hB0 hB1)
  clear hB1 hB0
  go_wp2_with fail
  go_ret
  exact ⟨rfl, HB1.out⟩
theorem jv_eq {x y : JV} : x = y ↔ x.id = y.id ∧ x.us = y.us ∧ x.cl = y.cl ∧ x.x = y.x ∧ x.wa = y.wa ∧ x.pr = y.pr ∧ x.he = y.he ∧ x.st = y.st ∧ x.ca = y.ca ∧ x.af = y.af := by
  obtain ⟨a0, a1, a2, a3, a4, a5, a6, a7, a8, a9⟩ := x
  obtain ⟨b0, b1, b2, b3, b4, b5, b6, b7, b8, b9⟩ := y
  simp only [JV.mk.injEq]
  constructor
  · rintro ⟨rfl, rfl, rfl, rfl, rfl, rfl, rfl, rfl, rfl, rfl⟩
    simp
  · rintro ⟨rfl, rfl, rfl, rfl, rfl, rfl, rfl, rfl, rfl, rfl⟩
    simp
theorem sameOne (x y : JV) (Y Z : Option Addr) (c d : Nat) (hx : WWf x.x) (hy : WWf y.x) (hl : x.af.length ≤ 1000) (hm : y.af.length ≤ 1000) (w : World) (hY : IntsAt w Y x.af) (hZ : IntsAt w Z y.af) :
    Calls Try.prog 38 #[.agg (x.arr Y c), .agg (y.arr Z d)] w fun e w' => e = .returned (.bool (decide (x = y))) ∧ Below w.heap.size w w' := by
  by_cases h0 : x.id = y.id
  rotate_left
  · rw [decide_eq_false fun e => h0 (by rw [e])]
    exact so_0 x y Y Z c d hx hy hl hm h0 w hY hZ
  by_cases h1 : x.us = y.us
  rotate_left
  · rw [decide_eq_false fun e => h1 (by rw [e])]
    exact so_1 x y Y Z c d hx hy hl hm h0 h1 w hY hZ
  by_cases h2 : x.cl = y.cl
  rotate_left
  · rw [decide_eq_false fun e => h2 (by rw [e])]
    exact so_2 x y Y Z c d hx hy hl hm h0 h1 h2 w hY hZ
  by_cases h3 : x.x = y.x
  rotate_left
  · rw [decide_eq_false fun e => h3 (by rw [e])]
    exact so_3 x y Y Z c d hx hy hl hm h0 h1 h2 h3 w hY hZ
  by_cases h4 : x.wa = y.wa
  rotate_left
  · rw [decide_eq_false fun e => h4 (by rw [e])]
    exact so_4 x y Y Z c d hx hy hl hm h0 h1 h2 h3 h4 w hY hZ
  by_cases h5 : x.pr = y.pr
  rotate_left
  · rw [decide_eq_false fun e => h5 (by rw [e])]
    exact so_5 x y Y Z c d hx hy hl hm h0 h1 h2 h3 h4 h5 w hY hZ
  by_cases h6 : x.he = y.he
  rotate_left
  · rw [decide_eq_false fun e => h6 (by rw [e])]
    exact so_6 x y Y Z c d hx hy hl hm h0 h1 h2 h3 h4 h5 h6 w hY hZ
  by_cases h7 : x.st = y.st
  rotate_left
  · rw [decide_eq_false fun e => h7 (by rw [e])]
    exact so_7 x y Y Z c d hx hy hl hm h0 h1 h2 h3 h4 h5 h6 h7 w hY hZ
  by_cases h8 : x.ca = y.ca
  rotate_left
  · rw [decide_eq_false fun e => h8 (by rw [e])]
    exact so_8 x y Y Z c d hx hy hl hm h0 h1 h2 h3 h4 h5 h6 h7 h8 w hY hZ
  have e : decide (x = y) = decide (x.af = y.af) := by
    rw [Bool.eq_iff_iff, decide_eq_true_eq, decide_eq_true_eq, jv_eq]
    simp only [h0, h1, h2, h3, h4, h5, h6, h7, h8, true_and]
  rw [e]
  exact so_9 x y Y Z c d hx hy hl hm h0 h1 h2 h3 h4 h5 h6 h7 h8 w hY hZ
set_option maxRecDepth 100000 in
set_option maxHeartbeats 4000000 in
theorem same_any (X Y : Option Addr) (c d : Nat) (l m : List JV) (hl : l.length ≤ 1000) (hm : m.length ≤ 1000) (hla : ∀ j ∈ l, WWf j.x ∧ j.af.length ≤ 1000) (hma : ∀ j ∈ m, WWf j.x ∧ j.af.length ≤ 1000) (w : World) (hX : JobsAt w X l) (hY : JobsAt w Y m) :
    Calls Try.prog 37 #[.slice X l.length c, .slice Y m.length d, .func (.func 38) #[] #[]] w fun e w' => e = .returned (.bool (decide (l = m))) ∧ Below w.heap.size w w' := by
  obtain ⟨V, hV⟩ : ∃ V, V = decide (l = m) := ⟨_, rfl⟩
  rw [← hV]
  have eg := enters_of Try.func38 (by kernel_rfl) rfl
  have HV := Lib.hid hV
  have HX := Lib.hid hX
  have HY := Lib.hid hY
  have HA := Lib.hid (And.intro hla hma)
  clear hV hX hY hla hma
  by_cases hn : l.length = m.length
  · have hn' : ((l.length : Int) != (m.length : Int)) = false := by simp [hn]
    have HN := Lib.hid hn
    clear hn
    go_enter Try.func37, Try.ntmps37
    go_wp2_with fail
    go_loopw [17] (fun i wr => ∃ k : Nat, k ≤ l.length ∧ i = .int .i64 k ∧ Hid (∀ (j : Nat) (x y : JV), j < k → l[j]? = some x → m[j]? = some y → x = y) ∧ Hid (Below w.heap.size w wr))
      (fun i _ => l.length - (intOf i).toNat)
    case atStart => exact ⟨0, Nat.zero_le _, rfl, (fun j x y h => by omega), Below.refl _ _⟩
    case round =>
      obtain ⟨k, hk, rfl, hP, hB⟩ := hrel
      by_cases hlt : k < l.length
      · have hg : l[k]? = some l[k] := List.getElem?_eq_getElem hlt
        generalize l[k] = x at hg
        have hkm : k < m.length := by have := HN.out; omega
        have hg2 : m[k]? = some m[k] := List.getElem?_eq_getElem hkm
        generalize m[k] = y at hg2
        have hki : (k : Int) < (l.length : Int) := by omega
        have hki2 : (k : Int) < (m.length : Int) := by omega
        have hki0 : (0 : Int) ≤ (k : Int) := by omega
        obtain ⟨b, o, Yx, cx, rfl, hb, hJ, hI⟩ := HX.out.up hB.out k x hg
        obtain ⟨b', o', Yy, cy, rfl, hb', hJ', hI'⟩ := HY.out.up hB.out k y hg2
        have HJ := Lib.hid hJ
        have HJ' := Lib.hid (JobAt.up hJ' (below_alloc (o := .cells #[.int .i64 x.id, .int .i64 x.us, .int .i64 x.cl, .int .i64 x.x.a, .int .i64 x.x.b, .int .i64 x.x.c, .bool x.x.p, .bool x.x.q, .bool x.x.r, .bool x.x.tn, .int .i64 x.wa, .int .i64 x.pr, .bool x.he, .slice Yx x.af.length cx, .int .u8 x.st, .int .i64 x.ca] 33) (Below.refl _ wr)))
        have HI := Lib.hid (And.intro hI hI')
        have HG := Lib.hid (And.intro hg hg2)
        have hxo := HA.out.1 x (List.mem_of_getElem? hg)
        have hyo := HA.out.2 y (List.mem_of_getElem? hg2)
        have HS := Lib.hid (fun w hY hZ => sameOne x y Yx Yy cx cy hxo.1 hyo.1 hxo.2 hyo.2 w hY hZ)
        unfold JV.arr at HS
        clear hg hg2 hJ hJ' hI hI' hxo hyo
        go_wp2_with (first | (refine wpList_load_mid rfl 33 _ rfl _ _ rfl _ _ HJ.out.range Try.underlying33 rfl (by kernel_rfl) ?_) | (refine wpList_load_mid rfl 33 _ rfl _ _ rfl _ _ HJ'.out.range Try.underlying33 rfl (by kernel_rfl) ?_) | (refine wpList_load_row rfl 33 _ rfl _ rfl 33 #[.int .i64 x.id, .int .i64 x.us, .int .i64 x.cl, .int .i64 x.x.a, .int .i64 x.x.b, .int .i64 x.x.c, .bool x.x.p, .bool x.x.q, .bool x.x.r, .bool x.x.tn, .int .i64 x.wa, .int .i64 x.pr, .bool x.he, .slice Yx x.af.length cx, .int .u8 x.st, .int .i64 x.ca] (0, 0) _ ((Blk.new wr _ _).alloc _) Try.underlying33 rfl (by kernel_rfl) ?_) | (refine wpList_load_row rfl 33 _ rfl _ rfl 33 #[.int .i64 y.id, .int .i64 y.us, .int .i64 y.cl, .int .i64 y.x.a, .int .i64 y.x.b, .int .i64 y.x.c, .bool y.x.p, .bool y.x.q, .bool y.x.r, .bool y.x.tn, .int .i64 y.wa, .int .i64 y.pr, .bool y.he, .slice Yy y.af.length cy, .int .u8 y.st, .int .i64 y.ca] (0, 0) _ (blk1 wr _ _) Try.underlying33 rfl (by kernel_rfl) ?_))
        have hB0 : Below w.heap.size w _ := below_alloc (o := .cells #[.int .i64 y.id, .int .i64 y.us, .int .i64 y.cl, .int .i64 y.x.a, .int .i64 y.x.b, .int .i64 y.x.c, .bool y.x.p, .bool y.x.q, .bool y.x.r, .bool y.x.tn, .int .i64 y.wa, .int .i64 y.pr, .bool y.he, .slice Yy y.af.length cy, .int .u8 y.st, .int .i64 y.ca] 33) (below_alloc (o := .cells #[.int .i64 x.id, .int .i64 x.us, .int .i64 x.cl, .int .i64 x.x.a, .int .i64 x.x.b, .int .i64 x.x.c, .bool x.x.p, .bool x.x.q, .bool x.x.r, .bool x.x.tn, .int .i64 x.wa, .int .i64 x.pr, .bool x.he, .slice Yx x.af.length cx, .int .u8 x.st, .int .i64 x.ca] 33) hB.out)
        have hB1 : Below wr.heap.size wr _ := below_alloc (o := .cells #[.int .i64 y.id, .int .i64 y.us, .int .i64 y.cl, .int .i64 y.x.a, .int .i64 y.x.b, .int .i64 y.x.c, .bool y.x.p, .bool y.x.q, .bool y.x.r, .bool y.x.tn, .int .i64 y.wa, .int .i64 y.pr, .bool y.he, .slice Yy y.af.length cy, .int .u8 y.st, .int .i64 y.ca] 33) (below_alloc (o := .cells #[.int .i64 x.id, .int .i64 x.us, .int .i64 x.cl, .int .i64 x.x.a, .int .i64 x.x.b, .int .i64 x.x.c, .bool x.x.p, .bool x.x.q, .bool x.x.r, .bool x.x.tn, .int .i64 x.wa, .int .i64 x.pr, .bool x.he, .slice Yx x.af.length cx, .int .u8 x.st, .int .i64 x.ca] 33) (Below.refl _ wr))
        refine (HS.out _ (HI.out.1.up hB1) (HI.out.2.up hB1)).mono ?_
        rintro e w2 ⟨rfl, hB2⟩
        have HB2 := Lib.hid (below_up hB0 hB2)
        clear hB0 hB1 hB2 HJ HJ' HI HS
        by_cases he : x = y
        · have he' : decide (x = y) = true := decide_eq_true he
          have HE := Lib.hid he
          rw [he']
          clear he he'
          go_wp2_with fail
          go_roundw
          case rel => exact ⟨k + 1, by omega, by go_num, (fun j u v hj hu hv => by
              rcases Nat.lt_or_ge j k with h | h
              · exact hP.out j u v h hu hv
              · obtain rfl : j = k := by omega
                rw [HG.out.1] at hu; rw [HG.out.2] at hv; cases hu; cases hv; exact HE.out), HB2.out⟩
          case measure => simp [intOf]; omega
        · have he' : decide (x = y) = false := decide_eq_false he
          have ev : V = false := by rw [HV.out]; exact decide_eq_false (list_ne HG.out.1 HG.out.2 he)
          have EV := Lib.hid ev
          rw [he']
          clear he ev he'
          go_wp2_with fail
          go_ret
          rw [EV.out]
          exact ⟨rfl, HB2.out⟩
      · obtain rfl : k = l.length := by omega
        have ev : V = true := by rw [HV.out]; exact decide_eq_true (list_eq HN.out hP.out)
        have EV := Lib.hid ev
        clear ev
        go_wp2_with fail
        go_ret
        rw [EV.out]
        exact ⟨rfl, hB.out⟩
  · have hn' : ((l.length : Int) != (m.length : Int)) = true := by simp; omega
    have ev : V = false := by rw [HV.out]; exact decide_eq_false fun e => hn (by rw [e])
    have EV := Lib.hid ev
    clear hn ev
    go_enter Try.func37, Try.ntmps37
    go_wp2_with fail
    go_ret
    rw [EV.out]
    exact ⟨rfl, Below.refl _ _⟩
/-- job.Same: whether two tables are one. -/
theorem jSame (X Y : Option Addr) (c d : Nat) (l m : List JV) (hl : l.length ≤ 1000) (hm : m.length ≤ 1000) (hla : ∀ j ∈ l, WWf j.x ∧ j.af.length ≤ 1000) (hma : ∀ j ∈ m, WWf j.x ∧ j.af.length ≤ 1000) (w : World) (hX : JobsAt w X l) (hY : JobsAt w Y m) :
    Calls Try.prog 17 #[.slice X l.length c, .slice Y m.length d] w fun e w' => e = .returned (.bool (decide (l = m))) ∧ Below w.heap.size w w' := by
  have H := Lib.hid (same_any X Y c d l m hl hm hla hma w hX hY)
  clear hla hma hX hY
  go_enter Try.func17, Try.ntmps17
  go_wp2_with fail
  refine H.out.mono ?_
  rintro e w1 ⟨rfl, hB⟩
  have HB := Lib.hid hB
  clear hB
  go_wp2_with fail
  go_ret
  exact ⟨rfl, HB.out⟩
end Go.Proofs.Ytaldgmmmcbikgaa.JobSame
