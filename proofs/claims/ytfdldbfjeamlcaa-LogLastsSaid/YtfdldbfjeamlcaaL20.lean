/- Several texts joined: LogLasts, whole. No conditions. -/
import Derived.Test.YtfdldbfjeamlcaaL19
import Derived.Test.YtfdldbfjeamlcaaRows
import Derived.WalkKit
import Derived.ProofKit
import Derived.OpenShut
import Derived.ChangeOld
import Derived.Below
import Derived.Carry
import Derived.Lib.SmallJoins
import Derived.Lib.Hide
import Derived.Test.YtfdldbfjeamlcaaG1
import Derived.Laws.IdiomArrays
import Derived.Deep.Slices
import Derived.Test.YtfdldbfjeamlcaaG4
/-! LogLasts, whole. No conditions. -/
namespace Go.Proofs.Ytfdldbfjeamlcaa.LogLastsA
open Go Go.RowKit Mem LogMath LogProg LogRef1 LogRetC LogDoC LogCrashC LogLastC LogLastsW
set_option linter.unusedVariables false

theorem lasts (w : World) (x y : AV) (X : Option Addr) (ca : Nat) (Y : Option Addr) (cb : Nat) (hca : x.t.length ≤ ca ∧ ca ≤ maxLen) (hcb : y.t.length ≤ cb ∧ cb ≤ maxLen) (hX : TAt w X x.t) (hY : TAt w Y y.t) (a : Int) (wa : (Lit.int .u8 a).wf = true) (m n m2 n2 : Int) :
    Calls Try.prog 14 #[.agg #[.slice X x.t.length ca, .int .i64 x.k, .slice Y y.t.length cb, .int .i64 y.k], .int .u8 a, .agg #[.int .i64 m, .int .i64 n], .agg #[.int .i64 m2, .int .i64 n2]] w fun e w' => e = .returned (.bool true) ∧ Below w.heap.size w w' := by
  have ha : 0 ≤ a := by
    simp [Lit.wf, IntKind.min, IntKind.max, IntKind.signed, IntKind.bits] at wa
    omega
  have hr : Int.tmod a 2 = 0 ∨ Int.tmod a 2 = 1 := by rw [Int.tmod_eq_emod_of_nonneg ha]; omega
  cases hg : greatL x y
  · cases h : mayL ⟨x, y⟩
    · rcases hr with hr | hr
      · exact lastBad0 x y X ca Y cb a m n m2 n2 (Lib.hid hg) (Lib.hid h) (Lib.hid hr) w hX hY
      · exact lastBad1 x y X ca Y cb a m n m2 n2 (Lib.hid hg) (Lib.hid h) (Lib.hid hr) w hX hY
    · obtain ⟨l1, l2, l3, l4, l5, l6⟩ := mayL_len h
      obtain ⟨t, k⟩ := x
      obtain ⟨u, q⟩ := y
      obtain ⟨p, rfl⟩ := Int.eq_ofNat_of_zero_le l3
      obtain ⟨q, rfl⟩ := Int.eq_ofNat_of_zero_le l5
      have hM : May t u p q := ⟨l1, l2, by simpa using l4, by simpa using l6⟩
      rcases hr with hr | hr
      · exact lastOk0 t u p q X ca Y cb a m n m2 n2 (Lib.hid hg) (Lib.hid hM) (Lib.hid ⟨hM.ht, hM.hu, Nat.le_refl _, hM.hq⟩) (Lib.hid ⟨hca.1, hcb.1⟩) (Lib.hid hr) (Lib.hid rfl) (Lib.hid rfl) w hX hY
      · exact lastOk1 t u p q X ca Y cb a m n m2 n2 (Lib.hid hg) (Lib.hid hM) (Lib.hid ⟨hM.ht, hM.hu, hM.hp, Nat.le_refl _⟩) (Lib.hid ⟨hca.1, hcb.1⟩) (Lib.hid hr) (Lib.hid rfl) (Lib.hid rfl) w hX hY
  · exact lastGreat x y X ca Y cb a m n m2 n2 (Lib.hid hg) w hX hY
end Go.Proofs.Ytfdldbfjeamlcaa.LogLastsA
/-! What every law's row wants beside its walk: the arguments read behind the call as they read before, where nothing below the heap's old size has turned; how arguments of the types that occur are opened. No conditions but those named. -/
namespace Go.Proofs.Ytfdldbfjeamlcaa.Lay
open Go.ChangeShapes Go.WideShapes Go.ChangeAt Go.RowKit Go.Joins Go.Deep Mem
set_option linter.unusedVariables false

theorem own : ownKnob Try.prog.godebug = none := by kernel_rfl
theorem laidOut : laidOutB Try.prog = true := by kernel_rfl

/-- All arguments read as they did. -/
theorem trodAll_below {H : Type} {enc : TypeId × Value → H} {P : Program} (hl : laidOutB P = true) {W W' : World} :
    ∀ {ts : List TypeId} {vs : List Value} {ds : List (DataW H)} {ps : List MemPlace}, (∀ t ∈ ts, P.readableRec t = true ∧ t < P.types.size) →
    DataW.TrodAll enc P W 0 (fun _ => true) true ts vs ds ps → Below W.heap.size W W' → (∀ x ∈ ps, x.block < W.heap.size) →
    DataW.TrodAll enc P W' 0 (fun b => decide (b < W.heap.size)) true ts vs ds ps
  | [], vs, ds, ps, _, h, _, _ => by obtain ⟨rfl, rfl, rfl⟩ := trodAll_nil h; exact trodAll_mk0
  | t :: ts, vs, ds, ps, hok, h, hb, hlt => by
    obtain ⟨v, vs', d, ds', p, q, rfl, rfl, rfl, h0, r0⟩ := trodAll_cons h
    have h1 := Below.trod hl (hok t (by simp)).1 (hok t (by simp)).2 h0 hb (fun x hx => hlt x (by simp [hx]))
    exact trodAll_cons_mk h1 (trodAll_below hl (fun u hu => hok u (by simp [hu])) r0 hb (fun x hx => hlt x (by simp [hx])))

theorem block_of_cell {W : World} {a : Addr} {v : Value} (h : W.cell? a = some v) : a.block < W.heap.size := by
  rcases Nat.lt_or_ge a.block W.heap.size with h1 | h1
  · exact h1
  · simp [World.cell?, Array.getElem?_eq_none h1] at h

/-- An argument that is a slice of integers: nil let in. -/
theorem open_row {H : Type} {enc : TypeId × Value → H} {P : Program} {W : World} {r : Reach} {b0 : Nat} {t e : TypeId} {k : IntKind} {v : Value} {d : DataW H} {p : List MemPlace} {sp : Nat → Bool} {held : Bool}
    (ht : P.underlying t = some (.slice e)) (he : P.underlying e = some (.int k)) (hC : P.cellsOf e = 1) (hv : Value.okWide P W r b0 t v) (h : DataW.Trod enc P W 0 sp held t v d p) :
    ∃ (X : Option Addr) (c : Nat) (l : List Int), v = .slice X l.length c ∧ l.length ≤ c ∧ c ≤ maxLen ∧ Reads W W.heap.size 1 X l.length (l.map (Value.int k)) ∧ ∀ n ∈ l, (Lit.int k n).wf = true := by
  obtain ⟨X, len, cap, rfl⟩ := okWide_slice ht hv
  obtain ⟨fuel, hf⟩ := h
  rcases open_ints ht he hC hf with ⟨hcs, _⟩ | ⟨x, l, c, zs, hcs, _, hl, hm, hz, _, hcell, hwz⟩
  · simp [Value.cells] at hcs
    obtain ⟨rfl, rfl, rfl⟩ := hcs
    exact ⟨none, 0, [], rfl, by simp, by simp [maxLen], Reads.none_, by simp⟩
  · simp [Value.cells] at hcs
    obtain ⟨rfl, rfl, rfl⟩ := hcs
    have hlen : (zs.take len).length = len := by
      have : len ≤ zs.length := by
        rw [hz]; split <;> omega
      simp; omega
    refine ⟨some x, cap, zs.take len, by rw [hlen], by omega, hm, ⟨by simp, fun hn => ⟨x, rfl, ?_, ?_⟩⟩, fun n hn => hwz n (List.mem_of_mem_take hn)⟩
    · rw [hlen] at hn
      have h0 := hcell 0 (by rw [hz]; split <;> omega)
      have := block_of_cell h0
      rwa [block_of_add] at this
    · intro j u hu
      rw [List.getElem?_map] at hu
      rcases Nat.lt_or_ge j len with hj | hj
      · have hj2 : j < zs.length := by rw [hz]; split <;> omega
        rw [List.getElem?_take, if_pos hj, List.getElem?_eq_getElem hj2] at hu
        simp at hu
        rw [hcell j hj2, ← hu, List.getD_eq_getElem?_getD, List.getElem?_eq_getElem hj2]
        rfl
      · rw [List.getElem?_take, if_neg (by omega)] at hu
        simp at hu

/-- An argument that is a struct of two integers, by value. -/
theorem open_pair {H : Type} {enc : TypeId × Value → H} {P : Program} {W : World} {r : Reach} {b0 : Nat} {t : TypeId} {f0 f1 : Field} {k : IntKind} {v : Value} {d : DataW H} {p : List MemPlace} {sp : Nat → Bool} {held : Bool}
    (hs : P.underlying t = some (.struct #[f0, f1])) (h0 : P.underlying f0.type = some (.int k)) (h1 : P.underlying f1.type = some (.int k)) (hone : oneCellFields P #[f0, f1] = true) (hC : P.cellsOf t = 2)
    (hv : Value.okWide P W r b0 t v) (h : DataW.Trod enc P W 0 sp held t v d p) :
    ∃ a b : Int, v = .agg #[.int k a, .int k b] ∧ (Lit.int k a).wf = true ∧ (Lit.int k b).wf = true := by
  obtain ⟨c0, c1, y0, y1, m, rfl, rfl, rfl, hy0, hy1⟩ := open_agg2 hs hone hC hv h
  obtain ⟨a, e0, _, wa⟩ := DataW.trod_int h0 hy0
  obtain ⟨b, e1, _, wb⟩ := DataW.trod_int h1 hy1
  simp at e0 e1
  subst e0 e1
  exact ⟨a, b, rfl, wa, wb⟩
end Go.Proofs.Ytfdldbfjeamlcaa.Lay
/-! How arguments that are arrays of three integers, or of three truths, by value, are opened. No conditions but the types'. -/
namespace Go.Proofs.Ytfdldbfjeamlcaa.Lay
open Go.ChangeShapes Go.WideShapes Go.ChangeAt Go.RowKit Go.Joins Go.Deep Mem
set_option linter.unusedVariables false

theorem okWide_array {P : Program} {W : World} {r : Reach} {b0 : Nat} {t e : TypeId} {n : Nat} {v : Value} (ht : P.underlying t = some (.array n e)) (h : Value.okWide P W r b0 t v) : ∃ cs : Array Value, v = .agg cs ∧ cs.size = P.cellsOf t := by
  simp only [Value.okWide, ht] at h
  cases v <;> simp_all
theorem open_arr3 {H : Type} {enc : TypeId × Value → H} {P : Program} {W : World} {r : Reach} {b0 : Nat} {t e : TypeId} {k : IntKind} {v : Value} {d : DataW H} {p : List MemPlace} {sp : Nat → Bool} {held : Bool}
    (ht : P.underlying t = some (.array 3 e)) (he : P.underlying e = some (.int k)) (hC : P.cellsOf e = 1) (hT : P.cellsOf t = 3) (hv : Value.okWide P W r b0 t v) (h : DataW.Trod enc P W 0 sp held t v d p) :
    ∃ a b c : Int, v = .agg #[.int k a, .int k b, .int k c] ∧ (Lit.int k a).wf = true ∧ (Lit.int k b).wf = true ∧ (Lit.int k c).wf = true := by
  obtain ⟨cs, rfl, hsz⟩ := okWide_array ht hv
  obtain ⟨c0, c1, c2, rfl⟩ := array3 (hsz.trans hT)
  obtain ⟨fuel, hf⟩ := h
  obtain ⟨y0, y1, y2, n, _, h0, h1, h2⟩ := trod_array3 ht hC hf
  obtain ⟨a, e0, _, wa⟩ := DataW.trod_int he h0
  obtain ⟨b, e1, _, wb⟩ := DataW.trod_int he h1
  obtain ⟨c, e2, _, wc⟩ := DataW.trod_int he h2
  simp at e0 e1 e2
  subst e0 e1 e2
  exact ⟨a, b, c, rfl, wa, wb, wc⟩
end Go.Proofs.Ytfdldbfjeamlcaa.Lay
/-! How arguments that are logs, acts, or arrays of two integers are opened. No conditions. -/
namespace Go.Proofs.Ytfdldbfjeamlcaa.Lay
open Go.ChangeShapes Go.WideShapes Go.ChangeAt Go.RowKit Go.Joins Go.Deep Mem LogMath
set_option linter.unusedVariables false
set_option linter.unusedSimpArgs false

/-- Bytes that came in. -/
theorem text_trod {H : Type} {enc : TypeId × Value → H} {W : World} {held : Bool} {fuel : Nat} {v : Value} {x : DataW H × List MemPlace} (hf : DataW.trod enc Try.prog W 0 (fun _ => true) held fuel 37 [v] = some x) :
    ∃ (Y : Option Addr) (c : Nat) (l : List Int), v = .slice Y l.length c ∧ l.length ≤ c ∧ c ≤ maxLen ∧ TAt W Y l ∧ ∀ n ∈ l, (Lit.int .u8 n).wf = true := by
  rcases open_ints Try.underlying37 Try.underlying5 (by kernel_rfl) hf with ⟨hcs, _⟩ | ⟨a, len, cap, zs, hcs, _, hl, hm, hz, _, hcell, hwz⟩
  · simp at hcs
    exact ⟨none, 0, [], hcs, by simp, by simp [maxLen], TAt.nil, by simp⟩
  · simp at hcs
    have hzl : zs.length = cap := by simpa using hz
    have hlen : (zs.take len).length = len := by simp; omega
    refine ⟨some a, cap, zs.take len, by rw [hcs, hlen], by omega, hm, fun i n hi => ?_, fun n hn => hwz n (List.mem_of_mem_take hn)⟩
    have hil : i < len := by have := (List.getElem?_eq_some_iff.1 hi).1; simp at this; omega
    rw [List.getElem?_take_of_lt hil] at hi
    have hc := hcell i (by omega)
    have h0 := hcell 0 (by omega)
    have h0' : W.cell? a = some (.int .u8 (zs.getD 0 0)) := by
      have e : a.add 0 = a := by obtain ⟨b, o, s⟩ := a; simp [Addr.add]
      rwa [e] at h0
    have hs := World.cell?_spot h0'
    obtain ⟨b, o, s⟩ := a
    simp at hs
    subst hs
    refine ⟨b, o, rfl, block_of_cell h0', ?_⟩
    rw [add_flat] at hc
    rw [hc, List.getD_eq_getElem?_getD, hi]
    rfl
set_option maxRecDepth 100000 in
theorem area_trod {H : Type} {enc : TypeId × Value → H} {W : World} {held : Bool} {fuel : Nat} {c0 c1 : Value} {x : DataW H × List MemPlace} (h : DataW.trod enc Try.prog W 0 (fun _ => true) held fuel 67 [c0, c1] = some x) :
    ∃ (a : AV) (Y : Option Addr) (c : Nat), c0 = .slice Y a.t.length c ∧ c1 = .int .i64 a.k ∧ a.t.length ≤ c ∧ c ≤ maxLen ∧ TAt W Y a.t := by
  obtain ⟨xs, n, _, hx, _, hl, hg⟩ := DataW.trod_struct Try.underlying67 h
  have ki : Try.prog.cellsOf 3 = 1 := by kernel_rfl
  have ks : Try.prog.cellsOf 37 = 1 := by kernel_rfl
  have q0 := hg 0 _ rfl
  have q1 := hg 1 _ rfl
  match xs, hl with
  | [z0, z1], _ =>
    simp only [List.getElem_toArray, List.getElem_cons_zero, List.getElem_cons_succ] at q0 q1
    rw [ks] at q0
    rw [ki] at q1
    simp at q0 q1
    obtain ⟨Y, c, l, e0, h1, h2, h3, _⟩ := text_trod q0
    obtain ⟨k, e1, _, _⟩ := DataW.trod_int Try.underlying3 q1
    simp at e1
    exact ⟨⟨l, k⟩, Y, c, e0, e1, h1, h2, h3⟩
set_option maxRecDepth 100000 in
/-- An argument that is a log. -/
theorem open_log {H : Type} {enc : TypeId × Value → H} {W : World} {r : Reach} {b0 : Nat} {v : Value} {d : DataW H} {p : List MemPlace} {held : Bool}
    (hv : Value.okWide Try.prog W r b0 70 v) (h : DataW.Trod enc Try.prog W 0 (fun _ => true) held 70 v d p) :
    ∃ (x y : AV) (X : Option Addr) (ca : Nat) (Y : Option Addr) (cb : Nat), v = .agg #[.slice X x.t.length ca, .int .i64 x.k, .slice Y y.t.length cb, .int .i64 y.k] ∧ (x.t.length ≤ ca ∧ ca ≤ maxLen) ∧ (y.t.length ≤ cb ∧ cb ≤ maxLen) ∧ TAt W X x.t ∧ TAt W Y y.t := by
  obtain ⟨cs, rfl, hsz⟩ := okWide_struct Try.underlying70 hv
  obtain ⟨l⟩ := cs
  have kl : Try.prog.cellsOf 70 = 4 := by kernel_rfl
  have kp : Try.prog.cellsOf 68 = 4 := by kernel_rfl
  have ka : Try.prog.cellsOf 67 = 2 := by kernel_rfl
  match l, hsz.trans kl with
  | [c0, c1, c2, c3], _ =>
    obtain ⟨fuel, hf⟩ := h
    obtain ⟨xs, n, _, hx, _, hlen, hg⟩ := DataW.trod_struct Try.underlying70 hf
    have q0 := hg 0 _ rfl
    match xs, hlen with
    | [z0], _ =>
      simp only [List.getElem_toArray, List.getElem_cons_zero, List.getElem_cons_succ] at q0
      rw [kp] at q0
      simp [Value.cells] at q0
      obtain ⟨ys, m, _, _, _, hl2, ha⟩ := DataW.trod_array Try.underlying68 q0
      have r0 := ha 0 (by omega)
      have r1 := ha 1 (by omega)
      match ys, hl2 with
      | [y0, y1], _ =>
        rw [ka] at r0 r1
        simp at r0 r1
        obtain ⟨x, X, ca, e0, e1, h1, h2, h3⟩ := area_trod r0
        obtain ⟨y, Y, cb, e2, e3, g1, g2, g3⟩ := area_trod r1
        subst e0 e1 e2 e3
        exact ⟨x, y, X, ca, Y, cb, rfl, ⟨h1, h2⟩, ⟨g1, g2⟩, h3, g3⟩
set_option maxRecDepth 100000 in
/-- An argument that is an act. -/
theorem open_act {H : Type} {enc : TypeId × Value → H} {W : World} {r : Reach} {b0 : Nat} {v : Value} {d : DataW H} {p : List MemPlace} {held : Bool}
    (hv : Value.okWide Try.prog W r b0 72 v) (h : DataW.Trod enc Try.prog W 0 (fun _ => true) held 72 v d p) :
    ∃ (kd ar : Int) (T : Option Addr) (ct : Nat) (tx : List Int), v = .agg #[.int .u8 kd, .int .i64 ar, .slice T tx.length ct] ∧ (tx.length ≤ ct ∧ ct ≤ maxLen) ∧ TAt W T tx := by
  obtain ⟨cs, rfl, hsz⟩ := okWide_struct Try.underlying72 hv
  obtain ⟨l⟩ := cs
  have kl : Try.prog.cellsOf 72 = 3 := by kernel_rfl
  have ki : Try.prog.cellsOf 3 = 1 := by kernel_rfl
  have ku : Try.prog.cellsOf 5 = 1 := by kernel_rfl
  have ks : Try.prog.cellsOf 37 = 1 := by kernel_rfl
  match l, hsz.trans kl with
  | [c0, c1, c2], _ =>
    obtain ⟨fuel, hf⟩ := h
    obtain ⟨xs, n, _, hx, _, hlen, hg⟩ := DataW.trod_struct Try.underlying72 hf
    have q0 := hg 0 _ rfl
    have q1 := hg 1 _ rfl
    have q2 := hg 2 _ rfl
    match xs, hlen with
    | [z0, z1, z2], _ =>
      simp only [List.getElem_toArray, List.getElem_cons_zero, List.getElem_cons_succ] at q0 q1 q2
      rw [ku] at q0
      rw [ki] at q1
      rw [ks] at q2
      simp [Value.cells] at q0 q1 q2
      obtain ⟨kd, e0, _, _⟩ := DataW.trod_int Try.underlying5 q0
      obtain ⟨ar, e1, _, _⟩ := DataW.trod_int Try.underlying3 q1
      obtain ⟨T, ct, tx, e2, h1, h2, h3, _⟩ := text_trod q2
      simp at e0 e1
      subst e0 e1 e2
      exact ⟨kd, ar, T, ct, tx, rfl, ⟨h1, h2⟩, h3⟩
set_option maxRecDepth 100000 in
/-- An argument that is an array of two integers. -/
theorem open_two {H : Type} {enc : TypeId × Value → H} {W : World} {r : Reach} {b0 : Nat} {v : Value} {d : DataW H} {p : List MemPlace} {held : Bool}
    (hv : Value.okWide Try.prog W r b0 73 v) (h : DataW.Trod enc Try.prog W 0 (fun _ => true) held 73 v d p) :
    ∃ (m n : Int), v = .agg #[.int .i64 m, .int .i64 n] := by
  obtain ⟨cs, rfl, hsz⟩ := okWide_array Try.underlying73 hv
  obtain ⟨l⟩ := cs
  have kl : Try.prog.cellsOf 73 = 2 := by kernel_rfl
  have ki : Try.prog.cellsOf 3 = 1 := by kernel_rfl
  match l, hsz.trans kl with
  | [c0, c1], _ =>
    obtain ⟨fuel, hf⟩ := h
    obtain ⟨ys, m, _, _, _, hl2, ha⟩ := DataW.trod_array Try.underlying73 hf
    have r0 := ha 0 (by omega)
    have r1 := ha 1 (by omega)
    match ys, hl2 with
    | [y0, y1], _ =>
      rw [ki] at r0 r1
      simp [Value.cells] at r0 r1
      obtain ⟨m, e0, _, _⟩ := DataW.trod_int Try.underlying3 r0
      obtain ⟨n, e1, _, _⟩ := DataW.trod_int Try.underlying3 r1
      simp at e0 e1
      subst e0 e1
      exact ⟨m, n, rfl⟩
end Go.Proofs.Ytfdldbfjeamlcaa.Lay
