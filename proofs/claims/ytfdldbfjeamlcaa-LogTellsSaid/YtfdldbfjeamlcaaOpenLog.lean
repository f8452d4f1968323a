/- How arguments that are logs, acts, or arrays of two integers are opened. No conditions. -/
import Derived.Deep.Slices
import Derived.Test.YtfdldbfjeamlcaaFrame
import Derived.Test.YtfdldbfjeamlcaaOpenArr
import Derived.Test.YtfdldbfjeamlcaaLogMath
namespace Go.Proofs.Ytfdldbfjeamlcaa.Lay
open Go.ChangeShapes Go.WideShapes Go.ChangeAt Go.RowKit Go.Joins Go.Deep Mem LogMath
set_option linter.unusedVariables false
set_option linter.unusedSimpArgs false

/-- Bytes that came in. -/
theorem text_trod {H : Type} {enc : TypeId × Value → H} {W : World} {held : Bool} {fuel : Nat} {v : Value} {x : DataW H × List MemPlace} (hf : DataW.trod enc Try.prog W 0 (fun _ => true) held fuel 37 [v] = some x) :
    ∃ (Y : Option Addr) (c : Nat) (l : List Int), v = .slice Y l.length c ∧ l.length ≤ c ∧ c ≤ maxLen ∧ TAt W Y l ∧ ∀ n ∈ l, (Lit.int .u8 n).wf = true := by
  rcases open_ints Try.underlying37 Try.underlying5 (by kernel_rfl) hf with ⟨hcs, _⟩ | ⟨a, len, cap, zs, hcs, _, hl, hm, hz, _, hcell, hwz⟩
  · simp at hcs
    exact ⟨none, 0, [], hcs, by simp, by simp [maxLen], TAt.nil, by simp⟩
  · simp at hcs
    have hzl : zs.length = cap := by simpa using hz
    have hlen : (zs.take len).length = len := by simp; omega
    refine ⟨some a, cap, zs.take len, by rw [hcs, hlen], by omega, hm, fun i n hi => ?_, fun n hn => hwz n (List.mem_of_mem_take hn)⟩
    have hil : i < len := by have := (List.getElem?_eq_some_iff.1 hi).1; simp at this; omega
    rw [List.getElem?_take_of_lt hil] at hi
    have hc := hcell i (by omega)
    have h0 := hcell 0 (by omega)
    have h0' : W.cell? a = some (.int .u8 (zs.getD 0 0)) := by
      have e : a.add 0 = a := by obtain ⟨b, o, s⟩ := a; simp [Addr.add]
      rwa [e] at h0
    have hs := World.cell?_spot h0'
    obtain ⟨b, o, s⟩ := a
    simp at hs
    subst hs
    refine ⟨b, o, rfl, block_of_cell h0', ?_⟩
    rw [add_flat] at hc
    rw [hc, List.getD_eq_getElem?_getD, hi]
    rfl
set_option maxRecDepth 100000 in
theorem area_trod {H : Type} {enc : TypeId × Value → H} {W : World} {held : Bool} {fuel : Nat} {c0 c1 : Value} {x : DataW H × List MemPlace} (h : DataW.trod enc Try.prog W 0 (fun _ => true) held fuel 67 [c0, c1] = some x) :
    ∃ (a : AV) (Y : Option Addr) (c : Nat), c0 = .slice Y a.t.length c ∧ c1 = .int .i64 a.k ∧ a.t.length ≤ c ∧ c ≤ maxLen ∧ TAt W Y a.t := by
  obtain ⟨xs, n, _, hx, _, hl, hg⟩ := DataW.trod_struct Try.underlying67 h
  have ki : Try.prog.cellsOf 3 = 1 := by kernel_rfl
  have ks : Try.prog.cellsOf 37 = 1 := by kernel_rfl
  have q0 := hg 0 _ rfl
  have q1 := hg 1 _ rfl
  match xs, hl with
  | [z0, z1], _ =>
    simp only [List.getElem_toArray, List.getElem_cons_zero, List.getElem_cons_succ] at q0 q1
    rw [ks] at q0
    rw [ki] at q1
    simp at q0 q1
    obtain ⟨Y, c, l, e0, h1, h2, h3, _⟩ := text_trod q0
    obtain ⟨k, e1, _, _⟩ := DataW.trod_int Try.underlying3 q1
    simp at e1
    exact ⟨⟨l, k⟩, Y, c, e0, e1, h1, h2, h3⟩
set_option maxRecDepth 100000 in
/-- An argument that is a log. -/
theorem open_log {H : Type} {enc : TypeId × Value → H} {W : World} {r : Reach} {b0 : Nat} {v : Value} {d : DataW H} {p : List MemPlace} {held : Bool}
    (hv : Value.okWide Try.prog W r b0 70 v) (h : DataW.Trod enc Try.prog W 0 (fun _ => true) held 70 v d p) :
    ∃ (x y : AV) (X : Option Addr) (ca : Nat) (Y : Option Addr) (cb : Nat), v = .agg #[.slice X x.t.length ca, .int .i64 x.k, .slice Y y.t.length cb, .int .i64 y.k] ∧ (x.t.length ≤ ca ∧ ca ≤ maxLen) ∧ (y.t.length ≤ cb ∧ cb ≤ maxLen) ∧ TAt W X x.t ∧ TAt W Y y.t := by
  obtain ⟨cs, rfl, hsz⟩ := okWide_struct Try.underlying70 hv
  obtain ⟨l⟩ := cs
  have kl : Try.prog.cellsOf 70 = 4 := by kernel_rfl
  have kp : Try.prog.cellsOf 68 = 4 := by kernel_rfl
  have ka : Try.prog.cellsOf 67 = 2 := by kernel_rfl
  match l, hsz.trans kl with
  | [c0, c1, c2, c3], _ =>
    obtain ⟨fuel, hf⟩ := h
    obtain ⟨xs, n, _, hx, _, hlen, hg⟩ := DataW.trod_struct Try.underlying70 hf
    have q0 := hg 0 _ rfl
    match xs, hlen with
    | [z0], _ =>
      simp only [List.getElem_toArray, List.getElem_cons_zero, List.getElem_cons_succ] at q0
      rw [kp] at q0
      simp [Value.cells] at q0
      obtain ⟨ys, m, _, _, _, hl2, ha⟩ := DataW.trod_array Try.underlying68 q0
      have r0 := ha 0 (by omega)
      have r1 := ha 1 (by omega)
      match ys, hl2 with
      | [y0, y1], _ =>
        rw [ka] at r0 r1
        simp at r0 r1
        obtain ⟨x, X, ca, e0, e1, h1, h2, h3⟩ := area_trod r0
        obtain ⟨y, Y, cb, e2, e3, g1, g2, g3⟩ := area_trod r1
        subst e0 e1 e2 e3
        exact ⟨x, y, X, ca, Y, cb, rfl, ⟨h1, h2⟩, ⟨g1, g2⟩, h3, g3⟩
set_option maxRecDepth 100000 in
/-- An argument that is an act. -/
theorem open_act {H : Type} {enc : TypeId × Value → H} {W : World} {r : Reach} {b0 : Nat} {v : Value} {d : DataW H} {p : List MemPlace} {held : Bool}
    (hv : Value.okWide Try.prog W r b0 72 v) (h : DataW.Trod enc Try.prog W 0 (fun _ => true) held 72 v d p) :
    ∃ (kd ar : Int) (T : Option Addr) (ct : Nat) (tx : List Int), v = .agg #[.int .u8 kd, .int .i64 ar, .slice T tx.length ct] ∧ (tx.length ≤ ct ∧ ct ≤ maxLen) ∧ TAt W T tx := by
  obtain ⟨cs, rfl, hsz⟩ := okWide_struct Try.underlying72 hv
  obtain ⟨l⟩ := cs
  have kl : Try.prog.cellsOf 72 = 3 := by kernel_rfl
  have ki : Try.prog.cellsOf 3 = 1 := by kernel_rfl
  have ku : Try.prog.cellsOf 5 = 1 := by kernel_rfl
  have ks : Try.prog.cellsOf 37 = 1 := by kernel_rfl
  match l, hsz.trans kl with
  | [c0, c1, c2], _ =>
    obtain ⟨fuel, hf⟩ := h
    obtain ⟨xs, n, _, hx, _, hlen, hg⟩ := DataW.trod_struct Try.underlying72 hf
    have q0 := hg 0 _ rfl
    have q1 := hg 1 _ rfl
    have q2 := hg 2 _ rfl
    match xs, hlen with
    | [z0, z1, z2], _ =>
      simp only [List.getElem_toArray, List.getElem_cons_zero, List.getElem_cons_succ] at q0 q1 q2
      rw [ku] at q0
      rw [ki] at q1
      rw [ks] at q2
      simp [Value.cells] at q0 q1 q2
      obtain ⟨kd, e0, _, _⟩ := DataW.trod_int Try.underlying5 q0
      obtain ⟨ar, e1, _, _⟩ := DataW.trod_int Try.underlying3 q1
      obtain ⟨T, ct, tx, e2, h1, h2, h3, _⟩ := text_trod q2
      simp at e0 e1
      subst e0 e1 e2
      exact ⟨kd, ar, T, ct, tx, rfl, ⟨h1, h2⟩, h3⟩
set_option maxRecDepth 100000 in
/-- An argument that is an array of two integers. -/
theorem open_two {H : Type} {enc : TypeId × Value → H} {W : World} {r : Reach} {b0 : Nat} {v : Value} {d : DataW H} {p : List MemPlace} {held : Bool}
    (hv : Value.okWide Try.prog W r b0 73 v) (h : DataW.Trod enc Try.prog W 0 (fun _ => true) held 73 v d p) :
    ∃ (m n : Int), v = .agg #[.int .i64 m, .int .i64 n] := by
  obtain ⟨cs, rfl, hsz⟩ := okWide_array Try.underlying73 hv
  obtain ⟨l⟩ := cs
  have kl : Try.prog.cellsOf 73 = 2 := by kernel_rfl
  have ki : Try.prog.cellsOf 3 = 1 := by kernel_rfl
  match l, hsz.trans kl with
  | [c0, c1], _ =>
    obtain ⟨fuel, hf⟩ := h
    obtain ⟨ys, m, _, _, _, hl2, ha⟩ := DataW.trod_array Try.underlying73 hf
    have r0 := ha 0 (by omega)
    have r1 := ha 1 (by omega)
    match ys, hl2 with
    | [y0, y1], _ =>
      rw [ki] at r0 r1
      simp [Value.cells] at r0 r1
      obtain ⟨m, e0, _, _⟩ := DataW.trod_int Try.underlying3 r0
      obtain ⟨n, e1, _, _⟩ := DataW.trod_int Try.underlying3 r1
      simp at e0 e1
      subst e0 e1
      exact ⟨m, n, rfl⟩
end Go.Proofs.Ytfdldbfjeamlcaa.Lay
