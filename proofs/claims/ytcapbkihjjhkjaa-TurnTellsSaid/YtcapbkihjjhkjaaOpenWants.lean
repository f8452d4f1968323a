/- How arguments that are wants, or three truths, are opened. No conditions but the types'. -/
import Derived.Test.YtcapbkihjjhkjaaOpenArr
import Derived.Test.YtcapbkihjjhkjaaTurnMath
namespace Go.Proofs.Ytcapbkihjjhkjaa.Lay
open Go.ChangeShapes Go.WideShapes Go.ChangeAt Go.RowKit Go.Joins Go.Deep Mem TurnMath
set_option linter.unusedVariables false

theorem open_wants {H : Type} {enc : TypeId × Value → H} {P : Program} {W : World} {r : Reach} {b0 : Nat} {t e eb : TypeId} {f0 f1 f2 : Field} {v : Value} {d : DataW H} {p : List MemPlace} {held : Bool}
    (hs : P.underlying t = some (.struct #[f0, f1, f2])) (hC : P.cellsOf t = 7)
    (he : P.underlying e = some (.int .i64)) (hce : P.cellsOf e = 1) (heb : P.underlying eb = some .bool) (hceb : P.cellsOf eb = 1)
    (t0 : P.underlying f0.type = some (.array 3 e)) (c0 : P.cellsOf f0.type = 3) (o0 : f0.offset = 0)
    (t1 : P.underlying f1.type = some (.array 3 eb)) (c1 : P.cellsOf f1.type = 3) (o1 : f1.offset = 3)
    (t2 : P.underlying f2.type = some .bool) (c2 : P.cellsOf f2.type = 1) (o2 : f2.offset = 6)
    (hv : Value.okWide P W r b0 t v) (h : DataW.Trod enc P W 0 (fun _ => true) held t v d p) :
    ∃ x : WV, v = .agg x.arr ∧ (Lit.int .i64 x.a).wf = true ∧ (Lit.int .i64 x.b).wf = true ∧ (Lit.int .i64 x.c).wf = true := by
  obtain ⟨cs, rfl, hsz⟩ := okWide_struct hs hv
  obtain ⟨l⟩ := cs
  match l, hsz.trans hC with
  | [y0, y1, y2, y3, y4, y5, y6], _ =>
    obtain ⟨fuel, hf⟩ := h
    obtain ⟨xs, n, _, hx, _, hlen, hg⟩ := DataW.trod_struct hs hf
    have q0 := hg 0 f0 rfl
    have q1 := hg 1 f1 rfl
    have q2 := hg 2 f2 rfl
    match xs, hlen with
    | [z0, z1, z2], _ =>
      rw [o0, c0] at q0
      rw [o1, c1] at q1
      rw [o2, c2] at q2
      simp [Value.cells] at q0 q1 q2
      obtain ⟨_, _, _, _, _, a0, a1, a2⟩ := trod_array3 t0 hce q0
      obtain ⟨_, _, _, _, _, b0, b1, b2⟩ := trod_array3 t1 hceb q1
      obtain ⟨n1, e1, _, w1⟩ := DataW.trod_int he a0
      obtain ⟨n2, e2, _, w2⟩ := DataW.trod_int he a1
      obtain ⟨n3, e3, _, w3⟩ := DataW.trod_int he a2
      obtain ⟨n4, e4, _⟩ := DataW.trod_bool heb b0
      obtain ⟨n5, e5, _⟩ := DataW.trod_bool heb b1
      obtain ⟨n6, e6, _⟩ := DataW.trod_bool heb b2
      obtain ⟨n7, e7, _⟩ := DataW.trod_bool t2 q2
      simp at e1 e2 e3 e4 e5 e6 e7
      subst e1 e2 e3 e4 e5 e6 e7
      exact ⟨⟨n1, n2, n3, n4, n5, n6, n7⟩, rfl, w1, w2, w3⟩
theorem open_bools3 {H : Type} {enc : TypeId × Value → H} {P : Program} {W : World} {r : Reach} {b0 : Nat} {t e : TypeId} {v : Value} {d : DataW H} {p : List MemPlace} {sp : Nat → Bool} {held : Bool}
    (ht : P.underlying t = some (.array 3 e)) (he : P.underlying e = some .bool) (hC : P.cellsOf e = 1) (hT : P.cellsOf t = 3) (hv : Value.okWide P W r b0 t v) (h : DataW.Trod enc P W 0 sp held t v d p) :
    ∃ a b c : Bool, v = .agg #[.bool a, .bool b, .bool c] := by
  obtain ⟨cs, rfl, hsz⟩ := okWide_array ht hv
  obtain ⟨c0, c1, c2, rfl⟩ := array3 (hsz.trans hT)
  obtain ⟨fuel, hf⟩ := h
  obtain ⟨y0, y1, y2, n, _, h0, h1, h2⟩ := trod_array3 ht hC hf
  obtain ⟨a, e0, _⟩ := DataW.trod_bool he h0
  obtain ⟨b, e1, _⟩ := DataW.trod_bool he h1
  obtain ⟨c, e2, _⟩ := DataW.trod_bool he h2
  simp at e0 e1 e2
  subst e0 e1 e2
  exact ⟨a, b, c, rfl⟩
end Go.Proofs.Ytcapbkihjjhkjaa.Lay
