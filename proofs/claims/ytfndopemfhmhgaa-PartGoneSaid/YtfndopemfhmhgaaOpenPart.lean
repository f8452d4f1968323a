/- How an argument that is a partition is opened. No conditions but the types'. -/
import Derived.Test.YtfndopemfhmhgaaOpenArr
import Derived.Test.YtfndopemfhmhgaaPartTurn
namespace Go.Proofs.Ytfndopemfhmhgaa.Lay
open Go.ChangeShapes Go.WideShapes Go.ChangeAt Go.RowKit Go.Joins Go.Deep Mem PartMath PartTurn
set_option linter.unusedVariables false

theorem open_part {H : Type} {enc : TypeId × Value → H} {P : Program} {W : World} {r : Reach} {b0 : Nat} {t e eb : TypeId} {f0 f1 f2 f3 f4 g0 g1 h0 h1 : Field} {v : Value} {d : DataW H} {p : List MemPlace} {held : Bool}
    (hs : P.underlying t = some (.struct #[f0, f1, f2, f3, f4])) (hC : P.cellsOf t = 13)
    (he : P.underlying e = some (.int .i64)) (hce : P.cellsOf e = 1) (heb : P.underlying eb = some .bool) (hceb : P.cellsOf eb = 1)
    (t0 : P.underlying f0.type = some (.int .i64)) (c0 : P.cellsOf f0.type = 1) (o0 : f0.offset = 0)
    (t1 : P.underlying f1.type = some (.struct #[g0, g1])) (c1 : P.cellsOf f1.type = 9) (o1 : f1.offset = 1)
    (t2 : P.underlying f2.type = some (.int .u8)) (c2 : P.cellsOf f2.type = 1) (o2 : f2.offset = 10)
    (t3 : P.underlying f3.type = some (.int .i64)) (c3 : P.cellsOf f3.type = 1) (o3 : f3.offset = 11)
    (t4 : P.underlying f4.type = some (.int .i64)) (c4 : P.cellsOf f4.type = 1) (o4 : f4.offset = 12)
    (u0 : P.underlying g0.type = some (.struct #[h0, h1])) (k0 : P.cellsOf g0.type = 6) (p0 : g0.offset = 0)
    (u1 : P.underlying g1.type = some (.array 3 eb)) (k1 : P.cellsOf g1.type = 3) (p1 : g1.offset = 6)
    (v0 : P.underlying h0.type = some (.array 3 e)) (l0 : P.cellsOf h0.type = 3) (s0 : h0.offset = 0)
    (v1 : P.underlying h1.type = some (.array 3 e)) (l1 : P.cellsOf h1.type = 3) (s1 : h1.offset = 3)
    (hv : Value.okWide P W r b0 t v) (h : DataW.Trod enc P W 0 (fun _ => true) held t v d p) :
    ∃ q : PV, v = .agg q.arr ∧ (Lit.int .i64 q.job).wf = true ∧ (Lit.int .u8 q.ph).wf = true ∧ (Lit.int .i64 q.tt).wf = true ∧ (Lit.int .i64 q.si).wf = true := by
  obtain ⟨cs, rfl, hsz⟩ := okWide_struct hs hv
  obtain ⟨l⟩ := cs
  match l, hsz.trans hC with
  | [y0, y1, y2, y3, y4, y5, y6, y7, y8, y9, y10, y11, y12], _ =>
    obtain ⟨fuel, hf⟩ := h
    obtain ⟨xs, n, _, hx, _, hlen, hg⟩ := DataW.trod_struct hs hf
    have q0 := hg 0 f0 rfl
    have q1 := hg 1 f1 rfl
    have q2 := hg 2 f2 rfl
    have q3 := hg 3 f3 rfl
    have q4 := hg 4 f4 rfl
    match xs, hlen with
    | [z0, z1, z2, z3, z4], _ =>
      rw [o0, c0] at q0
      rw [o1, c1] at q1
      rw [o2, c2] at q2
      rw [o3, c3] at q3
      rw [o4, c4] at q4
      simp [Value.cells] at q0 q1 q2 q3 q4
      obtain ⟨xs1, n1, _, hx1, _, hlen1, hg1⟩ := DataW.trod_struct t1 q1
      have r0 := hg1 0 g0 rfl
      have r1 := hg1 1 g1 rfl
      match xs1, hlen1 with
      | [m0, m1], _ =>
        rw [p0, k0] at r0
        rw [p1, k1] at r1
        simp at r0 r1
        obtain ⟨xs2, n2, _, hx2, _, hlen2, hg2⟩ := DataW.trod_struct u0 r0
        have i0 := hg2 0 h0 rfl
        have i1 := hg2 1 h1 rfl
        match xs2, hlen2 with
        | [j0, j1], _ =>
          rw [s0, l0] at i0
          rw [s1, l1] at i1
          simp at i0 i1
          obtain ⟨_, _, _, _, _, a0, a1, a2⟩ := trod_array3 v0 hce i0
          obtain ⟨_, _, _, _, _, b0, b1, b2⟩ := trod_array3 v1 hce i1
          obtain ⟨_, _, _, _, _, d0, d1, d2⟩ := trod_array3 u1 hceb r1
          obtain ⟨n1, e1, _, _⟩ := DataW.trod_int he a0
          obtain ⟨n2, e2, _, _⟩ := DataW.trod_int he a1
          obtain ⟨n3, e3, _, _⟩ := DataW.trod_int he a2
          obtain ⟨n4, e4, _, _⟩ := DataW.trod_int he b0
          obtain ⟨n5, e5, _, _⟩ := DataW.trod_int he b1
          obtain ⟨n6, e6, _, _⟩ := DataW.trod_int he b2
          obtain ⟨n7, e7, _⟩ := DataW.trod_bool heb d0
          obtain ⟨n8, e8, _⟩ := DataW.trod_bool heb d1
          obtain ⟨n9, e9, _⟩ := DataW.trod_bool heb d2
          obtain ⟨n0, e0, _, w0⟩ := DataW.trod_int t0 q0
          obtain ⟨n10, e10, _, w10⟩ := DataW.trod_int t2 q2
          obtain ⟨n11, e11, _, w11⟩ := DataW.trod_int t3 q3
          obtain ⟨n12, e12, _, w12⟩ := DataW.trod_int t4 q4
          simp at e0 e1 e2 e3 e4 e5 e6 e7 e8 e9 e10 e11 e12
          subst e0 e1 e2 e3 e4 e5 e6 e7 e8 e9 e10 e11 e12
          exact ⟨⟨n0, n1, n2, n3, n4, n5, n6, n7, n8, n9, n10, n11, n12⟩, rfl, w0, w10, w11, w12⟩
end Go.Proofs.Ytfndopemfhmhgaa.Lay
