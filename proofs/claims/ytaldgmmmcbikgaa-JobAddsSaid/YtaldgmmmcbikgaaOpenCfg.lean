/- How an argument that is a config is opened. No conditions but the types'. -/
import Derived.Test.YtaldgmmmcbikgaaOpenCls
import Derived.Test.YtaldgmmmcbikgaaOpenArr
import Derived.Test.YtaldgmmmcbikgaaPartMath
namespace Go.Proofs.Ytaldgmmmcbikgaa.Lay
open Go.ChangeShapes Go.WideShapes Go.ChangeAt Go.RowKit Go.Joins Go.Deep Mem PartMath
set_option linter.unusedVariables false

theorem open_cfg {H : Type} {enc : TypeId × Value → H} {P : Program} {W : World} {r : Reach} {b0 : Nat} {t e tc : TypeId} {f0 f1 f2 f3 f4 f5 g0 g1 g2 g3 : Field} {v : Value} {d : DataW H} {p : List MemPlace} {held : Bool}
    (hs : P.underlying t = some (.struct #[f0, f1, f2, f3, f4, f5])) (hC : P.cellsOf t = 8)
    (h0 : P.underlying f0.type = some (.array 3 e)) (he : P.underlying e = some (.int .i64)) (hce : P.cellsOf e = 1) (hc0 : P.cellsOf f0.type = 3)
    (h1 : P.underlying f1.type = some (.int .i64)) (h2 : P.underlying f2.type = some (.int .i64)) (h3 : P.underlying f3.type = some (.int .i64)) (h4 : P.underlying f4.type = some (.int .i64))
    (hc1 : P.cellsOf f1.type = 1) (hc2 : P.cellsOf f2.type = 1) (hc3 : P.cellsOf f3.type = 1) (hc4 : P.cellsOf f4.type = 1) (hc5 : P.cellsOf f5.type = 1)
    (o0 : f0.offset = 0) (o1 : f1.offset = 3) (o2 : f2.offset = 4) (o3 : f3.offset = 5) (o4 : f4.offset = 6) (o5 : f5.offset = 7)
    (h5 : P.underlying f5.type = some (.slice tc)) (htc : P.underlying tc = some (.struct #[g0, g1, g2, g3]))
    (k0 : P.underlying g0.type = some (.int .i64)) (k1 : P.underlying g1.type = some (.int .i64)) (k2 : P.underlying g2.type = some (.int .i64)) (k3 : P.underlying g3.type = some (.int .i64))
    (hone : oneCellFields P #[g0, g1, g2, g3] = true) (hCc : P.cellsOf tc = 4)
    (hv : Value.okWide P W r b0 t v) (h : DataW.Trod enc P W 0 (fun _ => true) held t v d p) :
    ∃ (a b c bo fr tr ag : Int) (X : Option Addr) (cp : Nat) (ks : List Cls), v = .agg #[.int .i64 a, .int .i64 b, .int .i64 c, .int .i64 bo, .int .i64 fr, .int .i64 tr, .int .i64 ag, .slice X ks.length cp] ∧ ks.length ≤ cp ∧ cp ≤ maxLen ∧ ClsAt W W.heap.size X ks ∧
      (Lit.int .i64 a).wf = true ∧ (Lit.int .i64 b).wf = true ∧ (Lit.int .i64 c).wf = true ∧ (Lit.int .i64 bo).wf = true ∧ (Lit.int .i64 fr).wf = true ∧ (Lit.int .i64 tr).wf = true ∧ (Lit.int .i64 ag).wf = true := by
  obtain ⟨cs, rfl, hsz⟩ := okWide_struct hs hv
  obtain ⟨l⟩ := cs
  match l, hsz.trans hC with
  | [c0, c1, c2, c3, c4, c5, c6, c7], _ =>
    obtain ⟨fuel, hf⟩ := h
    obtain ⟨xs, n, _, hx, _, hlen, hg⟩ := DataW.trod_struct hs hf
    have q0 := hg 0 f0 rfl
    have q1 := hg 1 f1 rfl
    have q2 := hg 2 f2 rfl
    have q3 := hg 3 f3 rfl
    have q4 := hg 4 f4 rfl
    have q5 := hg 5 f5 rfl
    match xs, hlen with
    | [y0, y1, y2, y3, y4, y5], _ =>
      rw [o0, hc0] at q0
      rw [o1, hc1] at q1
      rw [o2, hc2] at q2
      rw [o3, hc3] at q3
      rw [o4, hc4] at q4
      rw [o5, hc5] at q5
      simp [Value.cells] at q0 q1 q2 q3 q4 q5
      obtain ⟨z0, z1, z2, m, _, r0, r1, r2⟩ := trod_array3 h0 hce q0
      obtain ⟨a, e0, _, wa⟩ := DataW.trod_int he r0
      obtain ⟨b, e1, _, wb⟩ := DataW.trod_int he r1
      obtain ⟨c, e2, _, wc⟩ := DataW.trod_int he r2
      obtain ⟨bo, e3, _, w3⟩ := DataW.trod_int h1 q1
      obtain ⟨fr, e4, _, w4⟩ := DataW.trod_int h2 q2
      obtain ⟨tr, e5, _, w5⟩ := DataW.trod_int h3 q3
      obtain ⟨ag, e6, _, w6⟩ := DataW.trod_int h4 q4
      obtain ⟨X, cp, ks, e7, hl, hm, hk⟩ := open_fours h5 htc k0 k1 k2 k3 hone hCc q5
      simp at e0 e1 e2 e3 e4 e5 e6 e7
      subst e0 e1 e2 e3 e4 e5 e6 e7
      exact ⟨a, b, c, bo, fr, tr, ag, X, cp, ks, rfl, hl, hm, hk, wa, wb, wc, w3, w4, w5, w6⟩
end Go.Proofs.Ytaldgmmmcbikgaa.Lay
