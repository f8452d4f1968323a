/- The reference: Done. -/
import Derived.BigQuiet
import Derived.Deep.QuietTactic
import Derived.Deep.RegionLaw
import Derived.Deep.DeepCutAuto
import Derived.Lib.SliceRun
import Derived.Lib.QuietBelow
import Derived.Test.YtfdldbfjeamlcaaLogRef2
namespace Go.Proofs.Ytfdldbfjeamlcaa.LogDoneB
open Go.RowKit Mem LogMath LogProg LogRef1 LogRef2
open Go.Sort (grow)
set_option linter.unusedVariables false
set_option linter.unusedSimpArgs false

set_option maxRecDepth 100000 in
set_option maxHeartbeats 4000000 in
theorem rDone21 (x y : AV) (X : Option Addr) (ca : Nat) (Y : Option Addr) (cb : Nat) (T : Option Addr) (ct : Nat) (tx : List Int) (hx : x.t.length ≤ 262144) (hy : y.t.length ≤ 262144) (htx : tx.length ≤ 262144) (w : World) (hX : TAt w X x.t) (hY : TAt w Y y.t) (hT : TAt w T tx) :
    Calls Try.prog 62 #[.agg #[.slice X x.t.length ca, .int .i64 x.k, .slice Y y.t.length cb, .int .i64 y.k], .agg #[.int .u8 2, .int .i64 1, .slice T tx.length ct]] w fun e w' => ∃ v, e = .returned v ∧ RetL w' w.heap.size ⟨x, ⟨y.t ++ tx, y.k⟩⟩ v ∧ Below w.heap.size w w' := by
  obtain ⟨i0, hi0, hz0, hz1, hz2⟩ := info_parts byte_info
  have HI := Lib.hid (And.intro hi0 (And.intro hz0 (And.intro hz1 hz2)))
  have HT := Lib.hid hT
  clear hi0 hz0 hz1 hz2 hT
  have HX := Lib.hid (And.intro hX hY)
  clear hX hY
  go_enter Try.func62, Try.ntmps62
  go_wp2_with fail
  refine (rTwin x y X ca Y cb (by omega) (by omega) _ (HX.out.1.up (below_alloc (below_alloc (below_alloc (Below.refl _ _))))) (HX.out.2.up (below_alloc (below_alloc (below_alloc (Below.refl _ _)))))).mono ?_
  rintro e w1 ⟨X', ca', Y', cb', rfl, hO, hP, hne, hB1⟩
  have hAct := (blk1 w 72 #[.int .u8 2, .int .i64 1, .slice T tx.length ct] (o := .cells #[.slice X x.t.length ca, .int .i64 x.k, .slice Y y.t.length cb, .int .i64 y.k] 70)).alloc (.cells #[.slice none 0 0, .int .i64 0, .slice none 0 0, .int .i64 0] 70) |>.below hB1 (by simp)
  have hZ := (blk2 w 70 #[.slice none 0 0, .int .i64 0, .slice none 0 0, .int .i64 0] (o := .cells #[.slice X x.t.length ca, .int .i64 x.k, .slice Y y.t.length cb, .int .i64 y.k] 70) (o' := .cells #[.int .u8 2, .int .i64 1, .slice T tx.length ct] 72)).below hB1 (by simp)
  have hB := below_up (below_alloc (below_alloc (below_alloc (Below.refl _ _)))) hB1
  have hs : w.heap.size + 1 + 1 + 1 ≤ w1.heap.size := by have := hB1.size; simpa using this
  rw [show (((w.alloc (.cells #[.slice X x.t.length ca, .int .i64 x.k, .slice Y y.t.length cb, .int .i64 y.k] 70)).alloc (.cells #[.int .u8 2, .int .i64 1, .slice T tx.length ct] 72)).alloc (.cells #[.slice none 0 0, .int .i64 0, .slice none 0 0, .int .i64 0] 70)).heap.size = w.heap.size + 1 + 1 + 1 from by simp] at hO hP
  have k0 : w1.cell? ⟨w.heap.size + 1, 0, none⟩ = some (.int .u8 2) := hAct.cell 0
  have k1 : w1.cell? ⟨w.heap.size + 1, 1, none⟩ = some (.int .i64 1) := hAct.cell 1
  have k2 : w1.cell? ⟨w.heap.size + 1, 2, none⟩ = some (.slice T tx.length ct) := hAct.cell 2
  have H1 := Lib.hid (And.intro hAct (And.intro hZ (And.intro hB (And.intro hO (And.intro hP hne)))))
  clear hAct hZ hB hO hP hne hB1 HX
  go_upto_region 2 with fail
  have hK2 := Blk.new w1 70 #[.slice X' x.t.length ca', .int .i64 x.k, .slice Y' y.t.length cb', .int .i64 y.k]
  have hAct2 := H1.out.1.alloc (.cells #[.slice X' x.t.length ca', .int .i64 x.k, .slice Y' y.t.length cb', .int .i64 y.k] 70)
  have hZ2 := H1.out.2.1.alloc (.cells #[.slice X' x.t.length ca', .int .i64 x.k, .slice Y' y.t.length cb', .int .i64 y.k] 70)
  have hB2 := below_alloc (o := .cells #[.slice X' x.t.length ca', .int .i64 x.k, .slice Y' y.t.length cb', .int .i64 y.k] 70) H1.out.2.2.1
  have hO2 := H1.out.2.2.2.1.alloc (.cells #[.slice X' x.t.length ca', .int .i64 x.k, .slice Y' y.t.length cb', .int .i64 y.k] 70)
  have hP2 := H1.out.2.2.2.2.1.alloc (.cells #[.slice X' x.t.length ca', .int .i64 x.k, .slice Y' y.t.length cb', .int .i64 y.k] 70)
  have hs2 : w1.heap.size < (w1.alloc (.cells #[.slice X' x.t.length ca', .int .i64 x.k, .slice Y' y.t.length cb', .int .i64 y.k] 70)).heap.size := by simp
  have HN := Lib.hid H1.out.2.2.2.2.2
  have HL := Lib.hid (And.intro (fun b h => (H1.out.2.2.2.1.lt b h).2) (fun b h => (H1.out.2.2.2.2.1.lt b h).2))
  clear H1 k0 k1 k2
  generalize w1.alloc (.cells #[.slice X' x.t.length ca', .int .i64 x.k, .slice Y' y.t.length cb', .int .i64 y.k] 70) = w2 at *
  have a0 : w2.cell? ⟨w.heap.size + 1, 0, none⟩ = some (.int .u8 2) := hAct2.cell 0
  have a1 : w2.cell? ⟨w.heap.size + 1, 1, none⟩ = some (.int .i64 1) := hAct2.cell 1
  have a2 : w2.cell? ⟨w.heap.size + 1, 2, none⟩ = some (.slice T tx.length ct) := hAct2.cell 2
  have b0 : w2.cell? ⟨w1.heap.size, 0, none⟩ = some (.slice X' x.t.length ca') := hK2.cell 0
  have b1 : w2.cell? ⟨w1.heap.size, 1, none⟩ = some (.int .i64 x.k) := hK2.cell 1
  have b2 : w2.cell? ⟨w1.heap.size, 2, none⟩ = some (.slice Y' y.t.length cb') := hK2.cell 2
  have b3 : w2.cell? ⟨w1.heap.size, 3, none⟩ = some (.int .i64 y.k) := hK2.cell 3
  have bf0 := hK2.frozen 0
  have bf1 := hK2.frozen 1
  have bf2 := hK2.frozen 2
  have bf3 := hK2.frozen 3
  have ht2 := Lib.hid (TAt.up HT.out hB2)
  have H2 := Lib.hid (And.intro hK2 (And.intro hAct2 (And.intro hZ2 (And.intro hB2 (And.intro hO2 hP2)))))
  clear hK2 hAct2 hZ2 hB2 hO2 hP2
  go_upto_region 6 with fail
  go_region_law (refine step_append_any _ rfl (.tmp 26) (.tmp 28) _ rfl (w.heap.size + 1 + 1 + 1) 5 i0 (.int .u8 0) 1 1 Try.underlying37 HI.out.1 HI.out.2.1 HI.out.2.2.1 HI.out.2.2.2 rfl (by decide) (.slice Y' y.t.length cb') y.t.length (y.t.map (Value.int .u8)) (by simp [Act.eval, Act.put]) (H2.out.2.2.2.2.2.drew) w2.heap.size T tx.length ct (tx.map (Value.int .u8)) (by simp [Act.eval, Act.put]) (Reads.drew ht2.out.reads) (one_cells tx) (by simp only [maxLen]; omega) (by omega) (by have := H2.out.2.2.2.1.size; show _ ≤ w2.heap.size; omega) ?_; intro v3 w3 hown hg hat; rw [← List.map_append] at hown; obtain ⟨X2, cz, rfl⟩ := own_slice hown; have hK3 := H2.out.1.drew.grown hg (fun e => by have := HL.out.2 _ e.symm; simp at this); have q3 : w3.cell? ⟨w1.heap.size, 2, none⟩ = some (.slice Y' y.t.length cb') := hK3.cell 2; have f3 := hK3.frozen 2; have hA3 := H2.out.2.1.drew.grown hg (fun e => own_ne H2.out.2.2.2.2.2 (by omega) e.symm); have r0 : w3.cell? ⟨w.heap.size + 1, 0, none⟩ = some (.int .u8 2) := hA3.cell 0; have r1 : w3.cell? ⟨w.heap.size + 1, 1, none⟩ = some (.int .i64 1) := hA3.cell 1; clear hA3; have H3 := Lib.hid (And.intro hown (And.intro hg (And.intro hat hK3))); clear hown hg hat hK3)
  all_goals
    go_upto_region 9 with fail
    clear a0 a1 a2 b0 bf0 b1 bf1 b2 bf2 b3 bf3
    have hK5 : Blk (w3.setCell ⟨w1.heap.size, 2, none⟩ (.slice X2 (y.t.length + tx.length) cz)) (w1.heap.size) 70 #[.slice X' x.t.length ca', .int .i64 x.k, .slice X2 (y.t.length + tx.length) cz, .int .i64 y.k] := (H3.out.2.2.2.set_ 2 (.slice X2 (y.t.length + tx.length) cz))
    have hZ5 := ((H2.out.2.2.1.drew.grown H3.out.2.1 (fun e => own_ne H2.out.2.2.2.2.2 (by omega) e.symm)).far (p := ⟨w1.heap.size, 2, none⟩) (by show w.heap.size + 1 + 1 ≠ w1.heap.size; omega) (.slice X2 (y.t.length + tx.length) cz))
    have hB5 := ((H2.out.2.2.2.1.drew.grown H3.out.2.1 (by have := H2.out.2.2.2.1.size; simpa using this) (fun j hj => by have := (H2.out.2.2.2.2.2.lt j hj).1; omega)).setCell (p := ⟨w1.heap.size, 2, none⟩) (by show w.heap.size ≤ w1.heap.size; omega) (.slice X2 (y.t.length + tx.length) cz))
    have hnew : (Value.slice X2 (y.t.length + tx.length) cz).ownBlock ≠ some w1.heap.size := fun e => by
      rcases H3.out.2.2.1 with h | h
      · rw [e] at h
        have := HL.out.2 _ h.symm
        simp at this
      · rw [e] at h
        simp at h
        omega
    have hO5 := (Go.ownsRow_setCell_other (World.ownsRow.kept (w' := w3) H2.out.2.2.2.2.1.drew H3.out.2.1 (by
      rcases h : (Value.slice X' x.t.length ca').ownBlock with _ | b
      · exact .inl rfl
      · exact .inr (fun e => (fun b h1 h2 => HN.out b h2 h1) b e.symm h))) (a := ⟨w1.heap.size, 2, none⟩) (fun e => by have := HL.out.1 _ e; simp at this) (.slice X2 (y.t.length + tx.length) cz))
    have hP5 := Go.ownsRow_setCell_other H3.out.1 (a := ⟨w1.heap.size, 2, none⟩) hnew (.slice X2 (y.t.length + tx.length) cz)
    clear H2 H3 q3 f3 r0 r1 hnew
    generalize (w3.setCell ⟨w1.heap.size, 2, none⟩ (.slice X2 (y.t.length + tx.length) cz)) = w9 at *
    have y0 : w9.cell? ⟨w1.heap.size, 0, none⟩ = some (.slice X' x.t.length ca') := hK5.cell 0
    have y1 : w9.cell? ⟨w1.heap.size, 1, none⟩ = some (.int .i64 x.k) := hK5.cell 1
    have y2 : w9.cell? ⟨w1.heap.size, 2, none⟩ = some (.slice X2 (y.t.length + tx.length) cz) := hK5.cell 2
    have y3 : w9.cell? ⟨w1.heap.size, 3, none⟩ = some (.int .i64 y.k) := hK5.cell 3
    have z0 : w9.cell? ⟨w.heap.size + 1 + 1, 0, none⟩ = some (.slice none 0 0) := hZ5.cell 0
    have z1 : w9.cell? ⟨w.heap.size + 1 + 1, 1, none⟩ = some (.int .i64 0) := hZ5.cell 1
    have z2 : w9.cell? ⟨w.heap.size + 1 + 1, 2, none⟩ = some (.slice none 0 0) := hZ5.cell 2
    have z3 : w9.cell? ⟨w.heap.size + 1 + 1, 3, none⟩ = some (.int .i64 0) := hZ5.cell 3
    have zf0 := hZ5.frozen 0
    have zf1 := hZ5.frozen 1
    have zf2 := hZ5.frozen 2
    have zf3 := hZ5.frozen 3
    have hs3 : w.heap.size + 1 + 1 < w9.heap.size := cell_lt z0
    have hs4 : w1.heap.size < w9.heap.size := cell_lt y0
    have H3 := Lib.hid (And.intro hK5 (And.intro hZ5 (And.intro hB5 (And.intro hO5 hP5))))
    clear hK5 hZ5 hB5 hO5 hP5
    go_wp2_with fail
    have hK4 := W4.blk H3.out.2.1 (.slice X' x.t.length ca') (.int .i64 x.k) (.slice X2 (y.t.length + tx.length) cz) (.int .i64 y.k)
    have hB4 := W4.below (g := w.heap.size + 1 + 1) H3.out.2.2.1 (by omega) (.slice X' x.t.length ca') (.int .i64 x.k) (.slice X2 (y.t.length + tx.length) cz) (.int .i64 y.k)
    have hO4 := W4.own (g := w.heap.size + 1 + 1) H3.out.2.2.2.1 (own_ne H3.out.2.2.2.1 (by omega)) (.slice X' x.t.length ca') (.int .i64 x.k) (.slice X2 (y.t.length + tx.length) cz) (.int .i64 y.k)
    have hP4 := W4.own (g := w.heap.size + 1 + 1) H3.out.2.2.2.2 (own_ne H3.out.2.2.2.2 (by omega)) (.slice X' x.t.length ca') (.int .i64 x.k) (.slice X2 (y.t.length + tx.length) cz) (.int .i64 y.k)
    rw [show ((((w9.setCell ⟨w.heap.size + 1 + 1, 0, none⟩ (.slice X' x.t.length ca')).setCell ⟨w.heap.size + 1 + 1, 1, none⟩ (.int .i64 x.k)).setCell ⟨w.heap.size + 1 + 1, 2, none⟩ (.slice X2 (y.t.length + tx.length) cz)).setCell ⟨w.heap.size + 1 + 1, 3, none⟩ (.int .i64 y.k)) = W4 w9 (w.heap.size + 1 + 1) (.slice X' x.t.length ca') (.int .i64 x.k) (.slice X2 (y.t.length + tx.length) cz) (.int .i64 y.k) from rfl]
    generalize W4 w9 (w.heap.size + 1 + 1) (.slice X' x.t.length ca') (.int .i64 x.k) (.slice X2 (y.t.length + tx.length) cz) (.int .i64 y.k) = w4 at *
    clear H3 z0 z1 z2 z3 zf0 zf1 zf2 zf3 y0 y1 y2 y3
    have c0 := hK4.cell 0
    have c1 := hK4.cell 1
    have c2 := hK4.cell 2
    have c3 := hK4.cell 3
    simp only [List.getElem?_toArray, List.getElem?_cons_zero, List.getElem?_cons_succ] at c0 c1 c2 c3
    have e9 : (y.t ++ tx).length = y.t.length + tx.length := List.length_append
    rw [← e9] at hP4
    have hR := RetL.of_own (B := w.heap.size) (m := ⟨x, ⟨y.t ++ tx, y.k⟩⟩) (ownsRow_less hO4 (by omega)) (ownsRow_less hP4 (by omega))
    dsimp only at hR
    rw [e9] at hR
    refine bodyPost_ret (v := .agg #[.slice X' x.t.length ca', .int .i64 x.k, .slice X2 (y.t.length + tx.length) cz, .int .i64 y.k]) (by simp [results, Try.results62, go_sem, c0, c1, c2, c3]) rfl ⟨_, rfl, ?_, hB4⟩
    exact hR
end Go.Proofs.Ytfdldbfjeamlcaa.LogDoneB
