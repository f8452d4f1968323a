/- The reference: Done. -/
import Derived.BigQuiet
import Derived.Deep.QuietTactic
import Derived.Deep.RegionLaw
import Derived.Deep.DeepCutAuto
import Derived.Lib.SliceRun
import Derived.Lib.QuietBelow
import Derived.Test.YtfdldbfjeamlcaaLogRef2
namespace Go.Proofs.Ytfdldbfjeamlcaa.LogDone
open Go.RowKit Mem LogMath LogProg LogRef1 LogRef2
open Go.Sort (grow)
set_option linter.unusedVariables false
set_option linter.unusedSimpArgs false

set_option maxRecDepth 100000 in
set_option maxHeartbeats 4000000 in
theorem rDone10 (x y : AV) (X : Option Addr) (ca : Nat) (Y : Option Addr) (cb : Nat) (T : Option Addr) (ct : Nat) (tx : List Int) (hx : x.t.length ≤ 262144) (hy : y.t.length ≤ 262144) (htx : tx.length ≤ 262144) (w : World) (hX : TAt w X x.t) (hY : TAt w Y y.t) :
    Calls Try.prog 62 #[.agg #[.slice X x.t.length ca, .int .i64 x.k, .slice Y y.t.length cb, .int .i64 y.k], .agg #[.int .u8 1, .int .i64 0, .slice T tx.length ct]] w fun e w' => ∃ v, e = .returned v ∧ RetL w' w.heap.size ⟨AV.z, y⟩ v ∧ Below w.heap.size w w' := by
  have HX := Lib.hid (And.intro hX hY)
  clear hX hY
  go_enter Try.func62, Try.ntmps62
  go_wp2_with fail
  refine (rTwin x y X ca Y cb (by omega) (by omega) _ (HX.out.1.up (below_alloc (below_alloc (below_alloc (Below.refl _ _))))) (HX.out.2.up (below_alloc (below_alloc (below_alloc (Below.refl _ _)))))).mono ?_
  rintro e w1 ⟨X', ca', Y', cb', rfl, hO, hP, hne, hB1⟩
  have hAct := (blk1 w 72 #[.int .u8 1, .int .i64 0, .slice T tx.length ct] (o := .cells #[.slice X x.t.length ca, .int .i64 x.k, .slice Y y.t.length cb, .int .i64 y.k] 70)).alloc (.cells #[.slice none 0 0, .int .i64 0, .slice none 0 0, .int .i64 0] 70) |>.below hB1 (by simp)
  have hZ := (blk2 w 70 #[.slice none 0 0, .int .i64 0, .slice none 0 0, .int .i64 0] (o := .cells #[.slice X x.t.length ca, .int .i64 x.k, .slice Y y.t.length cb, .int .i64 y.k] 70) (o' := .cells #[.int .u8 1, .int .i64 0, .slice T tx.length ct] 72)).below hB1 (by simp)
  have hB := below_up (below_alloc (below_alloc (below_alloc (Below.refl _ _)))) hB1
  have hs : w.heap.size + 1 + 1 + 1 ≤ w1.heap.size := by have := hB1.size; simpa using this
  rw [show (((w.alloc (.cells #[.slice X x.t.length ca, .int .i64 x.k, .slice Y y.t.length cb, .int .i64 y.k] 70)).alloc (.cells #[.int .u8 1, .int .i64 0, .slice T tx.length ct] 72)).alloc (.cells #[.slice none 0 0, .int .i64 0, .slice none 0 0, .int .i64 0] 70)).heap.size = w.heap.size + 1 + 1 + 1 from by simp] at hO hP
  have k0 : w1.cell? ⟨w.heap.size + 1, 0, none⟩ = some (.int .u8 1) := hAct.cell 0
  have k1 : w1.cell? ⟨w.heap.size + 1, 1, none⟩ = some (.int .i64 0) := hAct.cell 1
  have k2 : w1.cell? ⟨w.heap.size + 1, 2, none⟩ = some (.slice T tx.length ct) := hAct.cell 2
  have H1 := Lib.hid (And.intro hAct (And.intro hZ (And.intro hB (And.intro hO (And.intro hP hne)))))
  clear hAct hZ hB hO hP hne hB1 HX
  go_upto_region 2 with fail
  have hK2 := Blk.new w1 70 #[.slice X' x.t.length ca', .int .i64 x.k, .slice Y' y.t.length cb', .int .i64 y.k]
  have hAct2 := H1.out.1.alloc (.cells #[.slice X' x.t.length ca', .int .i64 x.k, .slice Y' y.t.length cb', .int .i64 y.k] 70)
  have hZ2 := H1.out.2.1.alloc (.cells #[.slice X' x.t.length ca', .int .i64 x.k, .slice Y' y.t.length cb', .int .i64 y.k] 70)
  have hB2 := below_alloc (o := .cells #[.slice X' x.t.length ca', .int .i64 x.k, .slice Y' y.t.length cb', .int .i64 y.k] 70) H1.out.2.2.1
  have hO2 := H1.out.2.2.2.1.alloc (.cells #[.slice X' x.t.length ca', .int .i64 x.k, .slice Y' y.t.length cb', .int .i64 y.k] 70)
  have hP2 := H1.out.2.2.2.2.1.alloc (.cells #[.slice X' x.t.length ca', .int .i64 x.k, .slice Y' y.t.length cb', .int .i64 y.k] 70)
  have hs2 : w1.heap.size < (w1.alloc (.cells #[.slice X' x.t.length ca', .int .i64 x.k, .slice Y' y.t.length cb', .int .i64 y.k] 70)).heap.size := by simp
  have HN := Lib.hid H1.out.2.2.2.2.2
  have HL := Lib.hid (And.intro (fun b h => (H1.out.2.2.2.1.lt b h).2) (fun b h => (H1.out.2.2.2.2.1.lt b h).2))
  clear H1 k0 k1 k2
  generalize w1.alloc (.cells #[.slice X' x.t.length ca', .int .i64 x.k, .slice Y' y.t.length cb', .int .i64 y.k] 70) = w2 at *
  have a0 : w2.cell? ⟨w.heap.size + 1, 0, none⟩ = some (.int .u8 1) := hAct2.cell 0
  have a1 : w2.cell? ⟨w.heap.size + 1, 1, none⟩ = some (.int .i64 0) := hAct2.cell 1
  have a2 : w2.cell? ⟨w.heap.size + 1, 2, none⟩ = some (.slice T tx.length ct) := hAct2.cell 2
  have b0 : w2.cell? ⟨w1.heap.size, 0, none⟩ = some (.slice X' x.t.length ca') := hK2.cell 0
  have b1 : w2.cell? ⟨w1.heap.size, 1, none⟩ = some (.int .i64 x.k) := hK2.cell 1
  have b2 : w2.cell? ⟨w1.heap.size, 2, none⟩ = some (.slice Y' y.t.length cb') := hK2.cell 2
  have b3 : w2.cell? ⟨w1.heap.size, 3, none⟩ = some (.int .i64 y.k) := hK2.cell 3
  have bf0 := hK2.frozen 0
  have bf1 := hK2.frozen 1
  have bf2 := hK2.frozen 2
  have bf3 := hK2.frozen 3
  have H2 := Lib.hid (And.intro hK2 (And.intro hAct2 (And.intro hZ2 (And.intro hB2 (And.intro hO2 hP2)))))
  clear hK2 hAct2 hZ2 hB2 hO2 hP2
  go_upto_region 9 with fail
  clear a0 a1 a2 b0 bf0 b1 bf1 b2 bf2 b3 bf3
  have hK3 : Blk ((w2.setCell ⟨w1.heap.size, 0, none⟩ (.slice none 0 0)).setCell ⟨w1.heap.size, 1, none⟩ (.int .i64 0)) (w1.heap.size) 70 #[.slice none 0 0, .int .i64 0, .slice Y' y.t.length cb', .int .i64 y.k] := ((H2.out.1.set_ 0 (.slice none 0 0)).set_ 1 (.int .i64 0))
  have hZ3 := ((H2.out.2.2.1.far (p := ⟨w1.heap.size, 0, none⟩) (by show w.heap.size + 1 + 1 ≠ w1.heap.size; omega) (.slice none 0 0)).far (p := ⟨w1.heap.size, 1, none⟩) (by show w.heap.size + 1 + 1 ≠ w1.heap.size; omega) (.int .i64 0))
  have hB3 := ((H2.out.2.2.2.1.setCell (p := ⟨w1.heap.size, 0, none⟩) (by show w.heap.size ≤ w1.heap.size; omega) (.slice none 0 0)).setCell (p := ⟨w1.heap.size, 1, none⟩) (by show w.heap.size ≤ w1.heap.size; omega) (.int .i64 0))
  have hO3 := (show TOwn ((w2.setCell ⟨w1.heap.size, 0, none⟩ (.slice none 0 0)).setCell ⟨w1.heap.size, 1, none⟩ (.int .i64 0)) (w.heap.size + 1 + 1 + 1) (.slice none 0 0) [] from World.ownsRow_nil _ _ _ _)
  have hP3 := (Go.ownsRow_setCell_other (Go.ownsRow_setCell_other H2.out.2.2.2.2.2 (a := ⟨w1.heap.size, 0, none⟩) (fun e => by have := HL.out.2 _ e; simp at this) (.slice none 0 0)) (a := ⟨w1.heap.size, 1, none⟩) (fun e => by have := HL.out.2 _ e; simp at this) (.int .i64 0))
  clear H2
  generalize ((w2.setCell ⟨w1.heap.size, 0, none⟩ (.slice none 0 0)).setCell ⟨w1.heap.size, 1, none⟩ (.int .i64 0)) = w3 at *
  have y0 : w3.cell? ⟨w1.heap.size, 0, none⟩ = some (.slice none 0 0) := hK3.cell 0
  have y1 : w3.cell? ⟨w1.heap.size, 1, none⟩ = some (.int .i64 0) := hK3.cell 1
  have y2 : w3.cell? ⟨w1.heap.size, 2, none⟩ = some (.slice Y' y.t.length cb') := hK3.cell 2
  have y3 : w3.cell? ⟨w1.heap.size, 3, none⟩ = some (.int .i64 y.k) := hK3.cell 3
  have z0 : w3.cell? ⟨w.heap.size + 1 + 1, 0, none⟩ = some (.slice none 0 0) := hZ3.cell 0
  have z1 : w3.cell? ⟨w.heap.size + 1 + 1, 1, none⟩ = some (.int .i64 0) := hZ3.cell 1
  have z2 : w3.cell? ⟨w.heap.size + 1 + 1, 2, none⟩ = some (.slice none 0 0) := hZ3.cell 2
  have z3 : w3.cell? ⟨w.heap.size + 1 + 1, 3, none⟩ = some (.int .i64 0) := hZ3.cell 3
  have zf0 := hZ3.frozen 0
  have zf1 := hZ3.frozen 1
  have zf2 := hZ3.frozen 2
  have zf3 := hZ3.frozen 3
  have hs3 : w.heap.size + 1 + 1 < w3.heap.size := cell_lt z0
  have hs4 : w1.heap.size < w3.heap.size := cell_lt y0
  have H3 := Lib.hid (And.intro hK3 (And.intro hZ3 (And.intro hB3 (And.intro hO3 hP3))))
  clear hK3 hZ3 hB3 hO3 hP3
  go_wp2_with fail
  have hK4 := W4.blk H3.out.2.1 (.slice none 0 0) (.int .i64 0) (.slice Y' y.t.length cb') (.int .i64 y.k)
  have hB4 := W4.below (g := w.heap.size + 1 + 1) H3.out.2.2.1 (by omega) (.slice none 0 0) (.int .i64 0) (.slice Y' y.t.length cb') (.int .i64 y.k)
  have hO4 := W4.own (g := w.heap.size + 1 + 1) H3.out.2.2.2.1 (own_ne H3.out.2.2.2.1 (by omega)) (.slice none 0 0) (.int .i64 0) (.slice Y' y.t.length cb') (.int .i64 y.k)
  have hP4 := W4.own (g := w.heap.size + 1 + 1) H3.out.2.2.2.2 (own_ne H3.out.2.2.2.2 (by omega)) (.slice none 0 0) (.int .i64 0) (.slice Y' y.t.length cb') (.int .i64 y.k)
  rw [show ((((w3.setCell ⟨w.heap.size + 1 + 1, 0, none⟩ (.slice none 0 0)).setCell ⟨w.heap.size + 1 + 1, 1, none⟩ (.int .i64 0)).setCell ⟨w.heap.size + 1 + 1, 2, none⟩ (.slice Y' y.t.length cb')).setCell ⟨w.heap.size + 1 + 1, 3, none⟩ (.int .i64 y.k)) = W4 w3 (w.heap.size + 1 + 1) (.slice none 0 0) (.int .i64 0) (.slice Y' y.t.length cb') (.int .i64 y.k) from rfl]
  generalize W4 w3 (w.heap.size + 1 + 1) (.slice none 0 0) (.int .i64 0) (.slice Y' y.t.length cb') (.int .i64 y.k) = w4 at *
  clear H3 z0 z1 z2 z3 zf0 zf1 zf2 zf3 y0 y1 y2 y3
  have c0 := hK4.cell 0
  have c1 := hK4.cell 1
  have c2 := hK4.cell 2
  have c3 := hK4.cell 3
  simp only [List.getElem?_toArray, List.getElem?_cons_zero, List.getElem?_cons_succ] at c0 c1 c2 c3
  have hR := RetL.of_own (B := w.heap.size) (m := ⟨AV.z, y⟩) (ownsRow_less hO4 (by omega)) (ownsRow_less hP4 (by omega))
  refine bodyPost_ret (v := .agg #[.slice none 0 0, .int .i64 0, .slice Y' y.t.length cb', .int .i64 y.k]) (by simp [results, Try.results62, go_sem, c0, c1, c2, c3]) rfl ⟨_, rfl, ?_, hB4⟩
  exact hR
set_option maxRecDepth 100000 in
set_option maxHeartbeats 4000000 in
theorem rDone11 (x y : AV) (X : Option Addr) (ca : Nat) (Y : Option Addr) (cb : Nat) (T : Option Addr) (ct : Nat) (tx : List Int) (hx : x.t.length ≤ 262144) (hy : y.t.length ≤ 262144) (htx : tx.length ≤ 262144) (w : World) (hX : TAt w X x.t) (hY : TAt w Y y.t) :
    Calls Try.prog 62 #[.agg #[.slice X x.t.length ca, .int .i64 x.k, .slice Y y.t.length cb, .int .i64 y.k], .agg #[.int .u8 1, .int .i64 1, .slice T tx.length ct]] w fun e w' => ∃ v, e = .returned v ∧ RetL w' w.heap.size ⟨x, AV.z⟩ v ∧ Below w.heap.size w w' := by
  have HX := Lib.hid (And.intro hX hY)
  clear hX hY
  go_enter Try.func62, Try.ntmps62
  go_wp2_with fail
  refine (rTwin x y X ca Y cb (by omega) (by omega) _ (HX.out.1.up (below_alloc (below_alloc (below_alloc (Below.refl _ _))))) (HX.out.2.up (below_alloc (below_alloc (below_alloc (Below.refl _ _)))))).mono ?_
  rintro e w1 ⟨X', ca', Y', cb', rfl, hO, hP, hne, hB1⟩
  have hAct := (blk1 w 72 #[.int .u8 1, .int .i64 1, .slice T tx.length ct] (o := .cells #[.slice X x.t.length ca, .int .i64 x.k, .slice Y y.t.length cb, .int .i64 y.k] 70)).alloc (.cells #[.slice none 0 0, .int .i64 0, .slice none 0 0, .int .i64 0] 70) |>.below hB1 (by simp)
  have hZ := (blk2 w 70 #[.slice none 0 0, .int .i64 0, .slice none 0 0, .int .i64 0] (o := .cells #[.slice X x.t.length ca, .int .i64 x.k, .slice Y y.t.length cb, .int .i64 y.k] 70) (o' := .cells #[.int .u8 1, .int .i64 1, .slice T tx.length ct] 72)).below hB1 (by simp)
  have hB := below_up (below_alloc (below_alloc (below_alloc (Below.refl _ _)))) hB1
  have hs : w.heap.size + 1 + 1 + 1 ≤ w1.heap.size := by have := hB1.size; simpa using this
  rw [show (((w.alloc (.cells #[.slice X x.t.length ca, .int .i64 x.k, .slice Y y.t.length cb, .int .i64 y.k] 70)).alloc (.cells #[.int .u8 1, .int .i64 1, .slice T tx.length ct] 72)).alloc (.cells #[.slice none 0 0, .int .i64 0, .slice none 0 0, .int .i64 0] 70)).heap.size = w.heap.size + 1 + 1 + 1 from by simp] at hO hP
  have k0 : w1.cell? ⟨w.heap.size + 1, 0, none⟩ = some (.int .u8 1) := hAct.cell 0
  have k1 : w1.cell? ⟨w.heap.size + 1, 1, none⟩ = some (.int .i64 1) := hAct.cell 1
  have k2 : w1.cell? ⟨w.heap.size + 1, 2, none⟩ = some (.slice T tx.length ct) := hAct.cell 2
  have H1 := Lib.hid (And.intro hAct (And.intro hZ (And.intro hB (And.intro hO (And.intro hP hne)))))
  clear hAct hZ hB hO hP hne hB1 HX
  go_upto_region 2 with fail
  have hK2 := Blk.new w1 70 #[.slice X' x.t.length ca', .int .i64 x.k, .slice Y' y.t.length cb', .int .i64 y.k]
  have hAct2 := H1.out.1.alloc (.cells #[.slice X' x.t.length ca', .int .i64 x.k, .slice Y' y.t.length cb', .int .i64 y.k] 70)
  have hZ2 := H1.out.2.1.alloc (.cells #[.slice X' x.t.length ca', .int .i64 x.k, .slice Y' y.t.length cb', .int .i64 y.k] 70)
  have hB2 := below_alloc (o := .cells #[.slice X' x.t.length ca', .int .i64 x.k, .slice Y' y.t.length cb', .int .i64 y.k] 70) H1.out.2.2.1
  have hO2 := H1.out.2.2.2.1.alloc (.cells #[.slice X' x.t.length ca', .int .i64 x.k, .slice Y' y.t.length cb', .int .i64 y.k] 70)
  have hP2 := H1.out.2.2.2.2.1.alloc (.cells #[.slice X' x.t.length ca', .int .i64 x.k, .slice Y' y.t.length cb', .int .i64 y.k] 70)
  have hs2 : w1.heap.size < (w1.alloc (.cells #[.slice X' x.t.length ca', .int .i64 x.k, .slice Y' y.t.length cb', .int .i64 y.k] 70)).heap.size := by simp
  have HN := Lib.hid H1.out.2.2.2.2.2
  have HL := Lib.hid (And.intro (fun b h => (H1.out.2.2.2.1.lt b h).2) (fun b h => (H1.out.2.2.2.2.1.lt b h).2))
  clear H1 k0 k1 k2
  generalize w1.alloc (.cells #[.slice X' x.t.length ca', .int .i64 x.k, .slice Y' y.t.length cb', .int .i64 y.k] 70) = w2 at *
  have a0 : w2.cell? ⟨w.heap.size + 1, 0, none⟩ = some (.int .u8 1) := hAct2.cell 0
  have a1 : w2.cell? ⟨w.heap.size + 1, 1, none⟩ = some (.int .i64 1) := hAct2.cell 1
  have a2 : w2.cell? ⟨w.heap.size + 1, 2, none⟩ = some (.slice T tx.length ct) := hAct2.cell 2
  have b0 : w2.cell? ⟨w1.heap.size, 0, none⟩ = some (.slice X' x.t.length ca') := hK2.cell 0
  have b1 : w2.cell? ⟨w1.heap.size, 1, none⟩ = some (.int .i64 x.k) := hK2.cell 1
  have b2 : w2.cell? ⟨w1.heap.size, 2, none⟩ = some (.slice Y' y.t.length cb') := hK2.cell 2
  have b3 : w2.cell? ⟨w1.heap.size, 3, none⟩ = some (.int .i64 y.k) := hK2.cell 3
  have bf0 := hK2.frozen 0
  have bf1 := hK2.frozen 1
  have bf2 := hK2.frozen 2
  have bf3 := hK2.frozen 3
  have H2 := Lib.hid (And.intro hK2 (And.intro hAct2 (And.intro hZ2 (And.intro hB2 (And.intro hO2 hP2)))))
  clear hK2 hAct2 hZ2 hB2 hO2 hP2
  go_upto_region 9 with fail
  clear a0 a1 a2 b0 bf0 b1 bf1 b2 bf2 b3 bf3
  have hK3 : Blk ((w2.setCell ⟨w1.heap.size, 2, none⟩ (.slice none 0 0)).setCell ⟨w1.heap.size, 3, none⟩ (.int .i64 0)) (w1.heap.size) 70 #[.slice X' x.t.length ca', .int .i64 x.k, .slice none 0 0, .int .i64 0] := ((H2.out.1.set_ 2 (.slice none 0 0)).set_ 3 (.int .i64 0))
  have hZ3 := ((H2.out.2.2.1.far (p := ⟨w1.heap.size, 2, none⟩) (by show w.heap.size + 1 + 1 ≠ w1.heap.size; omega) (.slice none 0 0)).far (p := ⟨w1.heap.size, 3, none⟩) (by show w.heap.size + 1 + 1 ≠ w1.heap.size; omega) (.int .i64 0))
  have hB3 := ((H2.out.2.2.2.1.setCell (p := ⟨w1.heap.size, 2, none⟩) (by show w.heap.size ≤ w1.heap.size; omega) (.slice none 0 0)).setCell (p := ⟨w1.heap.size, 3, none⟩) (by show w.heap.size ≤ w1.heap.size; omega) (.int .i64 0))
  have hO3 := (Go.ownsRow_setCell_other (Go.ownsRow_setCell_other H2.out.2.2.2.2.1 (a := ⟨w1.heap.size, 2, none⟩) (fun e => by have := HL.out.1 _ e; simp at this) (.slice none 0 0)) (a := ⟨w1.heap.size, 3, none⟩) (fun e => by have := HL.out.1 _ e; simp at this) (.int .i64 0))
  have hP3 := (show TOwn ((w2.setCell ⟨w1.heap.size, 2, none⟩ (.slice none 0 0)).setCell ⟨w1.heap.size, 3, none⟩ (.int .i64 0)) (w.heap.size + 1 + 1 + 1) (.slice none 0 0) [] from World.ownsRow_nil _ _ _ _)
  clear H2
  generalize ((w2.setCell ⟨w1.heap.size, 2, none⟩ (.slice none 0 0)).setCell ⟨w1.heap.size, 3, none⟩ (.int .i64 0)) = w3 at *
  have y0 : w3.cell? ⟨w1.heap.size, 0, none⟩ = some (.slice X' x.t.length ca') := hK3.cell 0
  have y1 : w3.cell? ⟨w1.heap.size, 1, none⟩ = some (.int .i64 x.k) := hK3.cell 1
  have y2 : w3.cell? ⟨w1.heap.size, 2, none⟩ = some (.slice none 0 0) := hK3.cell 2
  have y3 : w3.cell? ⟨w1.heap.size, 3, none⟩ = some (.int .i64 0) := hK3.cell 3
  have z0 : w3.cell? ⟨w.heap.size + 1 + 1, 0, none⟩ = some (.slice none 0 0) := hZ3.cell 0
  have z1 : w3.cell? ⟨w.heap.size + 1 + 1, 1, none⟩ = some (.int .i64 0) := hZ3.cell 1
  have z2 : w3.cell? ⟨w.heap.size + 1 + 1, 2, none⟩ = some (.slice none 0 0) := hZ3.cell 2
  have z3 : w3.cell? ⟨w.heap.size + 1 + 1, 3, none⟩ = some (.int .i64 0) := hZ3.cell 3
  have zf0 := hZ3.frozen 0
  have zf1 := hZ3.frozen 1
  have zf2 := hZ3.frozen 2
  have zf3 := hZ3.frozen 3
  have hs3 : w.heap.size + 1 + 1 < w3.heap.size := cell_lt z0
  have hs4 : w1.heap.size < w3.heap.size := cell_lt y0
  have H3 := Lib.hid (And.intro hK3 (And.intro hZ3 (And.intro hB3 (And.intro hO3 hP3))))
  clear hK3 hZ3 hB3 hO3 hP3
  go_wp2_with fail
  have hK4 := W4.blk H3.out.2.1 (.slice X' x.t.length ca') (.int .i64 x.k) (.slice none 0 0) (.int .i64 0)
  have hB4 := W4.below (g := w.heap.size + 1 + 1) H3.out.2.2.1 (by omega) (.slice X' x.t.length ca') (.int .i64 x.k) (.slice none 0 0) (.int .i64 0)
  have hO4 := W4.own (g := w.heap.size + 1 + 1) H3.out.2.2.2.1 (own_ne H3.out.2.2.2.1 (by omega)) (.slice X' x.t.length ca') (.int .i64 x.k) (.slice none 0 0) (.int .i64 0)
  have hP4 := W4.own (g := w.heap.size + 1 + 1) H3.out.2.2.2.2 (own_ne H3.out.2.2.2.2 (by omega)) (.slice X' x.t.length ca') (.int .i64 x.k) (.slice none 0 0) (.int .i64 0)
  rw [show ((((w3.setCell ⟨w.heap.size + 1 + 1, 0, none⟩ (.slice X' x.t.length ca')).setCell ⟨w.heap.size + 1 + 1, 1, none⟩ (.int .i64 x.k)).setCell ⟨w.heap.size + 1 + 1, 2, none⟩ (.slice none 0 0)).setCell ⟨w.heap.size + 1 + 1, 3, none⟩ (.int .i64 0)) = W4 w3 (w.heap.size + 1 + 1) (.slice X' x.t.length ca') (.int .i64 x.k) (.slice none 0 0) (.int .i64 0) from rfl]
  generalize W4 w3 (w.heap.size + 1 + 1) (.slice X' x.t.length ca') (.int .i64 x.k) (.slice none 0 0) (.int .i64 0) = w4 at *
  clear H3 z0 z1 z2 z3 zf0 zf1 zf2 zf3 y0 y1 y2 y3
  have c0 := hK4.cell 0
  have c1 := hK4.cell 1
  have c2 := hK4.cell 2
  have c3 := hK4.cell 3
  simp only [List.getElem?_toArray, List.getElem?_cons_zero, List.getElem?_cons_succ] at c0 c1 c2 c3
  have hR := RetL.of_own (B := w.heap.size) (m := ⟨x, AV.z⟩) (ownsRow_less hO4 (by omega)) (ownsRow_less hP4 (by omega))
  refine bodyPost_ret (v := .agg #[.slice X' x.t.length ca', .int .i64 x.k, .slice none 0 0, .int .i64 0]) (by simp [results, Try.results62, go_sem, c0, c1, c2, c3]) rfl ⟨_, rfl, ?_, hB4⟩
  exact hR
set_option maxRecDepth 100000 in
set_option maxHeartbeats 4000000 in
theorem rDone30 (x y : AV) (X : Option Addr) (ca : Nat) (Y : Option Addr) (cb : Nat) (T : Option Addr) (ct : Nat) (tx : List Int) (hx : x.t.length ≤ 262144) (hy : y.t.length ≤ 262144) (htx : tx.length ≤ 262144) (w : World) (hX : TAt w X x.t) (hY : TAt w Y y.t) :
    Calls Try.prog 62 #[.agg #[.slice X x.t.length ca, .int .i64 x.k, .slice Y y.t.length cb, .int .i64 y.k], .agg #[.int .u8 3, .int .i64 0, .slice T tx.length ct]] w fun e w' => ∃ v, e = .returned v ∧ RetL w' w.heap.size ⟨⟨x.t, (x.t.length : Int)⟩, y⟩ v ∧ Below w.heap.size w w' := by
  have HX := Lib.hid (And.intro hX hY)
  clear hX hY
  go_enter Try.func62, Try.ntmps62
  go_wp2_with fail
  refine (rTwin x y X ca Y cb (by omega) (by omega) _ (HX.out.1.up (below_alloc (below_alloc (below_alloc (Below.refl _ _))))) (HX.out.2.up (below_alloc (below_alloc (below_alloc (Below.refl _ _)))))).mono ?_
  rintro e w1 ⟨X', ca', Y', cb', rfl, hO, hP, hne, hB1⟩
  have hAct := (blk1 w 72 #[.int .u8 3, .int .i64 0, .slice T tx.length ct] (o := .cells #[.slice X x.t.length ca, .int .i64 x.k, .slice Y y.t.length cb, .int .i64 y.k] 70)).alloc (.cells #[.slice none 0 0, .int .i64 0, .slice none 0 0, .int .i64 0] 70) |>.below hB1 (by simp)
  have hZ := (blk2 w 70 #[.slice none 0 0, .int .i64 0, .slice none 0 0, .int .i64 0] (o := .cells #[.slice X x.t.length ca, .int .i64 x.k, .slice Y y.t.length cb, .int .i64 y.k] 70) (o' := .cells #[.int .u8 3, .int .i64 0, .slice T tx.length ct] 72)).below hB1 (by simp)
  have hB := below_up (below_alloc (below_alloc (below_alloc (Below.refl _ _)))) hB1
  have hs : w.heap.size + 1 + 1 + 1 ≤ w1.heap.size := by have := hB1.size; simpa using this
  rw [show (((w.alloc (.cells #[.slice X x.t.length ca, .int .i64 x.k, .slice Y y.t.length cb, .int .i64 y.k] 70)).alloc (.cells #[.int .u8 3, .int .i64 0, .slice T tx.length ct] 72)).alloc (.cells #[.slice none 0 0, .int .i64 0, .slice none 0 0, .int .i64 0] 70)).heap.size = w.heap.size + 1 + 1 + 1 from by simp] at hO hP
  have k0 : w1.cell? ⟨w.heap.size + 1, 0, none⟩ = some (.int .u8 3) := hAct.cell 0
  have k1 : w1.cell? ⟨w.heap.size + 1, 1, none⟩ = some (.int .i64 0) := hAct.cell 1
  have k2 : w1.cell? ⟨w.heap.size + 1, 2, none⟩ = some (.slice T tx.length ct) := hAct.cell 2
  have H1 := Lib.hid (And.intro hAct (And.intro hZ (And.intro hB (And.intro hO (And.intro hP hne)))))
  clear hAct hZ hB hO hP hne hB1 HX
  go_upto_region 2 with fail
  have hK2 := Blk.new w1 70 #[.slice X' x.t.length ca', .int .i64 x.k, .slice Y' y.t.length cb', .int .i64 y.k]
  have hAct2 := H1.out.1.alloc (.cells #[.slice X' x.t.length ca', .int .i64 x.k, .slice Y' y.t.length cb', .int .i64 y.k] 70)
  have hZ2 := H1.out.2.1.alloc (.cells #[.slice X' x.t.length ca', .int .i64 x.k, .slice Y' y.t.length cb', .int .i64 y.k] 70)
  have hB2 := below_alloc (o := .cells #[.slice X' x.t.length ca', .int .i64 x.k, .slice Y' y.t.length cb', .int .i64 y.k] 70) H1.out.2.2.1
  have hO2 := H1.out.2.2.2.1.alloc (.cells #[.slice X' x.t.length ca', .int .i64 x.k, .slice Y' y.t.length cb', .int .i64 y.k] 70)
  have hP2 := H1.out.2.2.2.2.1.alloc (.cells #[.slice X' x.t.length ca', .int .i64 x.k, .slice Y' y.t.length cb', .int .i64 y.k] 70)
  have hs2 : w1.heap.size < (w1.alloc (.cells #[.slice X' x.t.length ca', .int .i64 x.k, .slice Y' y.t.length cb', .int .i64 y.k] 70)).heap.size := by simp
  have HN := Lib.hid H1.out.2.2.2.2.2
  have HL := Lib.hid (And.intro (fun b h => (H1.out.2.2.2.1.lt b h).2) (fun b h => (H1.out.2.2.2.2.1.lt b h).2))
  clear H1 k0 k1 k2
  generalize w1.alloc (.cells #[.slice X' x.t.length ca', .int .i64 x.k, .slice Y' y.t.length cb', .int .i64 y.k] 70) = w2 at *
  have a0 : w2.cell? ⟨w.heap.size + 1, 0, none⟩ = some (.int .u8 3) := hAct2.cell 0
  have a1 : w2.cell? ⟨w.heap.size + 1, 1, none⟩ = some (.int .i64 0) := hAct2.cell 1
  have a2 : w2.cell? ⟨w.heap.size + 1, 2, none⟩ = some (.slice T tx.length ct) := hAct2.cell 2
  have b0 : w2.cell? ⟨w1.heap.size, 0, none⟩ = some (.slice X' x.t.length ca') := hK2.cell 0
  have b1 : w2.cell? ⟨w1.heap.size, 1, none⟩ = some (.int .i64 x.k) := hK2.cell 1
  have b2 : w2.cell? ⟨w1.heap.size, 2, none⟩ = some (.slice Y' y.t.length cb') := hK2.cell 2
  have b3 : w2.cell? ⟨w1.heap.size, 3, none⟩ = some (.int .i64 y.k) := hK2.cell 3
  have bf0 := hK2.frozen 0
  have bf1 := hK2.frozen 1
  have bf2 := hK2.frozen 2
  have bf3 := hK2.frozen 3
  have H2 := Lib.hid (And.intro hK2 (And.intro hAct2 (And.intro hZ2 (And.intro hB2 (And.intro hO2 hP2)))))
  clear hK2 hAct2 hZ2 hB2 hO2 hP2
  go_upto_region 8 with fail
  go_region_law (fail)
  all_goals
    go_upto_region 9 with fail
    clear a0 a1 a2 b0 bf0 b1 bf1 b2 bf2 b3 bf3
    have hK3 : Blk (w2.setCell ⟨w1.heap.size, 1, none⟩ (.int .i64 (x.t.length : Int))).drew (w1.heap.size) 70 #[.slice X' x.t.length ca', .int .i64 (x.t.length : Int), .slice Y' y.t.length cb', .int .i64 y.k] := (H2.out.1.set_ 1 (.int .i64 (x.t.length : Int))).drew
    have hZ3 := (H2.out.2.2.1.far (p := ⟨w1.heap.size, 1, none⟩) (by show w.heap.size + 1 + 1 ≠ w1.heap.size; omega) (.int .i64 (x.t.length : Int))).drew
    have hB3 := (H2.out.2.2.2.1.setCell (p := ⟨w1.heap.size, 1, none⟩) (by show w.heap.size ≤ w1.heap.size; omega) (.int .i64 (x.t.length : Int))).drew
    have hO3 := (Go.ownsRow_setCell_other H2.out.2.2.2.2.1 (a := ⟨w1.heap.size, 1, none⟩) (fun e => by have := HL.out.1 _ e; simp at this) (.int .i64 (x.t.length : Int))).drew
    have hP3 := (Go.ownsRow_setCell_other H2.out.2.2.2.2.2 (a := ⟨w1.heap.size, 1, none⟩) (fun e => by have := HL.out.2 _ e; simp at this) (.int .i64 (x.t.length : Int))).drew
    clear H2
    generalize (w2.setCell ⟨w1.heap.size, 1, none⟩ (.int .i64 (x.t.length : Int))).drew = w3 at *
    have y0 : w3.cell? ⟨w1.heap.size, 0, none⟩ = some (.slice X' x.t.length ca') := hK3.cell 0
    have y1 : w3.cell? ⟨w1.heap.size, 1, none⟩ = some (.int .i64 (x.t.length : Int)) := hK3.cell 1
    have y2 : w3.cell? ⟨w1.heap.size, 2, none⟩ = some (.slice Y' y.t.length cb') := hK3.cell 2
    have y3 : w3.cell? ⟨w1.heap.size, 3, none⟩ = some (.int .i64 y.k) := hK3.cell 3
    have z0 : w3.cell? ⟨w.heap.size + 1 + 1, 0, none⟩ = some (.slice none 0 0) := hZ3.cell 0
    have z1 : w3.cell? ⟨w.heap.size + 1 + 1, 1, none⟩ = some (.int .i64 0) := hZ3.cell 1
    have z2 : w3.cell? ⟨w.heap.size + 1 + 1, 2, none⟩ = some (.slice none 0 0) := hZ3.cell 2
    have z3 : w3.cell? ⟨w.heap.size + 1 + 1, 3, none⟩ = some (.int .i64 0) := hZ3.cell 3
    have zf0 := hZ3.frozen 0
    have zf1 := hZ3.frozen 1
    have zf2 := hZ3.frozen 2
    have zf3 := hZ3.frozen 3
    have hs3 : w.heap.size + 1 + 1 < w3.heap.size := cell_lt z0
    have hs4 : w1.heap.size < w3.heap.size := cell_lt y0
    have H3 := Lib.hid (And.intro hK3 (And.intro hZ3 (And.intro hB3 (And.intro hO3 hP3))))
    clear hK3 hZ3 hB3 hO3 hP3
    go_wp2_with fail
    have hK4 := W4.blk H3.out.2.1 (.slice X' x.t.length ca') (.int .i64 (x.t.length : Int)) (.slice Y' y.t.length cb') (.int .i64 y.k)
    have hB4 := W4.below (g := w.heap.size + 1 + 1) H3.out.2.2.1 (by omega) (.slice X' x.t.length ca') (.int .i64 (x.t.length : Int)) (.slice Y' y.t.length cb') (.int .i64 y.k)
    have hO4 := W4.own (g := w.heap.size + 1 + 1) H3.out.2.2.2.1 (own_ne H3.out.2.2.2.1 (by omega)) (.slice X' x.t.length ca') (.int .i64 (x.t.length : Int)) (.slice Y' y.t.length cb') (.int .i64 y.k)
    have hP4 := W4.own (g := w.heap.size + 1 + 1) H3.out.2.2.2.2 (own_ne H3.out.2.2.2.2 (by omega)) (.slice X' x.t.length ca') (.int .i64 (x.t.length : Int)) (.slice Y' y.t.length cb') (.int .i64 y.k)
    rw [show ((((w3.setCell ⟨w.heap.size + 1 + 1, 0, none⟩ (.slice X' x.t.length ca')).setCell ⟨w.heap.size + 1 + 1, 1, none⟩ (.int .i64 (x.t.length : Int))).setCell ⟨w.heap.size + 1 + 1, 2, none⟩ (.slice Y' y.t.length cb')).setCell ⟨w.heap.size + 1 + 1, 3, none⟩ (.int .i64 y.k)) = W4 w3 (w.heap.size + 1 + 1) (.slice X' x.t.length ca') (.int .i64 (x.t.length : Int)) (.slice Y' y.t.length cb') (.int .i64 y.k) from rfl]
    generalize W4 w3 (w.heap.size + 1 + 1) (.slice X' x.t.length ca') (.int .i64 (x.t.length : Int)) (.slice Y' y.t.length cb') (.int .i64 y.k) = w4 at *
    clear H3 z0 z1 z2 z3 zf0 zf1 zf2 zf3 y0 y1 y2 y3
    have c0 := hK4.cell 0
    have c1 := hK4.cell 1
    have c2 := hK4.cell 2
    have c3 := hK4.cell 3
    simp only [List.getElem?_toArray, List.getElem?_cons_zero, List.getElem?_cons_succ] at c0 c1 c2 c3
    have hR := RetL.of_own (B := w.heap.size) (m := ⟨⟨x.t, (x.t.length : Int)⟩, y⟩) (ownsRow_less hO4 (by omega)) (ownsRow_less hP4 (by omega))
    refine bodyPost_ret (v := .agg #[.slice X' x.t.length ca', .int .i64 (x.t.length : Int), .slice Y' y.t.length cb', .int .i64 y.k]) (by simp [results, Try.results62, go_sem, c0, c1, c2, c3]) rfl ⟨_, rfl, ?_, hB4⟩
    exact hR
set_option maxRecDepth 100000 in
set_option maxHeartbeats 4000000 in
theorem rDone31 (x y : AV) (X : Option Addr) (ca : Nat) (Y : Option Addr) (cb : Nat) (T : Option Addr) (ct : Nat) (tx : List Int) (hx : x.t.length ≤ 262144) (hy : y.t.length ≤ 262144) (htx : tx.length ≤ 262144) (w : World) (hX : TAt w X x.t) (hY : TAt w Y y.t) :
    Calls Try.prog 62 #[.agg #[.slice X x.t.length ca, .int .i64 x.k, .slice Y y.t.length cb, .int .i64 y.k], .agg #[.int .u8 3, .int .i64 1, .slice T tx.length ct]] w fun e w' => ∃ v, e = .returned v ∧ RetL w' w.heap.size ⟨x, ⟨y.t, (y.t.length : Int)⟩⟩ v ∧ Below w.heap.size w w' := by
  have HX := Lib.hid (And.intro hX hY)
  clear hX hY
  go_enter Try.func62, Try.ntmps62
  go_wp2_with fail
  refine (rTwin x y X ca Y cb (by omega) (by omega) _ (HX.out.1.up (below_alloc (below_alloc (below_alloc (Below.refl _ _))))) (HX.out.2.up (below_alloc (below_alloc (below_alloc (Below.refl _ _)))))).mono ?_
  rintro e w1 ⟨X', ca', Y', cb', rfl, hO, hP, hne, hB1⟩
  have hAct := (blk1 w 72 #[.int .u8 3, .int .i64 1, .slice T tx.length ct] (o := .cells #[.slice X x.t.length ca, .int .i64 x.k, .slice Y y.t.length cb, .int .i64 y.k] 70)).alloc (.cells #[.slice none 0 0, .int .i64 0, .slice none 0 0, .int .i64 0] 70) |>.below hB1 (by simp)
  have hZ := (blk2 w 70 #[.slice none 0 0, .int .i64 0, .slice none 0 0, .int .i64 0] (o := .cells #[.slice X x.t.length ca, .int .i64 x.k, .slice Y y.t.length cb, .int .i64 y.k] 70) (o' := .cells #[.int .u8 3, .int .i64 1, .slice T tx.length ct] 72)).below hB1 (by simp)
  have hB := below_up (below_alloc (below_alloc (below_alloc (Below.refl _ _)))) hB1
  have hs : w.heap.size + 1 + 1 + 1 ≤ w1.heap.size := by have := hB1.size; simpa using this
  rw [show (((w.alloc (.cells #[.slice X x.t.length ca, .int .i64 x.k, .slice Y y.t.length cb, .int .i64 y.k] 70)).alloc (.cells #[.int .u8 3, .int .i64 1, .slice T tx.length ct] 72)).alloc (.cells #[.slice none 0 0, .int .i64 0, .slice none 0 0, .int .i64 0] 70)).heap.size = w.heap.size + 1 + 1 + 1 from by simp] at hO hP
  have k0 : w1.cell? ⟨w.heap.size + 1, 0, none⟩ = some (.int .u8 3) := hAct.cell 0
  have k1 : w1.cell? ⟨w.heap.size + 1, 1, none⟩ = some (.int .i64 1) := hAct.cell 1
  have k2 : w1.cell? ⟨w.heap.size + 1, 2, none⟩ = some (.slice T tx.length ct) := hAct.cell 2
  have H1 := Lib.hid (And.intro hAct (And.intro hZ (And.intro hB (And.intro hO (And.intro hP hne)))))
  clear hAct hZ hB hO hP hne hB1 HX
  go_upto_region 2 with fail
  have hK2 := Blk.new w1 70 #[.slice X' x.t.length ca', .int .i64 x.k, .slice Y' y.t.length cb', .int .i64 y.k]
  have hAct2 := H1.out.1.alloc (.cells #[.slice X' x.t.length ca', .int .i64 x.k, .slice Y' y.t.length cb', .int .i64 y.k] 70)
  have hZ2 := H1.out.2.1.alloc (.cells #[.slice X' x.t.length ca', .int .i64 x.k, .slice Y' y.t.length cb', .int .i64 y.k] 70)
  have hB2 := below_alloc (o := .cells #[.slice X' x.t.length ca', .int .i64 x.k, .slice Y' y.t.length cb', .int .i64 y.k] 70) H1.out.2.2.1
  have hO2 := H1.out.2.2.2.1.alloc (.cells #[.slice X' x.t.length ca', .int .i64 x.k, .slice Y' y.t.length cb', .int .i64 y.k] 70)
  have hP2 := H1.out.2.2.2.2.1.alloc (.cells #[.slice X' x.t.length ca', .int .i64 x.k, .slice Y' y.t.length cb', .int .i64 y.k] 70)
  have hs2 : w1.heap.size < (w1.alloc (.cells #[.slice X' x.t.length ca', .int .i64 x.k, .slice Y' y.t.length cb', .int .i64 y.k] 70)).heap.size := by simp
  have HN := Lib.hid H1.out.2.2.2.2.2
  have HL := Lib.hid (And.intro (fun b h => (H1.out.2.2.2.1.lt b h).2) (fun b h => (H1.out.2.2.2.2.1.lt b h).2))
  clear H1 k0 k1 k2
  generalize w1.alloc (.cells #[.slice X' x.t.length ca', .int .i64 x.k, .slice Y' y.t.length cb', .int .i64 y.k] 70) = w2 at *
  have a0 : w2.cell? ⟨w.heap.size + 1, 0, none⟩ = some (.int .u8 3) := hAct2.cell 0
  have a1 : w2.cell? ⟨w.heap.size + 1, 1, none⟩ = some (.int .i64 1) := hAct2.cell 1
  have a2 : w2.cell? ⟨w.heap.size + 1, 2, none⟩ = some (.slice T tx.length ct) := hAct2.cell 2
  have b0 : w2.cell? ⟨w1.heap.size, 0, none⟩ = some (.slice X' x.t.length ca') := hK2.cell 0
  have b1 : w2.cell? ⟨w1.heap.size, 1, none⟩ = some (.int .i64 x.k) := hK2.cell 1
  have b2 : w2.cell? ⟨w1.heap.size, 2, none⟩ = some (.slice Y' y.t.length cb') := hK2.cell 2
  have b3 : w2.cell? ⟨w1.heap.size, 3, none⟩ = some (.int .i64 y.k) := hK2.cell 3
  have bf0 := hK2.frozen 0
  have bf1 := hK2.frozen 1
  have bf2 := hK2.frozen 2
  have bf3 := hK2.frozen 3
  have H2 := Lib.hid (And.intro hK2 (And.intro hAct2 (And.intro hZ2 (And.intro hB2 (And.intro hO2 hP2)))))
  clear hK2 hAct2 hZ2 hB2 hO2 hP2
  go_upto_region 8 with fail
  go_region_law (fail)
  all_goals
    go_upto_region 9 with fail
    clear a0 a1 a2 b0 bf0 b1 bf1 b2 bf2 b3 bf3
    have hK3 : Blk (w2.setCell ⟨w1.heap.size, 3, none⟩ (.int .i64 (y.t.length : Int))).drew (w1.heap.size) 70 #[.slice X' x.t.length ca', .int .i64 x.k, .slice Y' y.t.length cb', .int .i64 (y.t.length : Int)] := (H2.out.1.set_ 3 (.int .i64 (y.t.length : Int))).drew
    have hZ3 := (H2.out.2.2.1.far (p := ⟨w1.heap.size, 3, none⟩) (by show w.heap.size + 1 + 1 ≠ w1.heap.size; omega) (.int .i64 (y.t.length : Int))).drew
    have hB3 := (H2.out.2.2.2.1.setCell (p := ⟨w1.heap.size, 3, none⟩) (by show w.heap.size ≤ w1.heap.size; omega) (.int .i64 (y.t.length : Int))).drew
    have hO3 := (Go.ownsRow_setCell_other H2.out.2.2.2.2.1 (a := ⟨w1.heap.size, 3, none⟩) (fun e => by have := HL.out.1 _ e; simp at this) (.int .i64 (y.t.length : Int))).drew
    have hP3 := (Go.ownsRow_setCell_other H2.out.2.2.2.2.2 (a := ⟨w1.heap.size, 3, none⟩) (fun e => by have := HL.out.2 _ e; simp at this) (.int .i64 (y.t.length : Int))).drew
    clear H2
    generalize (w2.setCell ⟨w1.heap.size, 3, none⟩ (.int .i64 (y.t.length : Int))).drew = w3 at *
    have y0 : w3.cell? ⟨w1.heap.size, 0, none⟩ = some (.slice X' x.t.length ca') := hK3.cell 0
    have y1 : w3.cell? ⟨w1.heap.size, 1, none⟩ = some (.int .i64 x.k) := hK3.cell 1
    have y2 : w3.cell? ⟨w1.heap.size, 2, none⟩ = some (.slice Y' y.t.length cb') := hK3.cell 2
    have y3 : w3.cell? ⟨w1.heap.size, 3, none⟩ = some (.int .i64 (y.t.length : Int)) := hK3.cell 3
    have z0 : w3.cell? ⟨w.heap.size + 1 + 1, 0, none⟩ = some (.slice none 0 0) := hZ3.cell 0
    have z1 : w3.cell? ⟨w.heap.size + 1 + 1, 1, none⟩ = some (.int .i64 0) := hZ3.cell 1
    have z2 : w3.cell? ⟨w.heap.size + 1 + 1, 2, none⟩ = some (.slice none 0 0) := hZ3.cell 2
    have z3 : w3.cell? ⟨w.heap.size + 1 + 1, 3, none⟩ = some (.int .i64 0) := hZ3.cell 3
    have zf0 := hZ3.frozen 0
    have zf1 := hZ3.frozen 1
    have zf2 := hZ3.frozen 2
    have zf3 := hZ3.frozen 3
    have hs3 : w.heap.size + 1 + 1 < w3.heap.size := cell_lt z0
    have hs4 : w1.heap.size < w3.heap.size := cell_lt y0
    have H3 := Lib.hid (And.intro hK3 (And.intro hZ3 (And.intro hB3 (And.intro hO3 hP3))))
    clear hK3 hZ3 hB3 hO3 hP3
    go_wp2_with fail
    have hK4 := W4.blk H3.out.2.1 (.slice X' x.t.length ca') (.int .i64 x.k) (.slice Y' y.t.length cb') (.int .i64 (y.t.length : Int))
    have hB4 := W4.below (g := w.heap.size + 1 + 1) H3.out.2.2.1 (by omega) (.slice X' x.t.length ca') (.int .i64 x.k) (.slice Y' y.t.length cb') (.int .i64 (y.t.length : Int))
    have hO4 := W4.own (g := w.heap.size + 1 + 1) H3.out.2.2.2.1 (own_ne H3.out.2.2.2.1 (by omega)) (.slice X' x.t.length ca') (.int .i64 x.k) (.slice Y' y.t.length cb') (.int .i64 (y.t.length : Int))
    have hP4 := W4.own (g := w.heap.size + 1 + 1) H3.out.2.2.2.2 (own_ne H3.out.2.2.2.2 (by omega)) (.slice X' x.t.length ca') (.int .i64 x.k) (.slice Y' y.t.length cb') (.int .i64 (y.t.length : Int))
    rw [show ((((w3.setCell ⟨w.heap.size + 1 + 1, 0, none⟩ (.slice X' x.t.length ca')).setCell ⟨w.heap.size + 1 + 1, 1, none⟩ (.int .i64 x.k)).setCell ⟨w.heap.size + 1 + 1, 2, none⟩ (.slice Y' y.t.length cb')).setCell ⟨w.heap.size + 1 + 1, 3, none⟩ (.int .i64 (y.t.length : Int))) = W4 w3 (w.heap.size + 1 + 1) (.slice X' x.t.length ca') (.int .i64 x.k) (.slice Y' y.t.length cb') (.int .i64 (y.t.length : Int)) from rfl]
    generalize W4 w3 (w.heap.size + 1 + 1) (.slice X' x.t.length ca') (.int .i64 x.k) (.slice Y' y.t.length cb') (.int .i64 (y.t.length : Int)) = w4 at *
    clear H3 z0 z1 z2 z3 zf0 zf1 zf2 zf3 y0 y1 y2 y3
    have c0 := hK4.cell 0
    have c1 := hK4.cell 1
    have c2 := hK4.cell 2
    have c3 := hK4.cell 3
    simp only [List.getElem?_toArray, List.getElem?_cons_zero, List.getElem?_cons_succ] at c0 c1 c2 c3
    have hR := RetL.of_own (B := w.heap.size) (m := ⟨x, ⟨y.t, (y.t.length : Int)⟩⟩) (ownsRow_less hO4 (by omega)) (ownsRow_less hP4 (by omega))
    refine bodyPost_ret (v := .agg #[.slice X' x.t.length ca', .int .i64 x.k, .slice Y' y.t.length cb', .int .i64 (y.t.length : Int)]) (by simp [results, Try.results62, go_sem, c0, c1, c2, c3]) rfl ⟨_, rfl, ?_, hB4⟩
    exact hR
end Go.Proofs.Ytfdldbfjeamlcaa.LogDone
