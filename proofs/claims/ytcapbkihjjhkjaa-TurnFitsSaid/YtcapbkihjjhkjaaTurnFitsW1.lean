/- The walk of TurnFits, where the first axis is 1. -/
import Derived.Deep.DeepCutAuto
import Derived.Test.YtcapbkihjjhkjaaTurnAlive
namespace Go.Proofs.Ytcapbkihjjhkjaa.TurnFitsW1
open Go.RowKit Mem PosMath PosCheck TurnMath TurnWalks TurnMap TurnSorted TurnAll TurnFitsOf TurnAlive
set_option linter.unusedVariables false
set_option linter.unusedSimpArgs false

set_option maxRecDepth 100000 in
set_option maxHeartbeats 16000000 in
theorem tf_10 (d0 d1 d2 a b c : Int) (p q r tn : Bool) (A B : Int) (hA : A.tmod 3 = 1) (hB : B.tmod 3 = 0) (is xb yb zb : Bool) (hw : 0 ≤ d1 ∧ d1 ≤ 16)
    (hIS : fitsV d0 d1 d2 ⟨a, b, c, p, q, r, tn⟩ = (is, 0)) (hX : fitsV d0 (min (d1 + 1) 16) d2 ⟨a, b, c, p, q, r, tn⟩ = (xb, 0)) (hY : fitsV d1 d0 d2 ⟨a, b, c, p, q, r, tn⟩ = (yb, 0)) (hZ : fitsV d0 d1 d2 ⟨a, b, c, p, q, r, true⟩ = (zb, 0)) (k1 : is = true → xb = true ∧ zb = true) (k2 : tn = true → yb = is) (w : World) :
    Calls Try.prog 5 #[.agg #[.int .i64 d0, .int .i64 d1, .int .i64 d2], .agg #[.int .i64 a, .int .i64 b, .int .i64 c, .bool p, .bool q, .bool r, .bool tn], .int .u8 A, .int .u8 B] w fun e w' => e = .returned (.bool true) ∧ Below w.heap.size w w' := by
  have f1 : IntKind.i64.wrap (d1 + 1) = d1 + 1 := IntWalk.i64_in _ (by omega)
  have K12 := Lib.hid (And.intro k1 k2)
  clear hw k1 k2
  have hIS' : ∀ w, Calls Try.prog 14 #[.agg #[.int .i64 d0, .int .i64 d1, .int .i64 d2], .agg #[.int .i64 a, .int .i64 b, .int .i64 c, .bool p, .bool q, .bool r, .bool tn]] w fun e w' => e = .returned (.tuple #[.bool is, .int .i64 0]) ∧ Below w.heap.size w w' := fun w => by
    have := fits_any d0 d1 d2 ⟨a, b, c, p, q, r, tn⟩ w
    rw [hIS] at this
    exact this
  have HhIS := Lib.hid hIS'
  clear hIS' hIS
  have hX' : ∀ w, Calls Try.prog 14 #[.agg #[.int .i64 d0, .int .i64 (min (d1 + 1) 16), .int .i64 d2], .agg #[.int .i64 a, .int .i64 b, .int .i64 c, .bool p, .bool q, .bool r, .bool tn]] w fun e w' => e = .returned (.tuple #[.bool xb, .int .i64 0]) ∧ Below w.heap.size w w' := fun w => by
    have := fits_any d0 (min (d1 + 1) 16) d2 ⟨a, b, c, p, q, r, tn⟩ w
    rw [hX] at this
    exact this
  have HhX := Lib.hid hX'
  clear hX' hX
  have hY' : ∀ w, Calls Try.prog 14 #[.agg #[.int .i64 d1, .int .i64 d0, .int .i64 d2], .agg #[.int .i64 a, .int .i64 b, .int .i64 c, .bool p, .bool q, .bool r, .bool tn]] w fun e w' => e = .returned (.tuple #[.bool yb, .int .i64 0]) ∧ Below w.heap.size w w' := fun w => by
    have := fits_any d1 d0 d2 ⟨a, b, c, p, q, r, tn⟩ w
    rw [hY] at this
    exact this
  have HhY := Lib.hid hY'
  clear hY' hY
  have hZ' : ∀ w, Calls Try.prog 14 #[.agg #[.int .i64 d0, .int .i64 d1, .int .i64 d2], .agg #[.int .i64 a, .int .i64 b, .int .i64 c, .bool p, .bool q, .bool r, .bool true]] w fun e w' => e = .returned (.tuple #[.bool zb, .int .i64 0]) ∧ Below w.heap.size w w' := fun w => by
    have := fits_any d0 d1 d2 ⟨a, b, c, p, q, r, true⟩ w
    rw [hZ] at this
    exact this
  have HhZ := Lib.hid hZ'
  clear hZ' hZ
  go_enter Try.func5, Try.ntmps5
  go_wp2_with fail
  refine (alive_any _).mono ?_
  rintro e w1 ⟨rfl, hB1⟩
  have kd : Blk w1 w.heap.size 39 #[.int .i64 d0, .int .i64 d1, .int .i64 d2] := ((Blk.new w _ _).alloc _).below hB1 (by simp; omega)
  have kx : Blk w1 (w.heap.size + 1) 25 #[.int .i64 a, .int .i64 b, .int .i64 c, .bool p, .bool q, .bool r, .bool tn] := (blk1 w _ _).below hB1 (by simp)
  have HB1 := Lib.hid (below_up (below_alloc (below_alloc (Below.refl _ w))) hB1)
  have K1 := Lib.hid (And.intro kd kx)
  have d_0 : w1.cell? ⟨w.heap.size, 0, none⟩ = some (.int .i64 d0) := (K1.out.1).cell 0
  have d_1 : w1.cell? ⟨w.heap.size, 1, none⟩ = some (.int .i64 d1) := (K1.out.1).cell 1
  have d_2 : w1.cell? ⟨w.heap.size, 2, none⟩ = some (.int .i64 d2) := (K1.out.1).cell 2
  try clear z_1 z_2 n_1 n_2 n_3 n_4
  have z_1 : w.heap.size < w1.heap.size := cell_lt d_0
  have n_1 : ¬ w1.heap.size = w.heap.size := by omega
  have n_2 : ¬ w.heap.size = w1.heap.size := by omega
  have x_0 : w1.cell? ⟨w.heap.size + 1, 0, none⟩ = some (.int .i64 a) := (K1.out.2).cell 0
  have x_1 : w1.cell? ⟨w.heap.size + 1, 1, none⟩ = some (.int .i64 b) := (K1.out.2).cell 1
  have x_2 : w1.cell? ⟨w.heap.size + 1, 2, none⟩ = some (.int .i64 c) := (K1.out.2).cell 2
  have x_3 : w1.cell? ⟨w.heap.size + 1, 3, none⟩ = some (.bool p) := (K1.out.2).cell 3
  have x_4 : w1.cell? ⟨w.heap.size + 1, 4, none⟩ = some (.bool q) := (K1.out.2).cell 4
  have x_5 : w1.cell? ⟨w.heap.size + 1, 5, none⟩ = some (.bool r) := (K1.out.2).cell 5
  have x_6 : w1.cell? ⟨w.heap.size + 1, 6, none⟩ = some (.bool tn) := (K1.out.2).cell 6
  have z_2 : w.heap.size + 1 < w1.heap.size := cell_lt x_0
  have n_3 : ¬ w1.heap.size = w.heap.size + 1 := by omega
  have n_4 : ¬ w.heap.size + 1 = w1.heap.size := by omega
  clear hB1 kd kx
  go_wp2_with fail
  refine (HhIS.out _).mono ?_
  rintro e w2 ⟨rfl, hB2⟩
  have HB2 := Lib.hid (below_up HB1.out hB2)
  have K2 := Lib.hid (And.intro (K1.out.1.below hB2 (cell_lt d_0)) (K1.out.2.below hB2 (cell_lt x_0)))
  clear hB2 d_0 d_1 d_2 x_0 x_1 x_2 x_3 x_4 x_5 x_6
  have d_0 : w2.cell? ⟨w.heap.size, 0, none⟩ = some (.int .i64 d0) := (K2.out.1).cell 0
  have d_1 : w2.cell? ⟨w.heap.size, 1, none⟩ = some (.int .i64 d1) := (K2.out.1).cell 1
  have d_2 : w2.cell? ⟨w.heap.size, 2, none⟩ = some (.int .i64 d2) := (K2.out.1).cell 2
  try clear z_1 z_2 n_1 n_2 n_3 n_4
  have z_1 : w.heap.size < w2.heap.size := cell_lt d_0
  have n_1 : ¬ w2.heap.size = w.heap.size := by omega
  have n_2 : ¬ w.heap.size = w2.heap.size := by omega
  have x_0 : w2.cell? ⟨w.heap.size + 1, 0, none⟩ = some (.int .i64 a) := (K2.out.2).cell 0
  have x_1 : w2.cell? ⟨w.heap.size + 1, 1, none⟩ = some (.int .i64 b) := (K2.out.2).cell 1
  have x_2 : w2.cell? ⟨w.heap.size + 1, 2, none⟩ = some (.int .i64 c) := (K2.out.2).cell 2
  have x_3 : w2.cell? ⟨w.heap.size + 1, 3, none⟩ = some (.bool p) := (K2.out.2).cell 3
  have x_4 : w2.cell? ⟨w.heap.size + 1, 4, none⟩ = some (.bool q) := (K2.out.2).cell 4
  have x_5 : w2.cell? ⟨w.heap.size + 1, 5, none⟩ = some (.bool r) := (K2.out.2).cell 5
  have x_6 : w2.cell? ⟨w.heap.size + 1, 6, none⟩ = some (.bool tn) := (K2.out.2).cell 6
  have z_2 : w.heap.size + 1 < w2.heap.size := cell_lt x_0
  have n_3 : ¬ w2.heap.size = w.heap.size + 1 := by omega
  have n_4 : ¬ w.heap.size + 1 = w2.heap.size := by omega
  go_wp2_with fail
  refine (HhX.out _).mono ?_
  rintro e w3 ⟨rfl, hB3⟩
  have HB3 := Lib.hid (below_up (below_alloc HB2.out) hB3)
  have K3 := Lib.hid (And.intro ((K2.out.1.alloc _).below hB3 (by simp; have := cell_lt d_0; simp at this; omega)) ((K2.out.2.alloc _).below hB3 (by simp; have := cell_lt x_0; simp at this; omega)))
  clear hB3 d_0 d_1 d_2 x_0 x_1 x_2 x_3 x_4 x_5 x_6
  have d_0 : w3.cell? ⟨w.heap.size, 0, none⟩ = some (.int .i64 d0) := (K3.out.1).cell 0
  have d_1 : w3.cell? ⟨w.heap.size, 1, none⟩ = some (.int .i64 d1) := (K3.out.1).cell 1
  have d_2 : w3.cell? ⟨w.heap.size, 2, none⟩ = some (.int .i64 d2) := (K3.out.1).cell 2
  try clear z_1 z_2 n_1 n_2 n_3 n_4
  have z_1 : w.heap.size < w3.heap.size := cell_lt d_0
  have n_1 : ¬ w3.heap.size = w.heap.size := by omega
  have n_2 : ¬ w.heap.size = w3.heap.size := by omega
  have x_0 : w3.cell? ⟨w.heap.size + 1, 0, none⟩ = some (.int .i64 a) := (K3.out.2).cell 0
  have x_1 : w3.cell? ⟨w.heap.size + 1, 1, none⟩ = some (.int .i64 b) := (K3.out.2).cell 1
  have x_2 : w3.cell? ⟨w.heap.size + 1, 2, none⟩ = some (.int .i64 c) := (K3.out.2).cell 2
  have x_3 : w3.cell? ⟨w.heap.size + 1, 3, none⟩ = some (.bool p) := (K3.out.2).cell 3
  have x_4 : w3.cell? ⟨w.heap.size + 1, 4, none⟩ = some (.bool q) := (K3.out.2).cell 4
  have x_5 : w3.cell? ⟨w.heap.size + 1, 5, none⟩ = some (.bool r) := (K3.out.2).cell 5
  have x_6 : w3.cell? ⟨w.heap.size + 1, 6, none⟩ = some (.bool tn) := (K3.out.2).cell 6
  have z_2 : w.heap.size + 1 < w3.heap.size := cell_lt x_0
  have n_3 : ¬ w3.heap.size = w.heap.size + 1 := by omega
  have n_4 : ¬ w.heap.size + 1 = w3.heap.size := by omega
  go_wp2_with fail
  refine (HhY.out _).mono ?_
  rintro e w4 ⟨rfl, hB4⟩
  have HB4 := Lib.hid (below_up (below_alloc HB3.out) hB4)
  have K4 := Lib.hid (And.intro ((K3.out.1.alloc _).below hB4 (by simp; have := cell_lt d_0; simp at this; omega)) ((K3.out.2.alloc _).below hB4 (by simp; have := cell_lt x_0; simp at this; omega)))
  clear hB4 d_0 d_1 d_2 x_0 x_1 x_2 x_3 x_4 x_5 x_6
  have d_0 : w4.cell? ⟨w.heap.size, 0, none⟩ = some (.int .i64 d0) := (K4.out.1).cell 0
  have d_1 : w4.cell? ⟨w.heap.size, 1, none⟩ = some (.int .i64 d1) := (K4.out.1).cell 1
  have d_2 : w4.cell? ⟨w.heap.size, 2, none⟩ = some (.int .i64 d2) := (K4.out.1).cell 2
  try clear z_1 z_2 n_1 n_2 n_3 n_4
  have z_1 : w.heap.size < w4.heap.size := cell_lt d_0
  have n_1 : ¬ w4.heap.size = w.heap.size := by omega
  have n_2 : ¬ w.heap.size = w4.heap.size := by omega
  have x_0 : w4.cell? ⟨w.heap.size + 1, 0, none⟩ = some (.int .i64 a) := (K4.out.2).cell 0
  have x_1 : w4.cell? ⟨w.heap.size + 1, 1, none⟩ = some (.int .i64 b) := (K4.out.2).cell 1
  have x_2 : w4.cell? ⟨w.heap.size + 1, 2, none⟩ = some (.int .i64 c) := (K4.out.2).cell 2
  have x_3 : w4.cell? ⟨w.heap.size + 1, 3, none⟩ = some (.bool p) := (K4.out.2).cell 3
  have x_4 : w4.cell? ⟨w.heap.size + 1, 4, none⟩ = some (.bool q) := (K4.out.2).cell 4
  have x_5 : w4.cell? ⟨w.heap.size + 1, 5, none⟩ = some (.bool r) := (K4.out.2).cell 5
  have x_6 : w4.cell? ⟨w.heap.size + 1, 6, none⟩ = some (.bool tn) := (K4.out.2).cell 6
  have z_2 : w.heap.size + 1 < w4.heap.size := cell_lt x_0
  have n_3 : ¬ w4.heap.size = w.heap.size + 1 := by omega
  have n_4 : ¬ w.heap.size + 1 = w4.heap.size := by omega
  go_wp2_with fail
  refine (HhZ.out _).mono ?_
  rintro e w5 ⟨rfl, hB5⟩
  have HB5 := Lib.hid (below_up (below_alloc HB4.out) hB5)
  have x6 : w5.cell? ⟨w.heap.size + 1, 6, none⟩ = some (.bool tn) := keep_cell (cell_over _ x_6) hB5
  clear hB5 d_0 d_1 d_2 x_0 x_1 x_2 x_3 x_4 x_5 x_6
  go_upto_region 15 with fail
  have KK := K12.out
  cases tn <;> cases is
  · go_wp2_with fail
    go_ret
    exact ⟨rfl, HB5.out⟩
  · obtain ⟨rfl, rfl⟩ := KK.1 rfl
    go_wp2_with fail
    go_ret
    exact ⟨rfl, HB5.out⟩
  · obtain rfl := KK.2 rfl
    go_wp2_with fail
    go_ret
    exact ⟨rfl, HB5.out⟩
  · obtain ⟨rfl, rfl⟩ := KK.1 rfl
    obtain rfl := KK.2 rfl
    go_wp2_with fail
    go_ret
    exact ⟨rfl, HB5.out⟩
set_option maxRecDepth 100000 in
set_option maxHeartbeats 16000000 in
theorem tf_11 (d0 d1 d2 a b c : Int) (p q r tn : Bool) (A B : Int) (hA : A.tmod 3 = 1) (hB : B.tmod 3 = 1) (is xb yb zb : Bool) (hw : 0 ≤ d1 ∧ d1 ≤ 16)
    (hIS : fitsV d0 d1 d2 ⟨a, b, c, p, q, r, tn⟩ = (is, 0)) (hX : fitsV d0 (min (d1 + 1) 16) d2 ⟨a, b, c, p, q, r, tn⟩ = (xb, 0)) (hY : fitsV d0 d1 d2 ⟨a, b, c, p, q, r, tn⟩ = (yb, 0)) (hZ : fitsV d0 d1 d2 ⟨a, b, c, p, q, r, true⟩ = (zb, 0)) (k1 : is = true → xb = true ∧ zb = true) (k2 : tn = true → yb = is) (w : World) :
    Calls Try.prog 5 #[.agg #[.int .i64 d0, .int .i64 d1, .int .i64 d2], .agg #[.int .i64 a, .int .i64 b, .int .i64 c, .bool p, .bool q, .bool r, .bool tn], .int .u8 A, .int .u8 B] w fun e w' => e = .returned (.bool true) ∧ Below w.heap.size w w' := by
  have f1 : IntKind.i64.wrap (d1 + 1) = d1 + 1 := IntWalk.i64_in _ (by omega)
  have K12 := Lib.hid (And.intro k1 k2)
  clear hw k1 k2
  have hIS' : ∀ w, Calls Try.prog 14 #[.agg #[.int .i64 d0, .int .i64 d1, .int .i64 d2], .agg #[.int .i64 a, .int .i64 b, .int .i64 c, .bool p, .bool q, .bool r, .bool tn]] w fun e w' => e = .returned (.tuple #[.bool is, .int .i64 0]) ∧ Below w.heap.size w w' := fun w => by
    have := fits_any d0 d1 d2 ⟨a, b, c, p, q, r, tn⟩ w
    rw [hIS] at this
    exact this
  have HhIS := Lib.hid hIS'
  clear hIS' hIS
  have hX' : ∀ w, Calls Try.prog 14 #[.agg #[.int .i64 d0, .int .i64 (min (d1 + 1) 16), .int .i64 d2], .agg #[.int .i64 a, .int .i64 b, .int .i64 c, .bool p, .bool q, .bool r, .bool tn]] w fun e w' => e = .returned (.tuple #[.bool xb, .int .i64 0]) ∧ Below w.heap.size w w' := fun w => by
    have := fits_any d0 (min (d1 + 1) 16) d2 ⟨a, b, c, p, q, r, tn⟩ w
    rw [hX] at this
    exact this
  have HhX := Lib.hid hX'
  clear hX' hX
  have hY' : ∀ w, Calls Try.prog 14 #[.agg #[.int .i64 d0, .int .i64 d1, .int .i64 d2], .agg #[.int .i64 a, .int .i64 b, .int .i64 c, .bool p, .bool q, .bool r, .bool tn]] w fun e w' => e = .returned (.tuple #[.bool yb, .int .i64 0]) ∧ Below w.heap.size w w' := fun w => by
    have := fits_any d0 d1 d2 ⟨a, b, c, p, q, r, tn⟩ w
    rw [hY] at this
    exact this
  have HhY := Lib.hid hY'
  clear hY' hY
  have hZ' : ∀ w, Calls Try.prog 14 #[.agg #[.int .i64 d0, .int .i64 d1, .int .i64 d2], .agg #[.int .i64 a, .int .i64 b, .int .i64 c, .bool p, .bool q, .bool r, .bool true]] w fun e w' => e = .returned (.tuple #[.bool zb, .int .i64 0]) ∧ Below w.heap.size w w' := fun w => by
    have := fits_any d0 d1 d2 ⟨a, b, c, p, q, r, true⟩ w
    rw [hZ] at this
    exact this
  have HhZ := Lib.hid hZ'
  clear hZ' hZ
  go_enter Try.func5, Try.ntmps5
  go_wp2_with fail
  refine (alive_any _).mono ?_
  rintro e w1 ⟨rfl, hB1⟩
  have kd : Blk w1 w.heap.size 39 #[.int .i64 d0, .int .i64 d1, .int .i64 d2] := ((Blk.new w _ _).alloc _).below hB1 (by simp; omega)
  have kx : Blk w1 (w.heap.size + 1) 25 #[.int .i64 a, .int .i64 b, .int .i64 c, .bool p, .bool q, .bool r, .bool tn] := (blk1 w _ _).below hB1 (by simp)
  have HB1 := Lib.hid (below_up (below_alloc (below_alloc (Below.refl _ w))) hB1)
  have K1 := Lib.hid (And.intro kd kx)
  have d_0 : w1.cell? ⟨w.heap.size, 0, none⟩ = some (.int .i64 d0) := (K1.out.1).cell 0
  have d_1 : w1.cell? ⟨w.heap.size, 1, none⟩ = some (.int .i64 d1) := (K1.out.1).cell 1
  have d_2 : w1.cell? ⟨w.heap.size, 2, none⟩ = some (.int .i64 d2) := (K1.out.1).cell 2
  try clear z_1 z_2 n_1 n_2 n_3 n_4
  have z_1 : w.heap.size < w1.heap.size := cell_lt d_0
  have n_1 : ¬ w1.heap.size = w.heap.size := by omega
  have n_2 : ¬ w.heap.size = w1.heap.size := by omega
  have x_0 : w1.cell? ⟨w.heap.size + 1, 0, none⟩ = some (.int .i64 a) := (K1.out.2).cell 0
  have x_1 : w1.cell? ⟨w.heap.size + 1, 1, none⟩ = some (.int .i64 b) := (K1.out.2).cell 1
  have x_2 : w1.cell? ⟨w.heap.size + 1, 2, none⟩ = some (.int .i64 c) := (K1.out.2).cell 2
  have x_3 : w1.cell? ⟨w.heap.size + 1, 3, none⟩ = some (.bool p) := (K1.out.2).cell 3
  have x_4 : w1.cell? ⟨w.heap.size + 1, 4, none⟩ = some (.bool q) := (K1.out.2).cell 4
  have x_5 : w1.cell? ⟨w.heap.size + 1, 5, none⟩ = some (.bool r) := (K1.out.2).cell 5
  have x_6 : w1.cell? ⟨w.heap.size + 1, 6, none⟩ = some (.bool tn) := (K1.out.2).cell 6
  have z_2 : w.heap.size + 1 < w1.heap.size := cell_lt x_0
  have n_3 : ¬ w1.heap.size = w.heap.size + 1 := by omega
  have n_4 : ¬ w.heap.size + 1 = w1.heap.size := by omega
  clear hB1 kd kx
  go_wp2_with fail
  refine (HhIS.out _).mono ?_
  rintro e w2 ⟨rfl, hB2⟩
  have HB2 := Lib.hid (below_up HB1.out hB2)
  have K2 := Lib.hid (And.intro (K1.out.1.below hB2 (cell_lt d_0)) (K1.out.2.below hB2 (cell_lt x_0)))
  clear hB2 d_0 d_1 d_2 x_0 x_1 x_2 x_3 x_4 x_5 x_6
  have d_0 : w2.cell? ⟨w.heap.size, 0, none⟩ = some (.int .i64 d0) := (K2.out.1).cell 0
  have d_1 : w2.cell? ⟨w.heap.size, 1, none⟩ = some (.int .i64 d1) := (K2.out.1).cell 1
  have d_2 : w2.cell? ⟨w.heap.size, 2, none⟩ = some (.int .i64 d2) := (K2.out.1).cell 2
  try clear z_1 z_2 n_1 n_2 n_3 n_4
  have z_1 : w.heap.size < w2.heap.size := cell_lt d_0
  have n_1 : ¬ w2.heap.size = w.heap.size := by omega
  have n_2 : ¬ w.heap.size = w2.heap.size := by omega
  have x_0 : w2.cell? ⟨w.heap.size + 1, 0, none⟩ = some (.int .i64 a) := (K2.out.2).cell 0
  have x_1 : w2.cell? ⟨w.heap.size + 1, 1, none⟩ = some (.int .i64 b) := (K2.out.2).cell 1
  have x_2 : w2.cell? ⟨w.heap.size + 1, 2, none⟩ = some (.int .i64 c) := (K2.out.2).cell 2
  have x_3 : w2.cell? ⟨w.heap.size + 1, 3, none⟩ = some (.bool p) := (K2.out.2).cell 3
  have x_4 : w2.cell? ⟨w.heap.size + 1, 4, none⟩ = some (.bool q) := (K2.out.2).cell 4
  have x_5 : w2.cell? ⟨w.heap.size + 1, 5, none⟩ = some (.bool r) := (K2.out.2).cell 5
  have x_6 : w2.cell? ⟨w.heap.size + 1, 6, none⟩ = some (.bool tn) := (K2.out.2).cell 6
  have z_2 : w.heap.size + 1 < w2.heap.size := cell_lt x_0
  have n_3 : ¬ w2.heap.size = w.heap.size + 1 := by omega
  have n_4 : ¬ w.heap.size + 1 = w2.heap.size := by omega
  go_wp2_with fail
  refine (HhX.out _).mono ?_
  rintro e w3 ⟨rfl, hB3⟩
  have HB3 := Lib.hid (below_up (below_alloc HB2.out) hB3)
  have K3 := Lib.hid (And.intro ((K2.out.1.alloc _).below hB3 (by simp; have := cell_lt d_0; simp at this; omega)) ((K2.out.2.alloc _).below hB3 (by simp; have := cell_lt x_0; simp at this; omega)))
  clear hB3 d_0 d_1 d_2 x_0 x_1 x_2 x_3 x_4 x_5 x_6
  have d_0 : w3.cell? ⟨w.heap.size, 0, none⟩ = some (.int .i64 d0) := (K3.out.1).cell 0
  have d_1 : w3.cell? ⟨w.heap.size, 1, none⟩ = some (.int .i64 d1) := (K3.out.1).cell 1
  have d_2 : w3.cell? ⟨w.heap.size, 2, none⟩ = some (.int .i64 d2) := (K3.out.1).cell 2
  try clear z_1 z_2 n_1 n_2 n_3 n_4
  have z_1 : w.heap.size < w3.heap.size := cell_lt d_0
  have n_1 : ¬ w3.heap.size = w.heap.size := by omega
  have n_2 : ¬ w.heap.size = w3.heap.size := by omega
  have x_0 : w3.cell? ⟨w.heap.size + 1, 0, none⟩ = some (.int .i64 a) := (K3.out.2).cell 0
  have x_1 : w3.cell? ⟨w.heap.size + 1, 1, none⟩ = some (.int .i64 b) := (K3.out.2).cell 1
  have x_2 : w3.cell? ⟨w.heap.size + 1, 2, none⟩ = some (.int .i64 c) := (K3.out.2).cell 2
  have x_3 : w3.cell? ⟨w.heap.size + 1, 3, none⟩ = some (.bool p) := (K3.out.2).cell 3
  have x_4 : w3.cell? ⟨w.heap.size + 1, 4, none⟩ = some (.bool q) := (K3.out.2).cell 4
  have x_5 : w3.cell? ⟨w.heap.size + 1, 5, none⟩ = some (.bool r) := (K3.out.2).cell 5
  have x_6 : w3.cell? ⟨w.heap.size + 1, 6, none⟩ = some (.bool tn) := (K3.out.2).cell 6
  have z_2 : w.heap.size + 1 < w3.heap.size := cell_lt x_0
  have n_3 : ¬ w3.heap.size = w.heap.size + 1 := by omega
  have n_4 : ¬ w.heap.size + 1 = w3.heap.size := by omega
  go_wp2_with fail
  refine (HhY.out _).mono ?_
  rintro e w4 ⟨rfl, hB4⟩
  have HB4 := Lib.hid (below_up (below_alloc HB3.out) hB4)
  have K4 := Lib.hid (And.intro ((K3.out.1.alloc _).below hB4 (by simp; have := cell_lt d_0; simp at this; omega)) ((K3.out.2.alloc _).below hB4 (by simp; have := cell_lt x_0; simp at this; omega)))
  clear hB4 d_0 d_1 d_2 x_0 x_1 x_2 x_3 x_4 x_5 x_6
  have d_0 : w4.cell? ⟨w.heap.size, 0, none⟩ = some (.int .i64 d0) := (K4.out.1).cell 0
  have d_1 : w4.cell? ⟨w.heap.size, 1, none⟩ = some (.int .i64 d1) := (K4.out.1).cell 1
  have d_2 : w4.cell? ⟨w.heap.size, 2, none⟩ = some (.int .i64 d2) := (K4.out.1).cell 2
  try clear z_1 z_2 n_1 n_2 n_3 n_4
  have z_1 : w.heap.size < w4.heap.size := cell_lt d_0
  have n_1 : ¬ w4.heap.size = w.heap.size := by omega
  have n_2 : ¬ w.heap.size = w4.heap.size := by omega
  have x_0 : w4.cell? ⟨w.heap.size + 1, 0, none⟩ = some (.int .i64 a) := (K4.out.2).cell 0
  have x_1 : w4.cell? ⟨w.heap.size + 1, 1, none⟩ = some (.int .i64 b) := (K4.out.2).cell 1
  have x_2 : w4.cell? ⟨w.heap.size + 1, 2, none⟩ = some (.int .i64 c) := (K4.out.2).cell 2
  have x_3 : w4.cell? ⟨w.heap.size + 1, 3, none⟩ = some (.bool p) := (K4.out.2).cell 3
  have x_4 : w4.cell? ⟨w.heap.size + 1, 4, none⟩ = some (.bool q) := (K4.out.2).cell 4
  have x_5 : w4.cell? ⟨w.heap.size + 1, 5, none⟩ = some (.bool r) := (K4.out.2).cell 5
  have x_6 : w4.cell? ⟨w.heap.size + 1, 6, none⟩ = some (.bool tn) := (K4.out.2).cell 6
  have z_2 : w.heap.size + 1 < w4.heap.size := cell_lt x_0
  have n_3 : ¬ w4.heap.size = w.heap.size + 1 := by omega
  have n_4 : ¬ w.heap.size + 1 = w4.heap.size := by omega
  go_wp2_with fail
  refine (HhZ.out _).mono ?_
  rintro e w5 ⟨rfl, hB5⟩
  have HB5 := Lib.hid (below_up (below_alloc HB4.out) hB5)
  have x6 : w5.cell? ⟨w.heap.size + 1, 6, none⟩ = some (.bool tn) := keep_cell (cell_over _ x_6) hB5
  clear hB5 d_0 d_1 d_2 x_0 x_1 x_2 x_3 x_4 x_5 x_6
  go_upto_region 15 with fail
  have KK := K12.out
  cases tn <;> cases is
  · go_wp2_with fail
    go_ret
    exact ⟨rfl, HB5.out⟩
  · obtain ⟨rfl, rfl⟩ := KK.1 rfl
    go_wp2_with fail
    go_ret
    exact ⟨rfl, HB5.out⟩
  · obtain rfl := KK.2 rfl
    go_wp2_with fail
    go_ret
    exact ⟨rfl, HB5.out⟩
  · obtain ⟨rfl, rfl⟩ := KK.1 rfl
    obtain rfl := KK.2 rfl
    go_wp2_with fail
    go_ret
    exact ⟨rfl, HB5.out⟩
set_option maxRecDepth 100000 in
set_option maxHeartbeats 16000000 in
theorem tf_12 (d0 d1 d2 a b c : Int) (p q r tn : Bool) (A B : Int) (hA : A.tmod 3 = 1) (hB : B.tmod 3 = 2) (is xb yb zb : Bool) (hw : 0 ≤ d1 ∧ d1 ≤ 16)
    (hIS : fitsV d0 d1 d2 ⟨a, b, c, p, q, r, tn⟩ = (is, 0)) (hX : fitsV d0 (min (d1 + 1) 16) d2 ⟨a, b, c, p, q, r, tn⟩ = (xb, 0)) (hY : fitsV d0 d2 d1 ⟨a, b, c, p, q, r, tn⟩ = (yb, 0)) (hZ : fitsV d0 d1 d2 ⟨a, b, c, p, q, r, true⟩ = (zb, 0)) (k1 : is = true → xb = true ∧ zb = true) (k2 : tn = true → yb = is) (w : World) :
    Calls Try.prog 5 #[.agg #[.int .i64 d0, .int .i64 d1, .int .i64 d2], .agg #[.int .i64 a, .int .i64 b, .int .i64 c, .bool p, .bool q, .bool r, .bool tn], .int .u8 A, .int .u8 B] w fun e w' => e = .returned (.bool true) ∧ Below w.heap.size w w' := by
  have f1 : IntKind.i64.wrap (d1 + 1) = d1 + 1 := IntWalk.i64_in _ (by omega)
  have K12 := Lib.hid (And.intro k1 k2)
  clear hw k1 k2
  have hIS' : ∀ w, Calls Try.prog 14 #[.agg #[.int .i64 d0, .int .i64 d1, .int .i64 d2], .agg #[.int .i64 a, .int .i64 b, .int .i64 c, .bool p, .bool q, .bool r, .bool tn]] w fun e w' => e = .returned (.tuple #[.bool is, .int .i64 0]) ∧ Below w.heap.size w w' := fun w => by
    have := fits_any d0 d1 d2 ⟨a, b, c, p, q, r, tn⟩ w
    rw [hIS] at this
    exact this
  have HhIS := Lib.hid hIS'
  clear hIS' hIS
  have hX' : ∀ w, Calls Try.prog 14 #[.agg #[.int .i64 d0, .int .i64 (min (d1 + 1) 16), .int .i64 d2], .agg #[.int .i64 a, .int .i64 b, .int .i64 c, .bool p, .bool q, .bool r, .bool tn]] w fun e w' => e = .returned (.tuple #[.bool xb, .int .i64 0]) ∧ Below w.heap.size w w' := fun w => by
    have := fits_any d0 (min (d1 + 1) 16) d2 ⟨a, b, c, p, q, r, tn⟩ w
    rw [hX] at this
    exact this
  have HhX := Lib.hid hX'
  clear hX' hX
  have hY' : ∀ w, Calls Try.prog 14 #[.agg #[.int .i64 d0, .int .i64 d2, .int .i64 d1], .agg #[.int .i64 a, .int .i64 b, .int .i64 c, .bool p, .bool q, .bool r, .bool tn]] w fun e w' => e = .returned (.tuple #[.bool yb, .int .i64 0]) ∧ Below w.heap.size w w' := fun w => by
    have := fits_any d0 d2 d1 ⟨a, b, c, p, q, r, tn⟩ w
    rw [hY] at this
    exact this
  have HhY := Lib.hid hY'
  clear hY' hY
  have hZ' : ∀ w, Calls Try.prog 14 #[.agg #[.int .i64 d0, .int .i64 d1, .int .i64 d2], .agg #[.int .i64 a, .int .i64 b, .int .i64 c, .bool p, .bool q, .bool r, .bool true]] w fun e w' => e = .returned (.tuple #[.bool zb, .int .i64 0]) ∧ Below w.heap.size w w' := fun w => by
    have := fits_any d0 d1 d2 ⟨a, b, c, p, q, r, true⟩ w
    rw [hZ] at this
    exact this
  have HhZ := Lib.hid hZ'
  clear hZ' hZ
  go_enter Try.func5, Try.ntmps5
  go_wp2_with fail
  refine (alive_any _).mono ?_
  rintro e w1 ⟨rfl, hB1⟩
  have kd : Blk w1 w.heap.size 39 #[.int .i64 d0, .int .i64 d1, .int .i64 d2] := ((Blk.new w _ _).alloc _).below hB1 (by simp; omega)
  have kx : Blk w1 (w.heap.size + 1) 25 #[.int .i64 a, .int .i64 b, .int .i64 c, .bool p, .bool q, .bool r, .bool tn] := (blk1 w _ _).below hB1 (by simp)
  have HB1 := Lib.hid (below_up (below_alloc (below_alloc (Below.refl _ w))) hB1)
  have K1 := Lib.hid (And.intro kd kx)
  have d_0 : w1.cell? ⟨w.heap.size, 0, none⟩ = some (.int .i64 d0) := (K1.out.1).cell 0
  have d_1 : w1.cell? ⟨w.heap.size, 1, none⟩ = some (.int .i64 d1) := (K1.out.1).cell 1
  have d_2 : w1.cell? ⟨w.heap.size, 2, none⟩ = some (.int .i64 d2) := (K1.out.1).cell 2
  try clear z_1 z_2 n_1 n_2 n_3 n_4
  have z_1 : w.heap.size < w1.heap.size := cell_lt d_0
  have n_1 : ¬ w1.heap.size = w.heap.size := by omega
  have n_2 : ¬ w.heap.size = w1.heap.size := by omega
  have x_0 : w1.cell? ⟨w.heap.size + 1, 0, none⟩ = some (.int .i64 a) := (K1.out.2).cell 0
  have x_1 : w1.cell? ⟨w.heap.size + 1, 1, none⟩ = some (.int .i64 b) := (K1.out.2).cell 1
  have x_2 : w1.cell? ⟨w.heap.size + 1, 2, none⟩ = some (.int .i64 c) := (K1.out.2).cell 2
  have x_3 : w1.cell? ⟨w.heap.size + 1, 3, none⟩ = some (.bool p) := (K1.out.2).cell 3
  have x_4 : w1.cell? ⟨w.heap.size + 1, 4, none⟩ = some (.bool q) := (K1.out.2).cell 4
  have x_5 : w1.cell? ⟨w.heap.size + 1, 5, none⟩ = some (.bool r) := (K1.out.2).cell 5
  have x_6 : w1.cell? ⟨w.heap.size + 1, 6, none⟩ = some (.bool tn) := (K1.out.2).cell 6
  have z_2 : w.heap.size + 1 < w1.heap.size := cell_lt x_0
  have n_3 : ¬ w1.heap.size = w.heap.size + 1 := by omega
  have n_4 : ¬ w.heap.size + 1 = w1.heap.size := by omega
  clear hB1 kd kx
  go_wp2_with fail
  refine (HhIS.out _).mono ?_
  rintro e w2 ⟨rfl, hB2⟩
  have HB2 := Lib.hid (below_up HB1.out hB2)
  have K2 := Lib.hid (And.intro (K1.out.1.below hB2 (cell_lt d_0)) (K1.out.2.below hB2 (cell_lt x_0)))
  clear hB2 d_0 d_1 d_2 x_0 x_1 x_2 x_3 x_4 x_5 x_6
  have d_0 : w2.cell? ⟨w.heap.size, 0, none⟩ = some (.int .i64 d0) := (K2.out.1).cell 0
  have d_1 : w2.cell? ⟨w.heap.size, 1, none⟩ = some (.int .i64 d1) := (K2.out.1).cell 1
  have d_2 : w2.cell? ⟨w.heap.size, 2, none⟩ = some (.int .i64 d2) := (K2.out.1).cell 2
  try clear z_1 z_2 n_1 n_2 n_3 n_4
  have z_1 : w.heap.size < w2.heap.size := cell_lt d_0
  have n_1 : ¬ w2.heap.size = w.heap.size := by omega
  have n_2 : ¬ w.heap.size = w2.heap.size := by omega
  have x_0 : w2.cell? ⟨w.heap.size + 1, 0, none⟩ = some (.int .i64 a) := (K2.out.2).cell 0
  have x_1 : w2.cell? ⟨w.heap.size + 1, 1, none⟩ = some (.int .i64 b) := (K2.out.2).cell 1
  have x_2 : w2.cell? ⟨w.heap.size + 1, 2, none⟩ = some (.int .i64 c) := (K2.out.2).cell 2
  have x_3 : w2.cell? ⟨w.heap.size + 1, 3, none⟩ = some (.bool p) := (K2.out.2).cell 3
  have x_4 : w2.cell? ⟨w.heap.size + 1, 4, none⟩ = some (.bool q) := (K2.out.2).cell 4
  have x_5 : w2.cell? ⟨w.heap.size + 1, 5, none⟩ = some (.bool r) := (K2.out.2).cell 5
  have x_6 : w2.cell? ⟨w.heap.size + 1, 6, none⟩ = some (.bool tn) := (K2.out.2).cell 6
  have z_2 : w.heap.size + 1 < w2.heap.size := cell_lt x_0
  have n_3 : ¬ w2.heap.size = w.heap.size + 1 := by omega
  have n_4 : ¬ w.heap.size + 1 = w2.heap.size := by omega
  go_wp2_with fail
  refine (HhX.out _).mono ?_
  rintro e w3 ⟨rfl, hB3⟩
  have HB3 := Lib.hid (below_up (below_alloc HB2.out) hB3)
  have K3 := Lib.hid (And.intro ((K2.out.1.alloc _).below hB3 (by simp; have := cell_lt d_0; simp at this; omega)) ((K2.out.2.alloc _).below hB3 (by simp; have := cell_lt x_0; simp at this; omega)))
  clear hB3 d_0 d_1 d_2 x_0 x_1 x_2 x_3 x_4 x_5 x_6
  have d_0 : w3.cell? ⟨w.heap.size, 0, none⟩ = some (.int .i64 d0) := (K3.out.1).cell 0
  have d_1 : w3.cell? ⟨w.heap.size, 1, none⟩ = some (.int .i64 d1) := (K3.out.1).cell 1
  have d_2 : w3.cell? ⟨w.heap.size, 2, none⟩ = some (.int .i64 d2) := (K3.out.1).cell 2
  try clear z_1 z_2 n_1 n_2 n_3 n_4
  have z_1 : w.heap.size < w3.heap.size := cell_lt d_0
  have n_1 : ¬ w3.heap.size = w.heap.size := by omega
  have n_2 : ¬ w.heap.size = w3.heap.size := by omega
  have x_0 : w3.cell? ⟨w.heap.size + 1, 0, none⟩ = some (.int .i64 a) := (K3.out.2).cell 0
  have x_1 : w3.cell? ⟨w.heap.size + 1, 1, none⟩ = some (.int .i64 b) := (K3.out.2).cell 1
  have x_2 : w3.cell? ⟨w.heap.size + 1, 2, none⟩ = some (.int .i64 c) := (K3.out.2).cell 2
  have x_3 : w3.cell? ⟨w.heap.size + 1, 3, none⟩ = some (.bool p) := (K3.out.2).cell 3
  have x_4 : w3.cell? ⟨w.heap.size + 1, 4, none⟩ = some (.bool q) := (K3.out.2).cell 4
  have x_5 : w3.cell? ⟨w.heap.size + 1, 5, none⟩ = some (.bool r) := (K3.out.2).cell 5
  have x_6 : w3.cell? ⟨w.heap.size + 1, 6, none⟩ = some (.bool tn) := (K3.out.2).cell 6
  have z_2 : w.heap.size + 1 < w3.heap.size := cell_lt x_0
  have n_3 : ¬ w3.heap.size = w.heap.size + 1 := by omega
  have n_4 : ¬ w.heap.size + 1 = w3.heap.size := by omega
  go_wp2_with fail
  refine (HhY.out _).mono ?_
  rintro e w4 ⟨rfl, hB4⟩
  have HB4 := Lib.hid (below_up (below_alloc HB3.out) hB4)
  have K4 := Lib.hid (And.intro ((K3.out.1.alloc _).below hB4 (by simp; have := cell_lt d_0; simp at this; omega)) ((K3.out.2.alloc _).below hB4 (by simp; have := cell_lt x_0; simp at this; omega)))
  clear hB4 d_0 d_1 d_2 x_0 x_1 x_2 x_3 x_4 x_5 x_6
  have d_0 : w4.cell? ⟨w.heap.size, 0, none⟩ = some (.int .i64 d0) := (K4.out.1).cell 0
  have d_1 : w4.cell? ⟨w.heap.size, 1, none⟩ = some (.int .i64 d1) := (K4.out.1).cell 1
  have d_2 : w4.cell? ⟨w.heap.size, 2, none⟩ = some (.int .i64 d2) := (K4.out.1).cell 2
  try clear z_1 z_2 n_1 n_2 n_3 n_4
  have z_1 : w.heap.size < w4.heap.size := cell_lt d_0
  have n_1 : ¬ w4.heap.size = w.heap.size := by omega
  have n_2 : ¬ w.heap.size = w4.heap.size := by omega
  have x_0 : w4.cell? ⟨w.heap.size + 1, 0, none⟩ = some (.int .i64 a) := (K4.out.2).cell 0
  have x_1 : w4.cell? ⟨w.heap.size + 1, 1, none⟩ = some (.int .i64 b) := (K4.out.2).cell 1
  have x_2 : w4.cell? ⟨w.heap.size + 1, 2, none⟩ = some (.int .i64 c) := (K4.out.2).cell 2
  have x_3 : w4.cell? ⟨w.heap.size + 1, 3, none⟩ = some (.bool p) := (K4.out.2).cell 3
  have x_4 : w4.cell? ⟨w.heap.size + 1, 4, none⟩ = some (.bool q) := (K4.out.2).cell 4
  have x_5 : w4.cell? ⟨w.heap.size + 1, 5, none⟩ = some (.bool r) := (K4.out.2).cell 5
  have x_6 : w4.cell? ⟨w.heap.size + 1, 6, none⟩ = some (.bool tn) := (K4.out.2).cell 6
  have z_2 : w.heap.size + 1 < w4.heap.size := cell_lt x_0
  have n_3 : ¬ w4.heap.size = w.heap.size + 1 := by omega
  have n_4 : ¬ w.heap.size + 1 = w4.heap.size := by omega
  go_wp2_with fail
  refine (HhZ.out _).mono ?_
  rintro e w5 ⟨rfl, hB5⟩
  have HB5 := Lib.hid (below_up (below_alloc HB4.out) hB5)
  have x6 : w5.cell? ⟨w.heap.size + 1, 6, none⟩ = some (.bool tn) := keep_cell (cell_over _ x_6) hB5
  clear hB5 d_0 d_1 d_2 x_0 x_1 x_2 x_3 x_4 x_5 x_6
  go_upto_region 15 with fail
  have KK := K12.out
  cases tn <;> cases is
  · go_wp2_with fail
    go_ret
    exact ⟨rfl, HB5.out⟩
  · obtain ⟨rfl, rfl⟩ := KK.1 rfl
    go_wp2_with fail
    go_ret
    exact ⟨rfl, HB5.out⟩
  · obtain rfl := KK.2 rfl
    go_wp2_with fail
    go_ret
    exact ⟨rfl, HB5.out⟩
  · obtain ⟨rfl, rfl⟩ := KK.1 rfl
    obtain rfl := KK.2 rfl
    go_wp2_with fail
    go_ret
    exact ⟨rfl, HB5.out⟩
end Go.Proofs.Ytcapbkihjjhkjaa.TurnFitsW1
