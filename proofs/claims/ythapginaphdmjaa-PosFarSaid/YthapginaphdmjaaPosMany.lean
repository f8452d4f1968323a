/- The contracts of pos.Many and of the reference's N, Many, Check, for all numbers. -/
import Derived.Test.YthapginaphdmjaaPosCheck
namespace Go.Proofs.Ythapginaphdmjaa.PosMany
open Go.RowKit Mem PosMath PosCheck
set_option linter.unusedVariables false

theorem num_bounds {a b c : Int} (h : May a b c) : (0 ≤ a * b ∧ a * b ≤ 256) ∧ (0 ≤ a * b * c ∧ a * b * c ≤ 4096) := by
  obtain ⟨⟨ha, ha'⟩, ⟨hb, hb'⟩, ⟨hc, hc'⟩⟩ := h
  have h1 : 0 ≤ a * b := Int.mul_nonneg (by omega) (by omega)
  have h2 : a * b ≤ 16 * 16 := Int.mul_le_mul (by omega) (by omega) (by omega) (by omega)
  have h3 : 0 ≤ a * b * c := Int.mul_nonneg h1 (by omega)
  have h4 : a * b * c ≤ 256 * 16 := Int.mul_le_mul (by omega) (by omega) (by omega) (by omega)
  omega
set_option maxHeartbeats 1000000 in
theorem many_ok (a b c : Int) (h : May a b c) (w : World) :
    Calls Try.prog 9 #[.agg #[.int .i64 a, .int .i64 b, .int .i64 c]] w fun e w' => e = .returned (.tuple #[.int .i64 (num a b c), .int .i64 0]) ∧ Below w.heap.size w w' := by
  obtain ⟨⟨h1, h2⟩, ⟨h3, h4⟩⟩ := num_bounds h
  have HH := Lib.hid h
  clear h
  unfold num
  go_enter Try.func9, Try.ntmps9
  go_wp2_with fail
  refine (check_ok a b c HH.out _).mono ?_
  rintro e w1 ⟨rfl, hB1⟩
  have HB1 : Hid (Below w.heap.size w w1) := below_up (below_alloc (Below.refl _ _)) hB1
  have c1_0 : w1.cell? ⟨w.heap.size, 0, none⟩ = some (.int .i64 a) := keep_cell (box0 w 23 #[.int .i64 a, .int .i64 b, .int .i64 c] 0) hB1
  have c1_1 : w1.cell? ⟨w.heap.size, 1, none⟩ = some (.int .i64 b) := keep_cell (box0 w 23 #[.int .i64 a, .int .i64 b, .int .i64 c] 1) hB1
  have c1_2 : w1.cell? ⟨w.heap.size, 2, none⟩ = some (.int .i64 c) := keep_cell (box0 w 23 #[.int .i64 a, .int .i64 b, .int .i64 c] 2) hB1
  have z1_0 : w.heap.size < w1.heap.size := cell_lt c1_0
  clear hB1  
  go_wp2_with fail
  go_ret2
  exact ⟨rfl, HB1.out⟩
set_option maxHeartbeats 1000000 in
theorem many_bad (a b c : Int) (h : ¬ May a b c) (w : World) :
    Calls Try.prog 9 #[.agg #[.int .i64 a, .int .i64 b, .int .i64 c]] w fun e w' => e = .returned (.tuple #[.int .i64 0, .int .i64 8]) ∧ Below w.heap.size w w' := by
  have HH := Lib.hid h
  clear h
  go_enter Try.func9, Try.ntmps9
  go_wp2_with fail
  refine (check_bad a b c HH.out _).mono ?_
  rintro e w1 ⟨rfl, hB1⟩
  have HB1 : Hid (Below w.heap.size w w1) := below_up (below_alloc (Below.refl _ _)) hB1
  have c1_0 : w1.cell? ⟨w.heap.size, 0, none⟩ = some (.int .i64 a) := keep_cell (box0 w 23 #[.int .i64 a, .int .i64 b, .int .i64 c] 0) hB1
  have c1_1 : w1.cell? ⟨w.heap.size, 1, none⟩ = some (.int .i64 b) := keep_cell (box0 w 23 #[.int .i64 a, .int .i64 b, .int .i64 c] 1) hB1
  have c1_2 : w1.cell? ⟨w.heap.size, 2, none⟩ = some (.int .i64 c) := keep_cell (box0 w 23 #[.int .i64 a, .int .i64 b, .int .i64 c] 2) hB1
  have z1_0 : w.heap.size < w1.heap.size := cell_lt c1_0
  clear hB1  
  go_wp2_with fail
  go_ret2
  exact ⟨rfl, HB1.out⟩
set_option maxHeartbeats 1000000 in
theorem refN_ok (a b c : Int) (h : May a b c) (w : World) :
    Calls Try.prog 24 #[.agg #[.int .i64 a, .int .i64 b, .int .i64 c]] w fun e w' => e = .returned (.int .i64 (num a b c)) ∧ Below w.heap.size w w' := by
  obtain ⟨⟨h1, h2⟩, ⟨h3, h4⟩⟩ := num_bounds h
  clear h
  unfold num
  go_enter Try.func24, Try.ntmps24
  go_wp2_with fail
  go_ret
  exact ⟨rfl, (below_alloc (Below.refl _ _))⟩
set_option maxHeartbeats 1000000 in
theorem refmany_ok (a b c : Int) (h : May a b c) (w : World) :
    Calls Try.prog 10 #[.agg #[.int .i64 a, .int .i64 b, .int .i64 c]] w fun e w' => e = .returned (.tuple #[.int .i64 (num a b c), .int .i64 0]) ∧ Below w.heap.size w w' := by
  have HH := Lib.hid h
  clear h
  go_enter Try.func10, Try.ntmps10
  go_wp2_with fail
  refine (may_ok a b c HH.out _).mono ?_
  rintro e w1 ⟨rfl, hB1⟩
  have HB1 : Hid (Below w.heap.size w w1) := below_up (below_alloc (Below.refl _ _)) hB1
  have c1_0 : w1.cell? ⟨w.heap.size, 0, none⟩ = some (.int .i64 a) := keep_cell (box0 w 23 #[.int .i64 a, .int .i64 b, .int .i64 c] 0) hB1
  have c1_1 : w1.cell? ⟨w.heap.size, 1, none⟩ = some (.int .i64 b) := keep_cell (box0 w 23 #[.int .i64 a, .int .i64 b, .int .i64 c] 1) hB1
  have c1_2 : w1.cell? ⟨w.heap.size, 2, none⟩ = some (.int .i64 c) := keep_cell (box0 w 23 #[.int .i64 a, .int .i64 b, .int .i64 c] 2) hB1
  have z1_0 : w.heap.size < w1.heap.size := cell_lt c1_0
  clear hB1  
  go_wp2_with fail
  refine (refN_ok a b c HH.out _).mono ?_
  rintro e w2 ⟨rfl, hB2⟩
  have HB2 : Hid (Below w.heap.size w w2) := below_up HB1.out hB2
  have c2_0 : w2.cell? ⟨w.heap.size, 0, none⟩ = some (.int .i64 a) := keep_cell c1_0 hB2
  have c2_1 : w2.cell? ⟨w.heap.size, 1, none⟩ = some (.int .i64 b) := keep_cell c1_1 hB2
  have c2_2 : w2.cell? ⟨w.heap.size, 2, none⟩ = some (.int .i64 c) := keep_cell c1_2 hB2
  have z2_0 : w.heap.size < w2.heap.size := cell_lt c2_0
  clear hB2 c1_0 c1_1 c1_2 z1_0
  go_wp2_with fail
  go_ret2
  exact ⟨rfl, HB2.out⟩
set_option maxHeartbeats 1000000 in
theorem refmany_bad (a b c : Int) (h : ¬ May a b c) (w : World) :
    Calls Try.prog 10 #[.agg #[.int .i64 a, .int .i64 b, .int .i64 c]] w fun e w' => e = .returned (.tuple #[.int .i64 0, .int .i64 8]) ∧ Below w.heap.size w w' := by
  have HH := Lib.hid h
  clear h
  go_enter Try.func10, Try.ntmps10
  go_wp2_with fail
  refine (may_bad a b c HH.out _).mono ?_
  rintro e w1 ⟨rfl, hB1⟩
  have HB1 : Hid (Below w.heap.size w w1) := below_up (below_alloc (Below.refl _ _)) hB1
  have c1_0 : w1.cell? ⟨w.heap.size, 0, none⟩ = some (.int .i64 a) := keep_cell (box0 w 23 #[.int .i64 a, .int .i64 b, .int .i64 c] 0) hB1
  have c1_1 : w1.cell? ⟨w.heap.size, 1, none⟩ = some (.int .i64 b) := keep_cell (box0 w 23 #[.int .i64 a, .int .i64 b, .int .i64 c] 1) hB1
  have c1_2 : w1.cell? ⟨w.heap.size, 2, none⟩ = some (.int .i64 c) := keep_cell (box0 w 23 #[.int .i64 a, .int .i64 b, .int .i64 c] 2) hB1
  have z1_0 : w.heap.size < w1.heap.size := cell_lt c1_0
  clear hB1  
  go_wp2_with fail
  go_ret2
  exact ⟨rfl, HB1.out⟩
set_option maxHeartbeats 1000000 in
theorem refcheck_ok (a b c : Int) (h : May a b c) (w : World) :
    Calls Try.prog 16 #[.agg #[.int .i64 a, .int .i64 b, .int .i64 c]] w fun e w' => e = .returned (.int .i64 0) ∧ Below w.heap.size w w' := by
  have HH := Lib.hid h
  clear h
  go_enter Try.func16, Try.ntmps16
  go_wp2_with fail
  refine (may_ok a b c HH.out _).mono ?_
  rintro e w1 ⟨rfl, hB1⟩
  have HB1 : Hid (Below w.heap.size w w1) := below_up (below_alloc (Below.refl _ _)) hB1
  have c1_0 : w1.cell? ⟨w.heap.size, 0, none⟩ = some (.int .i64 a) := keep_cell (box0 w 23 #[.int .i64 a, .int .i64 b, .int .i64 c] 0) hB1
  have c1_1 : w1.cell? ⟨w.heap.size, 1, none⟩ = some (.int .i64 b) := keep_cell (box0 w 23 #[.int .i64 a, .int .i64 b, .int .i64 c] 1) hB1
  have c1_2 : w1.cell? ⟨w.heap.size, 2, none⟩ = some (.int .i64 c) := keep_cell (box0 w 23 #[.int .i64 a, .int .i64 b, .int .i64 c] 2) hB1
  have z1_0 : w.heap.size < w1.heap.size := cell_lt c1_0
  clear hB1  
  go_wp2_with fail
  go_ret
  exact ⟨rfl, HB1.out⟩
set_option maxHeartbeats 1000000 in
theorem refcheck_bad (a b c : Int) (h : ¬ May a b c) (w : World) :
    Calls Try.prog 16 #[.agg #[.int .i64 a, .int .i64 b, .int .i64 c]] w fun e w' => e = .returned (.int .i64 8) ∧ Below w.heap.size w w' := by
  have HH := Lib.hid h
  clear h
  go_enter Try.func16, Try.ntmps16
  go_wp2_with fail
  refine (may_bad a b c HH.out _).mono ?_
  rintro e w1 ⟨rfl, hB1⟩
  have HB1 : Hid (Below w.heap.size w w1) := below_up (below_alloc (Below.refl _ _)) hB1
  have c1_0 : w1.cell? ⟨w.heap.size, 0, none⟩ = some (.int .i64 a) := keep_cell (box0 w 23 #[.int .i64 a, .int .i64 b, .int .i64 c] 0) hB1
  have c1_1 : w1.cell? ⟨w.heap.size, 1, none⟩ = some (.int .i64 b) := keep_cell (box0 w 23 #[.int .i64 a, .int .i64 b, .int .i64 c] 1) hB1
  have c1_2 : w1.cell? ⟨w.heap.size, 2, none⟩ = some (.int .i64 c) := keep_cell (box0 w 23 #[.int .i64 a, .int .i64 b, .int .i64 c] 2) hB1
  have z1_0 : w.heap.size < w1.heap.size := cell_lt c1_0
  clear hB1  
  go_wp2_with fail
  go_ret
  exact ⟨rfl, HB1.out⟩
end Go.Proofs.Ythapginaphdmjaa.PosMany
