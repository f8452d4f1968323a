/- The walk of PartNames: the chapter's examples. -/
import Derived.Test.YtfndopemfhmhgaaPartFew
import Derived.Test.YtfndopemfhmhgaaPartNextA
import Derived.Test.YtfndopemfhmhgaaPartNextD
import Derived.Test.YtfndopemfhmhgaaPartNextE
namespace Go.Proofs.Ytfndopemfhmhgaa.PartNames
open Go.RowKit Mem PosMath PosCheck PartMath PartClass PartCheck PartEnds PartEnds2 PartFew PartTable PartNext PartNextA PartNextD PartNextE
set_option linter.unusedVariables false

theorem n1 (g : Nat) (w : World) (hk : ClsAt w w.heap.size (some ⟨g, 0, none⟩) [(0, 1, 1, 1)]) :
    Calls Try.prog 11 #[.agg #[.int .i64 1, .int .i64 1, .int .i64 1, .int .i64 5, .int .i64 2, .int .i64 2, .int .i64 1, .slice (some ⟨g, 0, none⟩) 1 1], .agg #[.int .i64 1, .int .i64 0, .int .i64 0, .int .i64 0, .int .i64 0, .int .i64 0, .int .i64 0, .bool false, .bool false, .bool false, .int .u8 1, .int .i64 1, .int .i64 10], .int .u8 1, .int .i64 12] w fun e w' => e = .returned (.tuple #[.agg #[.int .i64 1, .int .i64 0, .int .i64 0, .int .i64 0, .int .i64 0, .int .i64 0, .int .i64 0, .bool false, .bool false, .bool false, .int .u8 2, .int .i64 1, .int .i64 12], .int .u8 0, .bool false, .int .i64 0]) ∧ Below w.heap.size w w' :=
  nx_turn 1 1 1 5 2 2 1 (some ⟨g, 0, none⟩) 1 [(0, 1, 1, 1)] (by decide) 1 0 0 0 0 0 0 false false false 1 1 10 1 12 cfg_plain part_boots (by decide) (by decide) (by decide) 2 0 row1A (fun w => by kernel_rfl) (fun w => by kernel_rfl) (by decide) (by decide) w hk
theorem n2 (g : Nat) (w : World) (hk : ClsAt w w.heap.size (some ⟨g, 0, none⟩) [(0, 1, 1, 1)]) :
    Calls Try.prog 11 #[.agg #[.int .i64 1, .int .i64 1, .int .i64 1, .int .i64 5, .int .i64 2, .int .i64 2, .int .i64 1, .slice (some ⟨g, 0, none⟩) 1 1], .agg #[.int .i64 1, .int .i64 0, .int .i64 0, .int .i64 0, .int .i64 0, .int .i64 0, .int .i64 0, .bool false, .bool false, .bool false, .int .u8 1, .int .i64 1, .int .i64 10], .int .u8 2, .int .i64 15] w fun e w' => e = .returned (.tuple #[.agg #[.int .i64 1, .int .i64 0, .int .i64 0, .int .i64 0, .int .i64 0, .int .i64 0, .int .i64 0, .bool false, .bool false, .bool false, .int .u8 1, .int .i64 2, .int .i64 15], .int .u8 0, .bool false, .int .i64 0]) ∧ Below w.heap.size w w' :=
  nx_again 1 1 1 5 2 2 1 (some ⟨g, 0, none⟩) 1 [(0, 1, 1, 1)] (by decide) 1 0 0 0 0 0 0 false false false 1 1 10 2 15 cfg_plain part_boots (by decide) (by decide) (by decide) row2A (fun w => by kernel_rfl) (fun w => by kernel_rfl) rfl (by decide) w hk
theorem n3 (g : Nat) (w : World) (hk : ClsAt w w.heap.size (some ⟨g, 0, none⟩) [(0, 1, 1, 1)]) :
    Calls Try.prog 11 #[.agg #[.int .i64 1, .int .i64 1, .int .i64 1, .int .i64 5, .int .i64 2, .int .i64 2, .int .i64 1, .slice (some ⟨g, 0, none⟩) 1 1], .agg #[.int .i64 1, .int .i64 0, .int .i64 0, .int .i64 0, .int .i64 0, .int .i64 0, .int .i64 0, .bool false, .bool false, .bool false, .int .u8 1, .int .i64 1, .int .i64 10], .int .u8 3, .int .i64 12] w fun e w' => e = .returned (.tuple #[.agg #[.int .i64 0, .int .i64 0, .int .i64 0, .int .i64 0, .int .i64 0, .int .i64 0, .int .i64 0, .bool false, .bool false, .bool false, .int .u8 0, .int .i64 0, .int .i64 0], .int .u8 0, .bool false, .int .i64 250]) ∧ Below w.heap.size w w' :=
  nx_state 1 1 1 5 2 2 1 (some ⟨g, 0, none⟩) 1 [(0, 1, 1, 1)] (by decide) 1 0 0 0 0 0 0 false false false 1 1 10 3 12 cfg_plain part_boots (by decide) (by decide) (by decide) 0 false false row3A (fun w => by kernel_rfl) (fun w => by kernel_rfl) w hk
theorem n4 (g : Nat) (w : World) (hk : ClsAt w w.heap.size (some ⟨g, 0, none⟩) [(0, 1, 1, 1)]) :
    Calls Try.prog 11 #[.agg #[.int .i64 1, .int .i64 1, .int .i64 1, .int .i64 5, .int .i64 2, .int .i64 2, .int .i64 1, .slice (some ⟨g, 0, none⟩) 1 1], .agg #[.int .i64 1, .int .i64 0, .int .i64 0, .int .i64 0, .int .i64 0, .int .i64 0, .int .i64 0, .bool false, .bool false, .bool false, .int .u8 1, .int .i64 1, .int .i64 10], .int .u8 1, .int .i64 9] w fun e w' => e = .returned (.tuple #[.agg #[.int .i64 0, .int .i64 0, .int .i64 0, .int .i64 0, .int .i64 0, .int .i64 0, .int .i64 0, .bool false, .bool false, .bool false, .int .u8 0, .int .i64 0, .int .i64 0], .int .u8 0, .bool false, .int .i64 2]) ∧ Below w.heap.size w w' :=
  next_now 1 1 1 5 2 2 1 (some ⟨g, 0, none⟩) 1 [(0, 1, 1, 1)] (by decide) 1 0 0 0 0 0 0 false false false 1 1 10 1 9 cfg_plain part_boots (by decide) (by decide) (by decide) w hk
set_option maxRecDepth 100000 in
set_option maxHeartbeats 8000000 in
theorem namesLaw (w : World) : Calls Try.prog 4 #[] w fun e w' => e = .returned (.bool true) ∧ Below w.heap.size w w' := by
  go_enter Try.func4, Try.ntmps4
  go_wp2_with fail
  refine (plain_any _).mono ?_
  rintro e w1 ⟨g1, rfl, hB1, hk1⟩
  have HB1 : Hid (Below w.heap.size w w1) := below_up (Below.refl _ _) hB1
  have HK1 := Lib.hid hk1
  clear hk1
  clear hB1  
  go_wp2_with fail
  refine (boots_any _).mono ?_
  rintro e w2 ⟨rfl, hB2⟩
  have HB2 : Hid (Below w.heap.size w w2) := below_up HB1.out hB2
  have HJ2 := Lib.hid (HK1.out.up hB2)
  clear hB2  
  go_wp2_with fail
  refine (n1 g1 _ HJ2.out).mono ?_
  rintro e w3 ⟨rfl, hB3⟩
  have HB3 : Hid (Below w.heap.size w w3) := below_up HB2.out hB3
  clear hB3  
  go_wp2_with fail
  refine (plain_any _).mono ?_
  rintro e w4 ⟨g4, rfl, hB4, hk4⟩
  have HB4 : Hid (Below w.heap.size w w4) := below_up (below_alloc HB3.out) hB4
  have c4_0 : w4.cell? ⟨w3.heap.size, 0, none⟩ = some (.int .i64 1) := keep_cell (box0 w3 37 #[.int .i64 1, .int .i64 0, .int .i64 0, .int .i64 0, .int .i64 0, .int .i64 0, .int .i64 0, .bool false, .bool false, .bool false, .int .u8 2, .int .i64 1, .int .i64 12] 0) hB4
  have c4_1 : w4.cell? ⟨w3.heap.size, 1, none⟩ = some (.int .i64 0) := keep_cell (box0 w3 37 #[.int .i64 1, .int .i64 0, .int .i64 0, .int .i64 0, .int .i64 0, .int .i64 0, .int .i64 0, .bool false, .bool false, .bool false, .int .u8 2, .int .i64 1, .int .i64 12] 1) hB4
  have c4_2 : w4.cell? ⟨w3.heap.size, 2, none⟩ = some (.int .i64 0) := keep_cell (box0 w3 37 #[.int .i64 1, .int .i64 0, .int .i64 0, .int .i64 0, .int .i64 0, .int .i64 0, .int .i64 0, .bool false, .bool false, .bool false, .int .u8 2, .int .i64 1, .int .i64 12] 2) hB4
  have c4_3 : w4.cell? ⟨w3.heap.size, 3, none⟩ = some (.int .i64 0) := keep_cell (box0 w3 37 #[.int .i64 1, .int .i64 0, .int .i64 0, .int .i64 0, .int .i64 0, .int .i64 0, .int .i64 0, .bool false, .bool false, .bool false, .int .u8 2, .int .i64 1, .int .i64 12] 3) hB4
  have c4_4 : w4.cell? ⟨w3.heap.size, 4, none⟩ = some (.int .i64 0) := keep_cell (box0 w3 37 #[.int .i64 1, .int .i64 0, .int .i64 0, .int .i64 0, .int .i64 0, .int .i64 0, .int .i64 0, .bool false, .bool false, .bool false, .int .u8 2, .int .i64 1, .int .i64 12] 4) hB4
  have c4_5 : w4.cell? ⟨w3.heap.size, 5, none⟩ = some (.int .i64 0) := keep_cell (box0 w3 37 #[.int .i64 1, .int .i64 0, .int .i64 0, .int .i64 0, .int .i64 0, .int .i64 0, .int .i64 0, .bool false, .bool false, .bool false, .int .u8 2, .int .i64 1, .int .i64 12] 5) hB4
  have c4_6 : w4.cell? ⟨w3.heap.size, 6, none⟩ = some (.int .i64 0) := keep_cell (box0 w3 37 #[.int .i64 1, .int .i64 0, .int .i64 0, .int .i64 0, .int .i64 0, .int .i64 0, .int .i64 0, .bool false, .bool false, .bool false, .int .u8 2, .int .i64 1, .int .i64 12] 6) hB4
  have c4_7 : w4.cell? ⟨w3.heap.size, 7, none⟩ = some (.bool false) := keep_cell (box0 w3 37 #[.int .i64 1, .int .i64 0, .int .i64 0, .int .i64 0, .int .i64 0, .int .i64 0, .int .i64 0, .bool false, .bool false, .bool false, .int .u8 2, .int .i64 1, .int .i64 12] 7) hB4
  have c4_8 : w4.cell? ⟨w3.heap.size, 8, none⟩ = some (.bool false) := keep_cell (box0 w3 37 #[.int .i64 1, .int .i64 0, .int .i64 0, .int .i64 0, .int .i64 0, .int .i64 0, .int .i64 0, .bool false, .bool false, .bool false, .int .u8 2, .int .i64 1, .int .i64 12] 8) hB4
  have c4_9 : w4.cell? ⟨w3.heap.size, 9, none⟩ = some (.bool false) := keep_cell (box0 w3 37 #[.int .i64 1, .int .i64 0, .int .i64 0, .int .i64 0, .int .i64 0, .int .i64 0, .int .i64 0, .bool false, .bool false, .bool false, .int .u8 2, .int .i64 1, .int .i64 12] 9) hB4
  have c4_10 : w4.cell? ⟨w3.heap.size, 10, none⟩ = some (.int .u8 2) := keep_cell (box0 w3 37 #[.int .i64 1, .int .i64 0, .int .i64 0, .int .i64 0, .int .i64 0, .int .i64 0, .int .i64 0, .bool false, .bool false, .bool false, .int .u8 2, .int .i64 1, .int .i64 12] 10) hB4
  have c4_11 : w4.cell? ⟨w3.heap.size, 11, none⟩ = some (.int .i64 1) := keep_cell (box0 w3 37 #[.int .i64 1, .int .i64 0, .int .i64 0, .int .i64 0, .int .i64 0, .int .i64 0, .int .i64 0, .bool false, .bool false, .bool false, .int .u8 2, .int .i64 1, .int .i64 12] 11) hB4
  have c4_12 : w4.cell? ⟨w3.heap.size, 12, none⟩ = some (.int .i64 12) := keep_cell (box0 w3 37 #[.int .i64 1, .int .i64 0, .int .i64 0, .int .i64 0, .int .i64 0, .int .i64 0, .int .i64 0, .bool false, .bool false, .bool false, .int .u8 2, .int .i64 1, .int .i64 12] 12) hB4
  have z4_0 : w3.heap.size < w4.heap.size := cell_lt c4_0
  have HK4 := Lib.hid hk4
  clear hk4
  clear hB4  
  go_wp2_with fail
  refine (boots_any _).mono ?_
  rintro e w5 ⟨rfl, hB5⟩
  have HB5 : Hid (Below w.heap.size w w5) := below_up HB4.out hB5
  have c5_0 : w5.cell? ⟨w3.heap.size, 0, none⟩ = some (.int .i64 1) := keep_cell c4_0 hB5
  have c5_1 : w5.cell? ⟨w3.heap.size, 1, none⟩ = some (.int .i64 0) := keep_cell c4_1 hB5
  have c5_2 : w5.cell? ⟨w3.heap.size, 2, none⟩ = some (.int .i64 0) := keep_cell c4_2 hB5
  have c5_3 : w5.cell? ⟨w3.heap.size, 3, none⟩ = some (.int .i64 0) := keep_cell c4_3 hB5
  have c5_4 : w5.cell? ⟨w3.heap.size, 4, none⟩ = some (.int .i64 0) := keep_cell c4_4 hB5
  have c5_5 : w5.cell? ⟨w3.heap.size, 5, none⟩ = some (.int .i64 0) := keep_cell c4_5 hB5
  have c5_6 : w5.cell? ⟨w3.heap.size, 6, none⟩ = some (.int .i64 0) := keep_cell c4_6 hB5
  have c5_7 : w5.cell? ⟨w3.heap.size, 7, none⟩ = some (.bool false) := keep_cell c4_7 hB5
  have c5_8 : w5.cell? ⟨w3.heap.size, 8, none⟩ = some (.bool false) := keep_cell c4_8 hB5
  have c5_9 : w5.cell? ⟨w3.heap.size, 9, none⟩ = some (.bool false) := keep_cell c4_9 hB5
  have c5_10 : w5.cell? ⟨w3.heap.size, 10, none⟩ = some (.int .u8 2) := keep_cell c4_10 hB5
  have c5_11 : w5.cell? ⟨w3.heap.size, 11, none⟩ = some (.int .i64 1) := keep_cell c4_11 hB5
  have c5_12 : w5.cell? ⟨w3.heap.size, 12, none⟩ = some (.int .i64 12) := keep_cell c4_12 hB5
  have z5_0 : w3.heap.size < w5.heap.size := cell_lt c5_0
  have HJ5 := Lib.hid (HK4.out.up hB5)
  clear hB5 c4_0 c4_1 c4_2 c4_3 c4_4 c4_5 c4_6 c4_7 c4_8 c4_9 c4_10 c4_11 c4_12 z4_0
  go_wp2_with fail
  refine (n2 g4 _ HJ5.out).mono ?_
  rintro e w6 ⟨rfl, hB6⟩
  have HB6 : Hid (Below w.heap.size w w6) := below_up HB5.out hB6
  have c6_0 : w6.cell? ⟨w3.heap.size, 0, none⟩ = some (.int .i64 1) := keep_cell c5_0 hB6
  have c6_1 : w6.cell? ⟨w3.heap.size, 1, none⟩ = some (.int .i64 0) := keep_cell c5_1 hB6
  have c6_2 : w6.cell? ⟨w3.heap.size, 2, none⟩ = some (.int .i64 0) := keep_cell c5_2 hB6
  have c6_3 : w6.cell? ⟨w3.heap.size, 3, none⟩ = some (.int .i64 0) := keep_cell c5_3 hB6
  have c6_4 : w6.cell? ⟨w3.heap.size, 4, none⟩ = some (.int .i64 0) := keep_cell c5_4 hB6
  have c6_5 : w6.cell? ⟨w3.heap.size, 5, none⟩ = some (.int .i64 0) := keep_cell c5_5 hB6
  have c6_6 : w6.cell? ⟨w3.heap.size, 6, none⟩ = some (.int .i64 0) := keep_cell c5_6 hB6
  have c6_7 : w6.cell? ⟨w3.heap.size, 7, none⟩ = some (.bool false) := keep_cell c5_7 hB6
  have c6_8 : w6.cell? ⟨w3.heap.size, 8, none⟩ = some (.bool false) := keep_cell c5_8 hB6
  have c6_9 : w6.cell? ⟨w3.heap.size, 9, none⟩ = some (.bool false) := keep_cell c5_9 hB6
  have c6_10 : w6.cell? ⟨w3.heap.size, 10, none⟩ = some (.int .u8 2) := keep_cell c5_10 hB6
  have c6_11 : w6.cell? ⟨w3.heap.size, 11, none⟩ = some (.int .i64 1) := keep_cell c5_11 hB6
  have c6_12 : w6.cell? ⟨w3.heap.size, 12, none⟩ = some (.int .i64 12) := keep_cell c5_12 hB6
  have z6_0 : w3.heap.size < w6.heap.size := cell_lt c6_0
  clear hB6 c5_0 c5_1 c5_2 c5_3 c5_4 c5_5 c5_6 c5_7 c5_8 c5_9 c5_10 c5_11 c5_12 z5_0
  go_wp2_with fail
  refine (plain_any _).mono ?_
  rintro e w7 ⟨g7, rfl, hB7, hk7⟩
  have HB7 : Hid (Below w.heap.size w w7) := below_up (below_alloc HB6.out) hB7
  have c7_0 : w7.cell? ⟨w3.heap.size, 0, none⟩ = some (.int .i64 1) := keep_cell (cell_over _ c6_0) hB7
  have c7_1 : w7.cell? ⟨w3.heap.size, 1, none⟩ = some (.int .i64 0) := keep_cell (cell_over _ c6_1) hB7
  have c7_2 : w7.cell? ⟨w3.heap.size, 2, none⟩ = some (.int .i64 0) := keep_cell (cell_over _ c6_2) hB7
  have c7_3 : w7.cell? ⟨w3.heap.size, 3, none⟩ = some (.int .i64 0) := keep_cell (cell_over _ c6_3) hB7
  have c7_4 : w7.cell? ⟨w3.heap.size, 4, none⟩ = some (.int .i64 0) := keep_cell (cell_over _ c6_4) hB7
  have c7_5 : w7.cell? ⟨w3.heap.size, 5, none⟩ = some (.int .i64 0) := keep_cell (cell_over _ c6_5) hB7
  have c7_6 : w7.cell? ⟨w3.heap.size, 6, none⟩ = some (.int .i64 0) := keep_cell (cell_over _ c6_6) hB7
  have c7_7 : w7.cell? ⟨w3.heap.size, 7, none⟩ = some (.bool false) := keep_cell (cell_over _ c6_7) hB7
  have c7_8 : w7.cell? ⟨w3.heap.size, 8, none⟩ = some (.bool false) := keep_cell (cell_over _ c6_8) hB7
  have c7_9 : w7.cell? ⟨w3.heap.size, 9, none⟩ = some (.bool false) := keep_cell (cell_over _ c6_9) hB7
  have c7_10 : w7.cell? ⟨w3.heap.size, 10, none⟩ = some (.int .u8 2) := keep_cell (cell_over _ c6_10) hB7
  have c7_11 : w7.cell? ⟨w3.heap.size, 11, none⟩ = some (.int .i64 1) := keep_cell (cell_over _ c6_11) hB7
  have c7_12 : w7.cell? ⟨w3.heap.size, 12, none⟩ = some (.int .i64 12) := keep_cell (cell_over _ c6_12) hB7
  have c7_13 : w7.cell? ⟨w6.heap.size, 0, none⟩ = some (.int .i64 1) := keep_cell (box0 w6 37 #[.int .i64 1, .int .i64 0, .int .i64 0, .int .i64 0, .int .i64 0, .int .i64 0, .int .i64 0, .bool false, .bool false, .bool false, .int .u8 1, .int .i64 2, .int .i64 15] 0) hB7
  have c7_14 : w7.cell? ⟨w6.heap.size, 1, none⟩ = some (.int .i64 0) := keep_cell (box0 w6 37 #[.int .i64 1, .int .i64 0, .int .i64 0, .int .i64 0, .int .i64 0, .int .i64 0, .int .i64 0, .bool false, .bool false, .bool false, .int .u8 1, .int .i64 2, .int .i64 15] 1) hB7
  have c7_15 : w7.cell? ⟨w6.heap.size, 2, none⟩ = some (.int .i64 0) := keep_cell (box0 w6 37 #[.int .i64 1, .int .i64 0, .int .i64 0, .int .i64 0, .int .i64 0, .int .i64 0, .int .i64 0, .bool false, .bool false, .bool false, .int .u8 1, .int .i64 2, .int .i64 15] 2) hB7
  have c7_16 : w7.cell? ⟨w6.heap.size, 3, none⟩ = some (.int .i64 0) := keep_cell (box0 w6 37 #[.int .i64 1, .int .i64 0, .int .i64 0, .int .i64 0, .int .i64 0, .int .i64 0, .int .i64 0, .bool false, .bool false, .bool false, .int .u8 1, .int .i64 2, .int .i64 15] 3) hB7
  have c7_17 : w7.cell? ⟨w6.heap.size, 4, none⟩ = some (.int .i64 0) := keep_cell (box0 w6 37 #[.int .i64 1, .int .i64 0, .int .i64 0, .int .i64 0, .int .i64 0, .int .i64 0, .int .i64 0, .bool false, .bool false, .bool false, .int .u8 1, .int .i64 2, .int .i64 15] 4) hB7
  have c7_18 : w7.cell? ⟨w6.heap.size, 5, none⟩ = some (.int .i64 0) := keep_cell (box0 w6 37 #[.int .i64 1, .int .i64 0, .int .i64 0, .int .i64 0, .int .i64 0, .int .i64 0, .int .i64 0, .bool false, .bool false, .bool false, .int .u8 1, .int .i64 2, .int .i64 15] 5) hB7
  have c7_19 : w7.cell? ⟨w6.heap.size, 6, none⟩ = some (.int .i64 0) := keep_cell (box0 w6 37 #[.int .i64 1, .int .i64 0, .int .i64 0, .int .i64 0, .int .i64 0, .int .i64 0, .int .i64 0, .bool false, .bool false, .bool false, .int .u8 1, .int .i64 2, .int .i64 15] 6) hB7
  have c7_20 : w7.cell? ⟨w6.heap.size, 7, none⟩ = some (.bool false) := keep_cell (box0 w6 37 #[.int .i64 1, .int .i64 0, .int .i64 0, .int .i64 0, .int .i64 0, .int .i64 0, .int .i64 0, .bool false, .bool false, .bool false, .int .u8 1, .int .i64 2, .int .i64 15] 7) hB7
  have c7_21 : w7.cell? ⟨w6.heap.size, 8, none⟩ = some (.bool false) := keep_cell (box0 w6 37 #[.int .i64 1, .int .i64 0, .int .i64 0, .int .i64 0, .int .i64 0, .int .i64 0, .int .i64 0, .bool false, .bool false, .bool false, .int .u8 1, .int .i64 2, .int .i64 15] 8) hB7
  have c7_22 : w7.cell? ⟨w6.heap.size, 9, none⟩ = some (.bool false) := keep_cell (box0 w6 37 #[.int .i64 1, .int .i64 0, .int .i64 0, .int .i64 0, .int .i64 0, .int .i64 0, .int .i64 0, .bool false, .bool false, .bool false, .int .u8 1, .int .i64 2, .int .i64 15] 9) hB7
  have c7_23 : w7.cell? ⟨w6.heap.size, 10, none⟩ = some (.int .u8 1) := keep_cell (box0 w6 37 #[.int .i64 1, .int .i64 0, .int .i64 0, .int .i64 0, .int .i64 0, .int .i64 0, .int .i64 0, .bool false, .bool false, .bool false, .int .u8 1, .int .i64 2, .int .i64 15] 10) hB7
  have c7_24 : w7.cell? ⟨w6.heap.size, 11, none⟩ = some (.int .i64 2) := keep_cell (box0 w6 37 #[.int .i64 1, .int .i64 0, .int .i64 0, .int .i64 0, .int .i64 0, .int .i64 0, .int .i64 0, .bool false, .bool false, .bool false, .int .u8 1, .int .i64 2, .int .i64 15] 11) hB7
  have c7_25 : w7.cell? ⟨w6.heap.size, 12, none⟩ = some (.int .i64 15) := keep_cell (box0 w6 37 #[.int .i64 1, .int .i64 0, .int .i64 0, .int .i64 0, .int .i64 0, .int .i64 0, .int .i64 0, .bool false, .bool false, .bool false, .int .u8 1, .int .i64 2, .int .i64 15] 12) hB7
  have z7_0 : w3.heap.size < w7.heap.size := cell_lt c7_0
  have z7_1 : w6.heap.size < w7.heap.size := cell_lt c7_13
  have HK7 := Lib.hid hk7
  clear hk7
  clear hB7 c6_0 c6_1 c6_2 c6_3 c6_4 c6_5 c6_6 c6_7 c6_8 c6_9 c6_10 c6_11 c6_12 z6_0
  go_wp2_with fail
  refine (boots_any _).mono ?_
  rintro e w8 ⟨rfl, hB8⟩
  have HB8 : Hid (Below w.heap.size w w8) := below_up HB7.out hB8
  have c8_0 : w8.cell? ⟨w3.heap.size, 0, none⟩ = some (.int .i64 1) := keep_cell c7_0 hB8
  have c8_1 : w8.cell? ⟨w3.heap.size, 1, none⟩ = some (.int .i64 0) := keep_cell c7_1 hB8
  have c8_2 : w8.cell? ⟨w3.heap.size, 2, none⟩ = some (.int .i64 0) := keep_cell c7_2 hB8
  have c8_3 : w8.cell? ⟨w3.heap.size, 3, none⟩ = some (.int .i64 0) := keep_cell c7_3 hB8
  have c8_4 : w8.cell? ⟨w3.heap.size, 4, none⟩ = some (.int .i64 0) := keep_cell c7_4 hB8
  have c8_5 : w8.cell? ⟨w3.heap.size, 5, none⟩ = some (.int .i64 0) := keep_cell c7_5 hB8
  have c8_6 : w8.cell? ⟨w3.heap.size, 6, none⟩ = some (.int .i64 0) := keep_cell c7_6 hB8
  have c8_7 : w8.cell? ⟨w3.heap.size, 7, none⟩ = some (.bool false) := keep_cell c7_7 hB8
  have c8_8 : w8.cell? ⟨w3.heap.size, 8, none⟩ = some (.bool false) := keep_cell c7_8 hB8
  have c8_9 : w8.cell? ⟨w3.heap.size, 9, none⟩ = some (.bool false) := keep_cell c7_9 hB8
  have c8_10 : w8.cell? ⟨w3.heap.size, 10, none⟩ = some (.int .u8 2) := keep_cell c7_10 hB8
  have c8_11 : w8.cell? ⟨w3.heap.size, 11, none⟩ = some (.int .i64 1) := keep_cell c7_11 hB8
  have c8_12 : w8.cell? ⟨w3.heap.size, 12, none⟩ = some (.int .i64 12) := keep_cell c7_12 hB8
  have c8_13 : w8.cell? ⟨w6.heap.size, 0, none⟩ = some (.int .i64 1) := keep_cell c7_13 hB8
  have c8_14 : w8.cell? ⟨w6.heap.size, 1, none⟩ = some (.int .i64 0) := keep_cell c7_14 hB8
  have c8_15 : w8.cell? ⟨w6.heap.size, 2, none⟩ = some (.int .i64 0) := keep_cell c7_15 hB8
  have c8_16 : w8.cell? ⟨w6.heap.size, 3, none⟩ = some (.int .i64 0) := keep_cell c7_16 hB8
  have c8_17 : w8.cell? ⟨w6.heap.size, 4, none⟩ = some (.int .i64 0) := keep_cell c7_17 hB8
  have c8_18 : w8.cell? ⟨w6.heap.size, 5, none⟩ = some (.int .i64 0) := keep_cell c7_18 hB8
  have c8_19 : w8.cell? ⟨w6.heap.size, 6, none⟩ = some (.int .i64 0) := keep_cell c7_19 hB8
  have c8_20 : w8.cell? ⟨w6.heap.size, 7, none⟩ = some (.bool false) := keep_cell c7_20 hB8
  have c8_21 : w8.cell? ⟨w6.heap.size, 8, none⟩ = some (.bool false) := keep_cell c7_21 hB8
  have c8_22 : w8.cell? ⟨w6.heap.size, 9, none⟩ = some (.bool false) := keep_cell c7_22 hB8
  have c8_23 : w8.cell? ⟨w6.heap.size, 10, none⟩ = some (.int .u8 1) := keep_cell c7_23 hB8
  have c8_24 : w8.cell? ⟨w6.heap.size, 11, none⟩ = some (.int .i64 2) := keep_cell c7_24 hB8
  have c8_25 : w8.cell? ⟨w6.heap.size, 12, none⟩ = some (.int .i64 15) := keep_cell c7_25 hB8
  have z8_0 : w3.heap.size < w8.heap.size := cell_lt c8_0
  have z8_1 : w6.heap.size < w8.heap.size := cell_lt c8_13
  have HJ8 := Lib.hid (HK7.out.up hB8)
  clear hB8 c7_0 c7_1 c7_2 c7_3 c7_4 c7_5 c7_6 c7_7 c7_8 c7_9 c7_10 c7_11 c7_12 c7_13 c7_14 c7_15 c7_16 c7_17 c7_18 c7_19 c7_20 c7_21 c7_22 c7_23 c7_24 c7_25 z7_0 z7_1
  go_wp2_with fail
  refine (n3 g7 _ HJ8.out).mono ?_
  rintro e w9 ⟨rfl, hB9⟩
  have HB9 : Hid (Below w.heap.size w w9) := below_up HB8.out hB9
  have c9_0 : w9.cell? ⟨w3.heap.size, 0, none⟩ = some (.int .i64 1) := keep_cell c8_0 hB9
  have c9_1 : w9.cell? ⟨w3.heap.size, 1, none⟩ = some (.int .i64 0) := keep_cell c8_1 hB9
  have c9_2 : w9.cell? ⟨w3.heap.size, 2, none⟩ = some (.int .i64 0) := keep_cell c8_2 hB9
  have c9_3 : w9.cell? ⟨w3.heap.size, 3, none⟩ = some (.int .i64 0) := keep_cell c8_3 hB9
  have c9_4 : w9.cell? ⟨w3.heap.size, 4, none⟩ = some (.int .i64 0) := keep_cell c8_4 hB9
  have c9_5 : w9.cell? ⟨w3.heap.size, 5, none⟩ = some (.int .i64 0) := keep_cell c8_5 hB9
  have c9_6 : w9.cell? ⟨w3.heap.size, 6, none⟩ = some (.int .i64 0) := keep_cell c8_6 hB9
  have c9_7 : w9.cell? ⟨w3.heap.size, 7, none⟩ = some (.bool false) := keep_cell c8_7 hB9
  have c9_8 : w9.cell? ⟨w3.heap.size, 8, none⟩ = some (.bool false) := keep_cell c8_8 hB9
  have c9_9 : w9.cell? ⟨w3.heap.size, 9, none⟩ = some (.bool false) := keep_cell c8_9 hB9
  have c9_10 : w9.cell? ⟨w3.heap.size, 10, none⟩ = some (.int .u8 2) := keep_cell c8_10 hB9
  have c9_11 : w9.cell? ⟨w3.heap.size, 11, none⟩ = some (.int .i64 1) := keep_cell c8_11 hB9
  have c9_12 : w9.cell? ⟨w3.heap.size, 12, none⟩ = some (.int .i64 12) := keep_cell c8_12 hB9
  have c9_13 : w9.cell? ⟨w6.heap.size, 0, none⟩ = some (.int .i64 1) := keep_cell c8_13 hB9
  have c9_14 : w9.cell? ⟨w6.heap.size, 1, none⟩ = some (.int .i64 0) := keep_cell c8_14 hB9
  have c9_15 : w9.cell? ⟨w6.heap.size, 2, none⟩ = some (.int .i64 0) := keep_cell c8_15 hB9
  have c9_16 : w9.cell? ⟨w6.heap.size, 3, none⟩ = some (.int .i64 0) := keep_cell c8_16 hB9
  have c9_17 : w9.cell? ⟨w6.heap.size, 4, none⟩ = some (.int .i64 0) := keep_cell c8_17 hB9
  have c9_18 : w9.cell? ⟨w6.heap.size, 5, none⟩ = some (.int .i64 0) := keep_cell c8_18 hB9
  have c9_19 : w9.cell? ⟨w6.heap.size, 6, none⟩ = some (.int .i64 0) := keep_cell c8_19 hB9
  have c9_20 : w9.cell? ⟨w6.heap.size, 7, none⟩ = some (.bool false) := keep_cell c8_20 hB9
  have c9_21 : w9.cell? ⟨w6.heap.size, 8, none⟩ = some (.bool false) := keep_cell c8_21 hB9
  have c9_22 : w9.cell? ⟨w6.heap.size, 9, none⟩ = some (.bool false) := keep_cell c8_22 hB9
  have c9_23 : w9.cell? ⟨w6.heap.size, 10, none⟩ = some (.int .u8 1) := keep_cell c8_23 hB9
  have c9_24 : w9.cell? ⟨w6.heap.size, 11, none⟩ = some (.int .i64 2) := keep_cell c8_24 hB9
  have c9_25 : w9.cell? ⟨w6.heap.size, 12, none⟩ = some (.int .i64 15) := keep_cell c8_25 hB9
  have z9_0 : w3.heap.size < w9.heap.size := cell_lt c9_0
  have z9_1 : w6.heap.size < w9.heap.size := cell_lt c9_13
  clear hB9 c8_0 c8_1 c8_2 c8_3 c8_4 c8_5 c8_6 c8_7 c8_8 c8_9 c8_10 c8_11 c8_12 c8_13 c8_14 c8_15 c8_16 c8_17 c8_18 c8_19 c8_20 c8_21 c8_22 c8_23 c8_24 c8_25 z8_0 z8_1
  go_wp2_with fail
  refine (plain_any _).mono ?_
  rintro e w10 ⟨g10, rfl, hB10, hk10⟩
  have HB10 : Hid (Below w.heap.size w w10) := below_up (below_alloc HB9.out) hB10
  have c10_0 : w10.cell? ⟨w3.heap.size, 0, none⟩ = some (.int .i64 1) := keep_cell (cell_over _ c9_0) hB10
  have c10_1 : w10.cell? ⟨w3.heap.size, 1, none⟩ = some (.int .i64 0) := keep_cell (cell_over _ c9_1) hB10
  have c10_2 : w10.cell? ⟨w3.heap.size, 2, none⟩ = some (.int .i64 0) := keep_cell (cell_over _ c9_2) hB10
  have c10_3 : w10.cell? ⟨w3.heap.size, 3, none⟩ = some (.int .i64 0) := keep_cell (cell_over _ c9_3) hB10
  have c10_4 : w10.cell? ⟨w3.heap.size, 4, none⟩ = some (.int .i64 0) := keep_cell (cell_over _ c9_4) hB10
  have c10_5 : w10.cell? ⟨w3.heap.size, 5, none⟩ = some (.int .i64 0) := keep_cell (cell_over _ c9_5) hB10
  have c10_6 : w10.cell? ⟨w3.heap.size, 6, none⟩ = some (.int .i64 0) := keep_cell (cell_over _ c9_6) hB10
  have c10_7 : w10.cell? ⟨w3.heap.size, 7, none⟩ = some (.bool false) := keep_cell (cell_over _ c9_7) hB10
  have c10_8 : w10.cell? ⟨w3.heap.size, 8, none⟩ = some (.bool false) := keep_cell (cell_over _ c9_8) hB10
  have c10_9 : w10.cell? ⟨w3.heap.size, 9, none⟩ = some (.bool false) := keep_cell (cell_over _ c9_9) hB10
  have c10_10 : w10.cell? ⟨w3.heap.size, 10, none⟩ = some (.int .u8 2) := keep_cell (cell_over _ c9_10) hB10
  have c10_11 : w10.cell? ⟨w3.heap.size, 11, none⟩ = some (.int .i64 1) := keep_cell (cell_over _ c9_11) hB10
  have c10_12 : w10.cell? ⟨w3.heap.size, 12, none⟩ = some (.int .i64 12) := keep_cell (cell_over _ c9_12) hB10
  have c10_13 : w10.cell? ⟨w6.heap.size, 0, none⟩ = some (.int .i64 1) := keep_cell (cell_over _ c9_13) hB10
  have c10_14 : w10.cell? ⟨w6.heap.size, 1, none⟩ = some (.int .i64 0) := keep_cell (cell_over _ c9_14) hB10
  have c10_15 : w10.cell? ⟨w6.heap.size, 2, none⟩ = some (.int .i64 0) := keep_cell (cell_over _ c9_15) hB10
  have c10_16 : w10.cell? ⟨w6.heap.size, 3, none⟩ = some (.int .i64 0) := keep_cell (cell_over _ c9_16) hB10
  have c10_17 : w10.cell? ⟨w6.heap.size, 4, none⟩ = some (.int .i64 0) := keep_cell (cell_over _ c9_17) hB10
  have c10_18 : w10.cell? ⟨w6.heap.size, 5, none⟩ = some (.int .i64 0) := keep_cell (cell_over _ c9_18) hB10
  have c10_19 : w10.cell? ⟨w6.heap.size, 6, none⟩ = some (.int .i64 0) := keep_cell (cell_over _ c9_19) hB10
  have c10_20 : w10.cell? ⟨w6.heap.size, 7, none⟩ = some (.bool false) := keep_cell (cell_over _ c9_20) hB10
  have c10_21 : w10.cell? ⟨w6.heap.size, 8, none⟩ = some (.bool false) := keep_cell (cell_over _ c9_21) hB10
  have c10_22 : w10.cell? ⟨w6.heap.size, 9, none⟩ = some (.bool false) := keep_cell (cell_over _ c9_22) hB10
  have c10_23 : w10.cell? ⟨w6.heap.size, 10, none⟩ = some (.int .u8 1) := keep_cell (cell_over _ c9_23) hB10
  have c10_24 : w10.cell? ⟨w6.heap.size, 11, none⟩ = some (.int .i64 2) := keep_cell (cell_over _ c9_24) hB10
  have c10_25 : w10.cell? ⟨w6.heap.size, 12, none⟩ = some (.int .i64 15) := keep_cell (cell_over _ c9_25) hB10
  have c10_26 : w10.cell? ⟨w9.heap.size, 0, none⟩ = some (.int .i64 0) := keep_cell (box0 w9 37 #[.int .i64 0, .int .i64 0, .int .i64 0, .int .i64 0, .int .i64 0, .int .i64 0, .int .i64 0, .bool false, .bool false, .bool false, .int .u8 0, .int .i64 0, .int .i64 0] 0) hB10
  have c10_27 : w10.cell? ⟨w9.heap.size, 1, none⟩ = some (.int .i64 0) := keep_cell (box0 w9 37 #[.int .i64 0, .int .i64 0, .int .i64 0, .int .i64 0, .int .i64 0, .int .i64 0, .int .i64 0, .bool false, .bool false, .bool false, .int .u8 0, .int .i64 0, .int .i64 0] 1) hB10
  have c10_28 : w10.cell? ⟨w9.heap.size, 2, none⟩ = some (.int .i64 0) := keep_cell (box0 w9 37 #[.int .i64 0, .int .i64 0, .int .i64 0, .int .i64 0, .int .i64 0, .int .i64 0, .int .i64 0, .bool false, .bool false, .bool false, .int .u8 0, .int .i64 0, .int .i64 0] 2) hB10
  have c10_29 : w10.cell? ⟨w9.heap.size, 3, none⟩ = some (.int .i64 0) := keep_cell (box0 w9 37 #[.int .i64 0, .int .i64 0, .int .i64 0, .int .i64 0, .int .i64 0, .int .i64 0, .int .i64 0, .bool false, .bool false, .bool false, .int .u8 0, .int .i64 0, .int .i64 0] 3) hB10
  have c10_30 : w10.cell? ⟨w9.heap.size, 4, none⟩ = some (.int .i64 0) := keep_cell (box0 w9 37 #[.int .i64 0, .int .i64 0, .int .i64 0, .int .i64 0, .int .i64 0, .int .i64 0, .int .i64 0, .bool false, .bool false, .bool false, .int .u8 0, .int .i64 0, .int .i64 0] 4) hB10
  have c10_31 : w10.cell? ⟨w9.heap.size, 5, none⟩ = some (.int .i64 0) := keep_cell (box0 w9 37 #[.int .i64 0, .int .i64 0, .int .i64 0, .int .i64 0, .int .i64 0, .int .i64 0, .int .i64 0, .bool false, .bool false, .bool false, .int .u8 0, .int .i64 0, .int .i64 0] 5) hB10
  have c10_32 : w10.cell? ⟨w9.heap.size, 6, none⟩ = some (.int .i64 0) := keep_cell (box0 w9 37 #[.int .i64 0, .int .i64 0, .int .i64 0, .int .i64 0, .int .i64 0, .int .i64 0, .int .i64 0, .bool false, .bool false, .bool false, .int .u8 0, .int .i64 0, .int .i64 0] 6) hB10
  have c10_33 : w10.cell? ⟨w9.heap.size, 7, none⟩ = some (.bool false) := keep_cell (box0 w9 37 #[.int .i64 0, .int .i64 0, .int .i64 0, .int .i64 0, .int .i64 0, .int .i64 0, .int .i64 0, .bool false, .bool false, .bool false, .int .u8 0, .int .i64 0, .int .i64 0] 7) hB10
  have c10_34 : w10.cell? ⟨w9.heap.size, 8, none⟩ = some (.bool false) := keep_cell (box0 w9 37 #[.int .i64 0, .int .i64 0, .int .i64 0, .int .i64 0, .int .i64 0, .int .i64 0, .int .i64 0, .bool false, .bool false, .bool false, .int .u8 0, .int .i64 0, .int .i64 0] 8) hB10
  have c10_35 : w10.cell? ⟨w9.heap.size, 9, none⟩ = some (.bool false) := keep_cell (box0 w9 37 #[.int .i64 0, .int .i64 0, .int .i64 0, .int .i64 0, .int .i64 0, .int .i64 0, .int .i64 0, .bool false, .bool false, .bool false, .int .u8 0, .int .i64 0, .int .i64 0] 9) hB10
  have c10_36 : w10.cell? ⟨w9.heap.size, 10, none⟩ = some (.int .u8 0) := keep_cell (box0 w9 37 #[.int .i64 0, .int .i64 0, .int .i64 0, .int .i64 0, .int .i64 0, .int .i64 0, .int .i64 0, .bool false, .bool false, .bool false, .int .u8 0, .int .i64 0, .int .i64 0] 10) hB10
  have c10_37 : w10.cell? ⟨w9.heap.size, 11, none⟩ = some (.int .i64 0) := keep_cell (box0 w9 37 #[.int .i64 0, .int .i64 0, .int .i64 0, .int .i64 0, .int .i64 0, .int .i64 0, .int .i64 0, .bool false, .bool false, .bool false, .int .u8 0, .int .i64 0, .int .i64 0] 11) hB10
  have c10_38 : w10.cell? ⟨w9.heap.size, 12, none⟩ = some (.int .i64 0) := keep_cell (box0 w9 37 #[.int .i64 0, .int .i64 0, .int .i64 0, .int .i64 0, .int .i64 0, .int .i64 0, .int .i64 0, .bool false, .bool false, .bool false, .int .u8 0, .int .i64 0, .int .i64 0] 12) hB10
  have z10_0 : w3.heap.size < w10.heap.size := cell_lt c10_0
  have z10_1 : w6.heap.size < w10.heap.size := cell_lt c10_13
  have z10_2 : w9.heap.size < w10.heap.size := cell_lt c10_26
  have HK10 := Lib.hid hk10
  clear hk10
  clear hB10 c9_0 c9_1 c9_2 c9_3 c9_4 c9_5 c9_6 c9_7 c9_8 c9_9 c9_10 c9_11 c9_12 c9_13 c9_14 c9_15 c9_16 c9_17 c9_18 c9_19 c9_20 c9_21 c9_22 c9_23 c9_24 c9_25 z9_0 z9_1
  go_wp2_with fail
  refine (boots_any _).mono ?_
  rintro e w11 ⟨rfl, hB11⟩
  have HB11 : Hid (Below w.heap.size w w11) := below_up HB10.out hB11
  have c11_0 : w11.cell? ⟨w3.heap.size, 0, none⟩ = some (.int .i64 1) := keep_cell c10_0 hB11
  have c11_1 : w11.cell? ⟨w3.heap.size, 1, none⟩ = some (.int .i64 0) := keep_cell c10_1 hB11
  have c11_2 : w11.cell? ⟨w3.heap.size, 2, none⟩ = some (.int .i64 0) := keep_cell c10_2 hB11
  have c11_3 : w11.cell? ⟨w3.heap.size, 3, none⟩ = some (.int .i64 0) := keep_cell c10_3 hB11
  have c11_4 : w11.cell? ⟨w3.heap.size, 4, none⟩ = some (.int .i64 0) := keep_cell c10_4 hB11
  have c11_5 : w11.cell? ⟨w3.heap.size, 5, none⟩ = some (.int .i64 0) := keep_cell c10_5 hB11
  have c11_6 : w11.cell? ⟨w3.heap.size, 6, none⟩ = some (.int .i64 0) := keep_cell c10_6 hB11
  have c11_7 : w11.cell? ⟨w3.heap.size, 7, none⟩ = some (.bool false) := keep_cell c10_7 hB11
  have c11_8 : w11.cell? ⟨w3.heap.size, 8, none⟩ = some (.bool false) := keep_cell c10_8 hB11
  have c11_9 : w11.cell? ⟨w3.heap.size, 9, none⟩ = some (.bool false) := keep_cell c10_9 hB11
  have c11_10 : w11.cell? ⟨w3.heap.size, 10, none⟩ = some (.int .u8 2) := keep_cell c10_10 hB11
  have c11_11 : w11.cell? ⟨w3.heap.size, 11, none⟩ = some (.int .i64 1) := keep_cell c10_11 hB11
  have c11_12 : w11.cell? ⟨w3.heap.size, 12, none⟩ = some (.int .i64 12) := keep_cell c10_12 hB11
  have c11_13 : w11.cell? ⟨w6.heap.size, 0, none⟩ = some (.int .i64 1) := keep_cell c10_13 hB11
  have c11_14 : w11.cell? ⟨w6.heap.size, 1, none⟩ = some (.int .i64 0) := keep_cell c10_14 hB11
  have c11_15 : w11.cell? ⟨w6.heap.size, 2, none⟩ = some (.int .i64 0) := keep_cell c10_15 hB11
  have c11_16 : w11.cell? ⟨w6.heap.size, 3, none⟩ = some (.int .i64 0) := keep_cell c10_16 hB11
  have c11_17 : w11.cell? ⟨w6.heap.size, 4, none⟩ = some (.int .i64 0) := keep_cell c10_17 hB11
  have c11_18 : w11.cell? ⟨w6.heap.size, 5, none⟩ = some (.int .i64 0) := keep_cell c10_18 hB11
  have c11_19 : w11.cell? ⟨w6.heap.size, 6, none⟩ = some (.int .i64 0) := keep_cell c10_19 hB11
  have c11_20 : w11.cell? ⟨w6.heap.size, 7, none⟩ = some (.bool false) := keep_cell c10_20 hB11
  have c11_21 : w11.cell? ⟨w6.heap.size, 8, none⟩ = some (.bool false) := keep_cell c10_21 hB11
  have c11_22 : w11.cell? ⟨w6.heap.size, 9, none⟩ = some (.bool false) := keep_cell c10_22 hB11
  have c11_23 : w11.cell? ⟨w6.heap.size, 10, none⟩ = some (.int .u8 1) := keep_cell c10_23 hB11
  have c11_24 : w11.cell? ⟨w6.heap.size, 11, none⟩ = some (.int .i64 2) := keep_cell c10_24 hB11
  have c11_25 : w11.cell? ⟨w6.heap.size, 12, none⟩ = some (.int .i64 15) := keep_cell c10_25 hB11
  have c11_26 : w11.cell? ⟨w9.heap.size, 0, none⟩ = some (.int .i64 0) := keep_cell c10_26 hB11
  have c11_27 : w11.cell? ⟨w9.heap.size, 1, none⟩ = some (.int .i64 0) := keep_cell c10_27 hB11
  have c11_28 : w11.cell? ⟨w9.heap.size, 2, none⟩ = some (.int .i64 0) := keep_cell c10_28 hB11
  have c11_29 : w11.cell? ⟨w9.heap.size, 3, none⟩ = some (.int .i64 0) := keep_cell c10_29 hB11
  have c11_30 : w11.cell? ⟨w9.heap.size, 4, none⟩ = some (.int .i64 0) := keep_cell c10_30 hB11
  have c11_31 : w11.cell? ⟨w9.heap.size, 5, none⟩ = some (.int .i64 0) := keep_cell c10_31 hB11
  have c11_32 : w11.cell? ⟨w9.heap.size, 6, none⟩ = some (.int .i64 0) := keep_cell c10_32 hB11
  have c11_33 : w11.cell? ⟨w9.heap.size, 7, none⟩ = some (.bool false) := keep_cell c10_33 hB11
  have c11_34 : w11.cell? ⟨w9.heap.size, 8, none⟩ = some (.bool false) := keep_cell c10_34 hB11
  have c11_35 : w11.cell? ⟨w9.heap.size, 9, none⟩ = some (.bool false) := keep_cell c10_35 hB11
  have c11_36 : w11.cell? ⟨w9.heap.size, 10, none⟩ = some (.int .u8 0) := keep_cell c10_36 hB11
  have c11_37 : w11.cell? ⟨w9.heap.size, 11, none⟩ = some (.int .i64 0) := keep_cell c10_37 hB11
  have c11_38 : w11.cell? ⟨w9.heap.size, 12, none⟩ = some (.int .i64 0) := keep_cell c10_38 hB11
  have z11_0 : w3.heap.size < w11.heap.size := cell_lt c11_0
  have z11_1 : w6.heap.size < w11.heap.size := cell_lt c11_13
  have z11_2 : w9.heap.size < w11.heap.size := cell_lt c11_26
  have HJ11 := Lib.hid (HK10.out.up hB11)
  clear hB11 c10_0 c10_1 c10_2 c10_3 c10_4 c10_5 c10_6 c10_7 c10_8 c10_9 c10_10 c10_11 c10_12 c10_13 c10_14 c10_15 c10_16 c10_17 c10_18 c10_19 c10_20 c10_21 c10_22 c10_23 c10_24 c10_25 c10_26 c10_27 c10_28 c10_29 c10_30 c10_31 c10_32 c10_33 c10_34 c10_35 c10_36 c10_37 c10_38 z10_0 z10_1 z10_2
  go_wp2_with fail
  refine (n4 g10 _ HJ11.out).mono ?_
  rintro e w12 ⟨rfl, hB12⟩
  have HB12 : Hid (Below w.heap.size w w12) := below_up HB11.out hB12
  have c12_0 : w12.cell? ⟨w3.heap.size, 0, none⟩ = some (.int .i64 1) := keep_cell c11_0 hB12
  have c12_1 : w12.cell? ⟨w3.heap.size, 1, none⟩ = some (.int .i64 0) := keep_cell c11_1 hB12
  have c12_2 : w12.cell? ⟨w3.heap.size, 2, none⟩ = some (.int .i64 0) := keep_cell c11_2 hB12
  have c12_3 : w12.cell? ⟨w3.heap.size, 3, none⟩ = some (.int .i64 0) := keep_cell c11_3 hB12
  have c12_4 : w12.cell? ⟨w3.heap.size, 4, none⟩ = some (.int .i64 0) := keep_cell c11_4 hB12
  have c12_5 : w12.cell? ⟨w3.heap.size, 5, none⟩ = some (.int .i64 0) := keep_cell c11_5 hB12
  have c12_6 : w12.cell? ⟨w3.heap.size, 6, none⟩ = some (.int .i64 0) := keep_cell c11_6 hB12
  have c12_7 : w12.cell? ⟨w3.heap.size, 7, none⟩ = some (.bool false) := keep_cell c11_7 hB12
  have c12_8 : w12.cell? ⟨w3.heap.size, 8, none⟩ = some (.bool false) := keep_cell c11_8 hB12
  have c12_9 : w12.cell? ⟨w3.heap.size, 9, none⟩ = some (.bool false) := keep_cell c11_9 hB12
  have c12_10 : w12.cell? ⟨w3.heap.size, 10, none⟩ = some (.int .u8 2) := keep_cell c11_10 hB12
  have c12_11 : w12.cell? ⟨w3.heap.size, 11, none⟩ = some (.int .i64 1) := keep_cell c11_11 hB12
  have c12_12 : w12.cell? ⟨w3.heap.size, 12, none⟩ = some (.int .i64 12) := keep_cell c11_12 hB12
  have c12_13 : w12.cell? ⟨w6.heap.size, 0, none⟩ = some (.int .i64 1) := keep_cell c11_13 hB12
  have c12_14 : w12.cell? ⟨w6.heap.size, 1, none⟩ = some (.int .i64 0) := keep_cell c11_14 hB12
  have c12_15 : w12.cell? ⟨w6.heap.size, 2, none⟩ = some (.int .i64 0) := keep_cell c11_15 hB12
  have c12_16 : w12.cell? ⟨w6.heap.size, 3, none⟩ = some (.int .i64 0) := keep_cell c11_16 hB12
  have c12_17 : w12.cell? ⟨w6.heap.size, 4, none⟩ = some (.int .i64 0) := keep_cell c11_17 hB12
  have c12_18 : w12.cell? ⟨w6.heap.size, 5, none⟩ = some (.int .i64 0) := keep_cell c11_18 hB12
  have c12_19 : w12.cell? ⟨w6.heap.size, 6, none⟩ = some (.int .i64 0) := keep_cell c11_19 hB12
  have c12_20 : w12.cell? ⟨w6.heap.size, 7, none⟩ = some (.bool false) := keep_cell c11_20 hB12
  have c12_21 : w12.cell? ⟨w6.heap.size, 8, none⟩ = some (.bool false) := keep_cell c11_21 hB12
  have c12_22 : w12.cell? ⟨w6.heap.size, 9, none⟩ = some (.bool false) := keep_cell c11_22 hB12
  have c12_23 : w12.cell? ⟨w6.heap.size, 10, none⟩ = some (.int .u8 1) := keep_cell c11_23 hB12
  have c12_24 : w12.cell? ⟨w6.heap.size, 11, none⟩ = some (.int .i64 2) := keep_cell c11_24 hB12
  have c12_25 : w12.cell? ⟨w6.heap.size, 12, none⟩ = some (.int .i64 15) := keep_cell c11_25 hB12
  have c12_26 : w12.cell? ⟨w9.heap.size, 0, none⟩ = some (.int .i64 0) := keep_cell c11_26 hB12
  have c12_27 : w12.cell? ⟨w9.heap.size, 1, none⟩ = some (.int .i64 0) := keep_cell c11_27 hB12
  have c12_28 : w12.cell? ⟨w9.heap.size, 2, none⟩ = some (.int .i64 0) := keep_cell c11_28 hB12
  have c12_29 : w12.cell? ⟨w9.heap.size, 3, none⟩ = some (.int .i64 0) := keep_cell c11_29 hB12
  have c12_30 : w12.cell? ⟨w9.heap.size, 4, none⟩ = some (.int .i64 0) := keep_cell c11_30 hB12
  have c12_31 : w12.cell? ⟨w9.heap.size, 5, none⟩ = some (.int .i64 0) := keep_cell c11_31 hB12
  have c12_32 : w12.cell? ⟨w9.heap.size, 6, none⟩ = some (.int .i64 0) := keep_cell c11_32 hB12
  have c12_33 : w12.cell? ⟨w9.heap.size, 7, none⟩ = some (.bool false) := keep_cell c11_33 hB12
  have c12_34 : w12.cell? ⟨w9.heap.size, 8, none⟩ = some (.bool false) := keep_cell c11_34 hB12
  have c12_35 : w12.cell? ⟨w9.heap.size, 9, none⟩ = some (.bool false) := keep_cell c11_35 hB12
  have c12_36 : w12.cell? ⟨w9.heap.size, 10, none⟩ = some (.int .u8 0) := keep_cell c11_36 hB12
  have c12_37 : w12.cell? ⟨w9.heap.size, 11, none⟩ = some (.int .i64 0) := keep_cell c11_37 hB12
  have c12_38 : w12.cell? ⟨w9.heap.size, 12, none⟩ = some (.int .i64 0) := keep_cell c11_38 hB12
  have z12_0 : w3.heap.size < w12.heap.size := cell_lt c12_0
  have z12_1 : w6.heap.size < w12.heap.size := cell_lt c12_13
  have z12_2 : w9.heap.size < w12.heap.size := cell_lt c12_26
  clear hB12 c11_0 c11_1 c11_2 c11_3 c11_4 c11_5 c11_6 c11_7 c11_8 c11_9 c11_10 c11_11 c11_12 c11_13 c11_14 c11_15 c11_16 c11_17 c11_18 c11_19 c11_20 c11_21 c11_22 c11_23 c11_24 c11_25 c11_26 c11_27 c11_28 c11_29 c11_30 c11_31 c11_32 c11_33 c11_34 c11_35 c11_36 c11_37 c11_38 z11_0 z11_1 z11_2
  go_wp2_with fail
  refine (alive_any _).mono ?_
  rintro e w13 ⟨rfl, hB13⟩
  have HB13 : Hid (Below w.heap.size w w13) := below_up (below_alloc HB12.out) hB13
  have c13_0 : w13.cell? ⟨w3.heap.size, 0, none⟩ = some (.int .i64 1) := keep_cell (cell_over _ c12_0) hB13
  have c13_1 : w13.cell? ⟨w3.heap.size, 1, none⟩ = some (.int .i64 0) := keep_cell (cell_over _ c12_1) hB13
  have c13_2 : w13.cell? ⟨w3.heap.size, 2, none⟩ = some (.int .i64 0) := keep_cell (cell_over _ c12_2) hB13
  have c13_3 : w13.cell? ⟨w3.heap.size, 3, none⟩ = some (.int .i64 0) := keep_cell (cell_over _ c12_3) hB13
  have c13_4 : w13.cell? ⟨w3.heap.size, 4, none⟩ = some (.int .i64 0) := keep_cell (cell_over _ c12_4) hB13
  have c13_5 : w13.cell? ⟨w3.heap.size, 5, none⟩ = some (.int .i64 0) := keep_cell (cell_over _ c12_5) hB13
  have c13_6 : w13.cell? ⟨w3.heap.size, 6, none⟩ = some (.int .i64 0) := keep_cell (cell_over _ c12_6) hB13
  have c13_7 : w13.cell? ⟨w3.heap.size, 7, none⟩ = some (.bool false) := keep_cell (cell_over _ c12_7) hB13
  have c13_8 : w13.cell? ⟨w3.heap.size, 8, none⟩ = some (.bool false) := keep_cell (cell_over _ c12_8) hB13
  have c13_9 : w13.cell? ⟨w3.heap.size, 9, none⟩ = some (.bool false) := keep_cell (cell_over _ c12_9) hB13
  have c13_10 : w13.cell? ⟨w3.heap.size, 10, none⟩ = some (.int .u8 2) := keep_cell (cell_over _ c12_10) hB13
  have c13_11 : w13.cell? ⟨w3.heap.size, 11, none⟩ = some (.int .i64 1) := keep_cell (cell_over _ c12_11) hB13
  have c13_12 : w13.cell? ⟨w3.heap.size, 12, none⟩ = some (.int .i64 12) := keep_cell (cell_over _ c12_12) hB13
  have c13_13 : w13.cell? ⟨w6.heap.size, 0, none⟩ = some (.int .i64 1) := keep_cell (cell_over _ c12_13) hB13
  have c13_14 : w13.cell? ⟨w6.heap.size, 1, none⟩ = some (.int .i64 0) := keep_cell (cell_over _ c12_14) hB13
  have c13_15 : w13.cell? ⟨w6.heap.size, 2, none⟩ = some (.int .i64 0) := keep_cell (cell_over _ c12_15) hB13
  have c13_16 : w13.cell? ⟨w6.heap.size, 3, none⟩ = some (.int .i64 0) := keep_cell (cell_over _ c12_16) hB13
  have c13_17 : w13.cell? ⟨w6.heap.size, 4, none⟩ = some (.int .i64 0) := keep_cell (cell_over _ c12_17) hB13
  have c13_18 : w13.cell? ⟨w6.heap.size, 5, none⟩ = some (.int .i64 0) := keep_cell (cell_over _ c12_18) hB13
  have c13_19 : w13.cell? ⟨w6.heap.size, 6, none⟩ = some (.int .i64 0) := keep_cell (cell_over _ c12_19) hB13
  have c13_20 : w13.cell? ⟨w6.heap.size, 7, none⟩ = some (.bool false) := keep_cell (cell_over _ c12_20) hB13
  have c13_21 : w13.cell? ⟨w6.heap.size, 8, none⟩ = some (.bool false) := keep_cell (cell_over _ c12_21) hB13
  have c13_22 : w13.cell? ⟨w6.heap.size, 9, none⟩ = some (.bool false) := keep_cell (cell_over _ c12_22) hB13
  have c13_23 : w13.cell? ⟨w6.heap.size, 10, none⟩ = some (.int .u8 1) := keep_cell (cell_over _ c12_23) hB13
  have c13_24 : w13.cell? ⟨w6.heap.size, 11, none⟩ = some (.int .i64 2) := keep_cell (cell_over _ c12_24) hB13
  have c13_25 : w13.cell? ⟨w6.heap.size, 12, none⟩ = some (.int .i64 15) := keep_cell (cell_over _ c12_25) hB13
  have c13_26 : w13.cell? ⟨w9.heap.size, 0, none⟩ = some (.int .i64 0) := keep_cell (cell_over _ c12_26) hB13
  have c13_27 : w13.cell? ⟨w9.heap.size, 1, none⟩ = some (.int .i64 0) := keep_cell (cell_over _ c12_27) hB13
  have c13_28 : w13.cell? ⟨w9.heap.size, 2, none⟩ = some (.int .i64 0) := keep_cell (cell_over _ c12_28) hB13
  have c13_29 : w13.cell? ⟨w9.heap.size, 3, none⟩ = some (.int .i64 0) := keep_cell (cell_over _ c12_29) hB13
  have c13_30 : w13.cell? ⟨w9.heap.size, 4, none⟩ = some (.int .i64 0) := keep_cell (cell_over _ c12_30) hB13
  have c13_31 : w13.cell? ⟨w9.heap.size, 5, none⟩ = some (.int .i64 0) := keep_cell (cell_over _ c12_31) hB13
  have c13_32 : w13.cell? ⟨w9.heap.size, 6, none⟩ = some (.int .i64 0) := keep_cell (cell_over _ c12_32) hB13
  have c13_33 : w13.cell? ⟨w9.heap.size, 7, none⟩ = some (.bool false) := keep_cell (cell_over _ c12_33) hB13
  have c13_34 : w13.cell? ⟨w9.heap.size, 8, none⟩ = some (.bool false) := keep_cell (cell_over _ c12_34) hB13
  have c13_35 : w13.cell? ⟨w9.heap.size, 9, none⟩ = some (.bool false) := keep_cell (cell_over _ c12_35) hB13
  have c13_36 : w13.cell? ⟨w9.heap.size, 10, none⟩ = some (.int .u8 0) := keep_cell (cell_over _ c12_36) hB13
  have c13_37 : w13.cell? ⟨w9.heap.size, 11, none⟩ = some (.int .i64 0) := keep_cell (cell_over _ c12_37) hB13
  have c13_38 : w13.cell? ⟨w9.heap.size, 12, none⟩ = some (.int .i64 0) := keep_cell (cell_over _ c12_38) hB13
  have c13_39 : w13.cell? ⟨w12.heap.size, 0, none⟩ = some (.int .i64 0) := keep_cell (box0 w12 37 #[.int .i64 0, .int .i64 0, .int .i64 0, .int .i64 0, .int .i64 0, .int .i64 0, .int .i64 0, .bool false, .bool false, .bool false, .int .u8 0, .int .i64 0, .int .i64 0] 0) hB13
  have c13_40 : w13.cell? ⟨w12.heap.size, 1, none⟩ = some (.int .i64 0) := keep_cell (box0 w12 37 #[.int .i64 0, .int .i64 0, .int .i64 0, .int .i64 0, .int .i64 0, .int .i64 0, .int .i64 0, .bool false, .bool false, .bool false, .int .u8 0, .int .i64 0, .int .i64 0] 1) hB13
  have c13_41 : w13.cell? ⟨w12.heap.size, 2, none⟩ = some (.int .i64 0) := keep_cell (box0 w12 37 #[.int .i64 0, .int .i64 0, .int .i64 0, .int .i64 0, .int .i64 0, .int .i64 0, .int .i64 0, .bool false, .bool false, .bool false, .int .u8 0, .int .i64 0, .int .i64 0] 2) hB13
  have c13_42 : w13.cell? ⟨w12.heap.size, 3, none⟩ = some (.int .i64 0) := keep_cell (box0 w12 37 #[.int .i64 0, .int .i64 0, .int .i64 0, .int .i64 0, .int .i64 0, .int .i64 0, .int .i64 0, .bool false, .bool false, .bool false, .int .u8 0, .int .i64 0, .int .i64 0] 3) hB13
  have c13_43 : w13.cell? ⟨w12.heap.size, 4, none⟩ = some (.int .i64 0) := keep_cell (box0 w12 37 #[.int .i64 0, .int .i64 0, .int .i64 0, .int .i64 0, .int .i64 0, .int .i64 0, .int .i64 0, .bool false, .bool false, .bool false, .int .u8 0, .int .i64 0, .int .i64 0] 4) hB13
  have c13_44 : w13.cell? ⟨w12.heap.size, 5, none⟩ = some (.int .i64 0) := keep_cell (box0 w12 37 #[.int .i64 0, .int .i64 0, .int .i64 0, .int .i64 0, .int .i64 0, .int .i64 0, .int .i64 0, .bool false, .bool false, .bool false, .int .u8 0, .int .i64 0, .int .i64 0] 5) hB13
  have c13_45 : w13.cell? ⟨w12.heap.size, 6, none⟩ = some (.int .i64 0) := keep_cell (box0 w12 37 #[.int .i64 0, .int .i64 0, .int .i64 0, .int .i64 0, .int .i64 0, .int .i64 0, .int .i64 0, .bool false, .bool false, .bool false, .int .u8 0, .int .i64 0, .int .i64 0] 6) hB13
  have c13_46 : w13.cell? ⟨w12.heap.size, 7, none⟩ = some (.bool false) := keep_cell (box0 w12 37 #[.int .i64 0, .int .i64 0, .int .i64 0, .int .i64 0, .int .i64 0, .int .i64 0, .int .i64 0, .bool false, .bool false, .bool false, .int .u8 0, .int .i64 0, .int .i64 0] 7) hB13
  have c13_47 : w13.cell? ⟨w12.heap.size, 8, none⟩ = some (.bool false) := keep_cell (box0 w12 37 #[.int .i64 0, .int .i64 0, .int .i64 0, .int .i64 0, .int .i64 0, .int .i64 0, .int .i64 0, .bool false, .bool false, .bool false, .int .u8 0, .int .i64 0, .int .i64 0] 8) hB13
  have c13_48 : w13.cell? ⟨w12.heap.size, 9, none⟩ = some (.bool false) := keep_cell (box0 w12 37 #[.int .i64 0, .int .i64 0, .int .i64 0, .int .i64 0, .int .i64 0, .int .i64 0, .int .i64 0, .bool false, .bool false, .bool false, .int .u8 0, .int .i64 0, .int .i64 0] 9) hB13
  have c13_49 : w13.cell? ⟨w12.heap.size, 10, none⟩ = some (.int .u8 0) := keep_cell (box0 w12 37 #[.int .i64 0, .int .i64 0, .int .i64 0, .int .i64 0, .int .i64 0, .int .i64 0, .int .i64 0, .bool false, .bool false, .bool false, .int .u8 0, .int .i64 0, .int .i64 0] 10) hB13
  have c13_50 : w13.cell? ⟨w12.heap.size, 11, none⟩ = some (.int .i64 0) := keep_cell (box0 w12 37 #[.int .i64 0, .int .i64 0, .int .i64 0, .int .i64 0, .int .i64 0, .int .i64 0, .int .i64 0, .bool false, .bool false, .bool false, .int .u8 0, .int .i64 0, .int .i64 0] 11) hB13
  have c13_51 : w13.cell? ⟨w12.heap.size, 12, none⟩ = some (.int .i64 0) := keep_cell (box0 w12 37 #[.int .i64 0, .int .i64 0, .int .i64 0, .int .i64 0, .int .i64 0, .int .i64 0, .int .i64 0, .bool false, .bool false, .bool false, .int .u8 0, .int .i64 0, .int .i64 0] 12) hB13
  have z13_0 : w3.heap.size < w13.heap.size := cell_lt c13_0
  have z13_1 : w6.heap.size < w13.heap.size := cell_lt c13_13
  have z13_2 : w9.heap.size < w13.heap.size := cell_lt c13_26
  have z13_3 : w12.heap.size < w13.heap.size := cell_lt c13_39
  clear hB13 c12_0 c12_1 c12_2 c12_3 c12_4 c12_5 c12_6 c12_7 c12_8 c12_9 c12_10 c12_11 c12_12 c12_13 c12_14 c12_15 c12_16 c12_17 c12_18 c12_19 c12_20 c12_21 c12_22 c12_23 c12_24 c12_25 c12_26 c12_27 c12_28 c12_29 c12_30 c12_31 c12_32 c12_33 c12_34 c12_35 c12_36 c12_37 c12_38 z12_0 z12_1 z12_2
  go_wp2_with fail
  go_ret
  exact ⟨rfl, HB13.out⟩
end Go.Proofs.Ytfndopemfhmhgaa.PartNames
