/- The walks of PosTells and PosSteps; the chapter's first examples. -/
import Derived.Test.YthapginaphdmjaaPosSame
import Derived.Test.YthapginaphdmjaaArr
namespace Go.Proofs.Ythapginaphdmjaa.PosLaws
open Go.RowKit Go.Shelf Go.Sort PosMath PosCheck PosMany Mem SeqKit PosSeq Round PosAt PosOf PosRef PosOn PosFar PosRefFar PosSame Arr
set_option linter.unusedVariables false

set_option maxRecDepth 100000 in
set_option maxHeartbeats 4000000 in
theorem tellsLaw (w : World) (a b c : Int) (wa : (Lit.int .i64 a).wf = true) (wb : (Lit.int .i64 b).wf = true) (wc : (Lit.int .i64 c).wf = true) (x y z : Int) (wx : (Lit.int .i64 x).wf = true) (wy : (Lit.int .i64 y).wf = true) (wz : (Lit.int .i64 z).wf = true) (m : Int) (wm : (Lit.int .i64 m).wf = true) :
    Calls Try.prog 3 #[.agg #[.int .i64 a, .int .i64 b, .int .i64 c], .agg #[.int .i64 x, .int .i64 y, .int .i64 z], .int .i64 m] w fun e w' => e = .returned (.bool true) ∧ Below w.heap.size w w' := by
  obtain ⟨ec, h1, h2⟩ := check_same a b c
  obtain ⟨nm, em, h3, h4⟩ := many_same a b c
  obtain ⟨na, ea, h5, h6⟩ := at_same a b c x y z
  obtain ⟨ox, oy, oz, eo, h7, h8⟩ := of_same a b c m
  clear wa wb wc wx wy wz wm
  have q3 := fun (a b c a' b' c' : Int) (w : World) => eq3_int (P := Try.prog) Try.underlying22 Try.underlying3 (fun w => by kernel_rfl) a b c a' b' c' w
  have Hh1 := Lib.hid h1
  have Hh2 := Lib.hid h2
  have Hh3 := Lib.hid h3
  have Hh4 := Lib.hid h4
  have Hh5 := Lib.hid h5
  have Hh6 := Lib.hid h6
  have Hh7 := Lib.hid h7
  have Hh8 := Lib.hid h8
  clear h1 h2 h3 h4 h5 h6 h7 h8
  go_enter Try.func3, Try.ntmps3
  go_wp2_with fail
  refine (Hh3.out _).mono ?_
  rintro e w1 ⟨rfl, hB1⟩
  have HB1 : Hid (Below w.heap.size w w1) := below_up (below_alloc (below_alloc (Below.refl _ _))) hB1
  have c1_0 : w1.cell? ⟨w.heap.size, 0, none⟩ = some (.int .i64 a) := keep_cell (cell_over _ (box0 w 23 #[.int .i64 a, .int .i64 b, .int .i64 c] 0)) hB1
  have c1_1 : w1.cell? ⟨w.heap.size, 1, none⟩ = some (.int .i64 b) := keep_cell (cell_over _ (box0 w 23 #[.int .i64 a, .int .i64 b, .int .i64 c] 1)) hB1
  have c1_2 : w1.cell? ⟨w.heap.size, 2, none⟩ = some (.int .i64 c) := keep_cell (cell_over _ (box0 w 23 #[.int .i64 a, .int .i64 b, .int .i64 c] 2)) hB1
  have c1_3 : w1.cell? ⟨w.heap.size + 1, 0, none⟩ = some (.int .i64 x) := keep_cell (box1 w 22 #[.int .i64 x, .int .i64 y, .int .i64 z] 0) hB1
  have c1_4 : w1.cell? ⟨w.heap.size + 1, 1, none⟩ = some (.int .i64 y) := keep_cell (box1 w 22 #[.int .i64 x, .int .i64 y, .int .i64 z] 1) hB1
  have c1_5 : w1.cell? ⟨w.heap.size + 1, 2, none⟩ = some (.int .i64 z) := keep_cell (box1 w 22 #[.int .i64 x, .int .i64 y, .int .i64 z] 2) hB1
  have z1_0 : w.heap.size < w1.heap.size := cell_lt c1_0
  have z1_1 : w.heap.size + 1 < w1.heap.size := cell_lt c1_3
  clear hB1  
  go_wp2_with fail
  refine (Hh4.out _).mono ?_
  rintro e w2 ⟨rfl, hB2⟩
  have HB2 : Hid (Below w.heap.size w w2) := below_up HB1.out hB2
  have c2_0 : w2.cell? ⟨w.heap.size, 0, none⟩ = some (.int .i64 a) := keep_cell c1_0 hB2
  have c2_1 : w2.cell? ⟨w.heap.size, 1, none⟩ = some (.int .i64 b) := keep_cell c1_1 hB2
  have c2_2 : w2.cell? ⟨w.heap.size, 2, none⟩ = some (.int .i64 c) := keep_cell c1_2 hB2
  have c2_3 : w2.cell? ⟨w.heap.size + 1, 0, none⟩ = some (.int .i64 x) := keep_cell c1_3 hB2
  have c2_4 : w2.cell? ⟨w.heap.size + 1, 1, none⟩ = some (.int .i64 y) := keep_cell c1_4 hB2
  have c2_5 : w2.cell? ⟨w.heap.size + 1, 2, none⟩ = some (.int .i64 z) := keep_cell c1_5 hB2
  have z2_0 : w.heap.size < w2.heap.size := cell_lt c2_0
  have z2_1 : w.heap.size + 1 < w2.heap.size := cell_lt c2_3
  clear hB2 c1_0 c1_1 c1_2 c1_3 c1_4 c1_5 z1_0 z1_1
  go_wp2_with fail
  refine (Hh5.out _).mono ?_
  rintro e w3 ⟨rfl, hB3⟩
  have HB3 : Hid (Below w.heap.size w w3) := below_up HB2.out hB3
  have c3_0 : w3.cell? ⟨w.heap.size, 0, none⟩ = some (.int .i64 a) := keep_cell c2_0 hB3
  have c3_1 : w3.cell? ⟨w.heap.size, 1, none⟩ = some (.int .i64 b) := keep_cell c2_1 hB3
  have c3_2 : w3.cell? ⟨w.heap.size, 2, none⟩ = some (.int .i64 c) := keep_cell c2_2 hB3
  have c3_3 : w3.cell? ⟨w.heap.size + 1, 0, none⟩ = some (.int .i64 x) := keep_cell c2_3 hB3
  have c3_4 : w3.cell? ⟨w.heap.size + 1, 1, none⟩ = some (.int .i64 y) := keep_cell c2_4 hB3
  have c3_5 : w3.cell? ⟨w.heap.size + 1, 2, none⟩ = some (.int .i64 z) := keep_cell c2_5 hB3
  have z3_0 : w.heap.size < w3.heap.size := cell_lt c3_0
  have z3_1 : w.heap.size + 1 < w3.heap.size := cell_lt c3_3
  clear hB3 c2_0 c2_1 c2_2 c2_3 c2_4 c2_5 z2_0 z2_1
  go_wp2_with fail
  refine (Hh6.out _).mono ?_
  rintro e w4 ⟨rfl, hB4⟩
  have HB4 : Hid (Below w.heap.size w w4) := below_up HB3.out hB4
  have c4_0 : w4.cell? ⟨w.heap.size, 0, none⟩ = some (.int .i64 a) := keep_cell c3_0 hB4
  have c4_1 : w4.cell? ⟨w.heap.size, 1, none⟩ = some (.int .i64 b) := keep_cell c3_1 hB4
  have c4_2 : w4.cell? ⟨w.heap.size, 2, none⟩ = some (.int .i64 c) := keep_cell c3_2 hB4
  have c4_3 : w4.cell? ⟨w.heap.size + 1, 0, none⟩ = some (.int .i64 x) := keep_cell c3_3 hB4
  have c4_4 : w4.cell? ⟨w.heap.size + 1, 1, none⟩ = some (.int .i64 y) := keep_cell c3_4 hB4
  have c4_5 : w4.cell? ⟨w.heap.size + 1, 2, none⟩ = some (.int .i64 z) := keep_cell c3_5 hB4
  have z4_0 : w.heap.size < w4.heap.size := cell_lt c4_0
  have z4_1 : w.heap.size + 1 < w4.heap.size := cell_lt c4_3
  clear hB4 c3_0 c3_1 c3_2 c3_3 c3_4 c3_5 z3_0 z3_1
  go_wp2_with fail
  refine (Hh7.out _).mono ?_
  rintro e w5 ⟨rfl, hB5⟩
  have HB5 : Hid (Below w.heap.size w w5) := below_up HB4.out hB5
  have c5_0 : w5.cell? ⟨w.heap.size, 0, none⟩ = some (.int .i64 a) := keep_cell c4_0 hB5
  have c5_1 : w5.cell? ⟨w.heap.size, 1, none⟩ = some (.int .i64 b) := keep_cell c4_1 hB5
  have c5_2 : w5.cell? ⟨w.heap.size, 2, none⟩ = some (.int .i64 c) := keep_cell c4_2 hB5
  have c5_3 : w5.cell? ⟨w.heap.size + 1, 0, none⟩ = some (.int .i64 x) := keep_cell c4_3 hB5
  have c5_4 : w5.cell? ⟨w.heap.size + 1, 1, none⟩ = some (.int .i64 y) := keep_cell c4_4 hB5
  have c5_5 : w5.cell? ⟨w.heap.size + 1, 2, none⟩ = some (.int .i64 z) := keep_cell c4_5 hB5
  have z5_0 : w.heap.size < w5.heap.size := cell_lt c5_0
  have z5_1 : w.heap.size + 1 < w5.heap.size := cell_lt c5_3
  clear hB5 c4_0 c4_1 c4_2 c4_3 c4_4 c4_5 z4_0 z4_1
  go_wp2_with fail
  refine (Hh8.out _).mono ?_
  rintro e w6 ⟨rfl, hB6⟩
  have HB6 : Hid (Below w.heap.size w w6) := below_up (below_alloc HB5.out) hB6
  have c6_0 : w6.cell? ⟨w.heap.size, 0, none⟩ = some (.int .i64 a) := keep_cell (cell_over _ c5_0) hB6
  have c6_1 : w6.cell? ⟨w.heap.size, 1, none⟩ = some (.int .i64 b) := keep_cell (cell_over _ c5_1) hB6
  have c6_2 : w6.cell? ⟨w.heap.size, 2, none⟩ = some (.int .i64 c) := keep_cell (cell_over _ c5_2) hB6
  have c6_3 : w6.cell? ⟨w.heap.size + 1, 0, none⟩ = some (.int .i64 x) := keep_cell (cell_over _ c5_3) hB6
  have c6_4 : w6.cell? ⟨w.heap.size + 1, 1, none⟩ = some (.int .i64 y) := keep_cell (cell_over _ c5_4) hB6
  have c6_5 : w6.cell? ⟨w.heap.size + 1, 2, none⟩ = some (.int .i64 z) := keep_cell (cell_over _ c5_5) hB6
  have c6_6 : w6.cell? ⟨w5.heap.size, 0, none⟩ = some (.int .i64 ox) := keep_cell (box0 w5 22 #[.int .i64 ox, .int .i64 oy, .int .i64 oz] 0) hB6
  have c6_7 : w6.cell? ⟨w5.heap.size, 1, none⟩ = some (.int .i64 oy) := keep_cell (box0 w5 22 #[.int .i64 ox, .int .i64 oy, .int .i64 oz] 1) hB6
  have c6_8 : w6.cell? ⟨w5.heap.size, 2, none⟩ = some (.int .i64 oz) := keep_cell (box0 w5 22 #[.int .i64 ox, .int .i64 oy, .int .i64 oz] 2) hB6
  have z6_0 : w.heap.size < w6.heap.size := cell_lt c6_0
  have z6_1 : w.heap.size + 1 < w6.heap.size := cell_lt c6_3
  have z6_2 : w5.heap.size < w6.heap.size := cell_lt c6_6
  clear hB6 c5_0 c5_1 c5_2 c5_3 c5_4 c5_5 z5_0 z5_1
  go_wp2_with fail
  have f7_0 : (w6.alloc (.cells #[.int .i64 ox, .int .i64 oy, .int .i64 oz] 22)).cell? ⟨w.heap.size, 0, none⟩ = some (.int .i64 a) := (cell_over _ c6_0)
  have k7_0 := cell_regrown f7_0
  have f7_1 : (w6.alloc (.cells #[.int .i64 ox, .int .i64 oy, .int .i64 oz] 22)).cell? ⟨w.heap.size, 1, none⟩ = some (.int .i64 b) := (cell_over _ c6_1)
  have k7_1 := cell_regrown f7_1
  have f7_2 : (w6.alloc (.cells #[.int .i64 ox, .int .i64 oy, .int .i64 oz] 22)).cell? ⟨w.heap.size, 2, none⟩ = some (.int .i64 c) := (cell_over _ c6_2)
  have k7_2 := cell_regrown f7_2
  have f7_3 : (w6.alloc (.cells #[.int .i64 ox, .int .i64 oy, .int .i64 oz] 22)).cell? ⟨w.heap.size + 1, 0, none⟩ = some (.int .i64 x) := (cell_over _ c6_3)
  have k7_3 := cell_regrown f7_3
  have f7_4 : (w6.alloc (.cells #[.int .i64 ox, .int .i64 oy, .int .i64 oz] 22)).cell? ⟨w.heap.size + 1, 1, none⟩ = some (.int .i64 y) := (cell_over _ c6_4)
  have k7_4 := cell_regrown f7_4
  have f7_5 : (w6.alloc (.cells #[.int .i64 ox, .int .i64 oy, .int .i64 oz] 22)).cell? ⟨w.heap.size + 1, 2, none⟩ = some (.int .i64 z) := (cell_over _ c6_5)
  have k7_5 := cell_regrown f7_5
  have f7_6 : (w6.alloc (.cells #[.int .i64 ox, .int .i64 oy, .int .i64 oz] 22)).cell? ⟨w5.heap.size, 0, none⟩ = some (.int .i64 ox) := (cell_over _ c6_6)
  have k7_6 := cell_regrown f7_6
  have f7_7 : (w6.alloc (.cells #[.int .i64 ox, .int .i64 oy, .int .i64 oz] 22)).cell? ⟨w5.heap.size, 1, none⟩ = some (.int .i64 oy) := (cell_over _ c6_7)
  have k7_7 := cell_regrown f7_7
  have f7_8 : (w6.alloc (.cells #[.int .i64 ox, .int .i64 oy, .int .i64 oz] 22)).cell? ⟨w5.heap.size, 2, none⟩ = some (.int .i64 oz) := (cell_over _ c6_8)
  have k7_8 := cell_regrown f7_8
  have f7_9 : (w6.alloc (.cells #[.int .i64 ox, .int .i64 oy, .int .i64 oz] 22)).cell? ⟨w6.heap.size, 0, none⟩ = some (.int .i64 ox) := (box0 w6 22 #[.int .i64 ox, .int .i64 oy, .int .i64 oz] 0)
  have k7_9 := cell_regrown f7_9
  have f7_10 : (w6.alloc (.cells #[.int .i64 ox, .int .i64 oy, .int .i64 oz] 22)).cell? ⟨w6.heap.size, 1, none⟩ = some (.int .i64 oy) := (box0 w6 22 #[.int .i64 ox, .int .i64 oy, .int .i64 oz] 1)
  have k7_10 := cell_regrown f7_10
  have f7_11 : (w6.alloc (.cells #[.int .i64 ox, .int .i64 oy, .int .i64 oz] 22)).cell? ⟨w6.heap.size, 2, none⟩ = some (.int .i64 oz) := (box0 w6 22 #[.int .i64 ox, .int .i64 oy, .int .i64 oz] 2)
  have k7_11 := cell_regrown f7_11
  refine wp_region_quiet_below (by kernel_rfl) (by kernel_rfl) ?_
  repeat (go_big_quiet_step (first | fail | exact Calls.regrown_of (Hh1.out _) | exact Calls.regrown_of (Hh2.out _)))
  refine wpQuiet_nil ?_
  intro _ hw'
  obtain ⟨⟨dq, osq⟩, hw''⟩ := hw'
  subst hw''
  have hB7 := below_regrown (w6.alloc (.cells #[.int .i64 ox, .int .i64 oy, .int .i64 oz] 22)) dq osq
  have HB7 : Hid (Below w.heap.size w _) := below_up (below_alloc HB6.out) hB7
  have c7_0 := keep_cell f7_0 hB7
  have c7_1 := keep_cell f7_1 hB7
  have c7_2 := keep_cell f7_2 hB7
  have c7_3 := keep_cell f7_3 hB7
  have c7_4 := keep_cell f7_4 hB7
  have c7_5 := keep_cell f7_5 hB7
  have c7_6 := keep_cell f7_6 hB7
  have c7_7 := keep_cell f7_7 hB7
  have c7_8 := keep_cell f7_8 hB7
  have c7_9 := keep_cell f7_9 hB7
  have c7_10 := keep_cell f7_10 hB7
  have c7_11 := keep_cell f7_11 hB7
  generalize hgw7 : grow (redrawn (w6.alloc (.cells #[.int .i64 ox, .int .i64 oy, .int .i64 oz] 22)) dq) osq = w7 at *
  have z7_0 : w.heap.size < w7.heap.size := cell_lt c7_0
  have z7_1 : w.heap.size + 1 < w7.heap.size := cell_lt c7_3
  have z7_2 : w5.heap.size < w7.heap.size := cell_lt c7_6
  have z7_3 : w6.heap.size < w7.heap.size := cell_lt c7_9
  clear hgw7 hB7 c6_0 c6_1 c6_2 c6_3 c6_4 c6_5 c6_6 c6_7 c6_8 z6_0 z6_1 z6_2 f7_0 k7_0 f7_1 k7_1 f7_2 k7_2 f7_3 k7_3 f7_4 k7_4 f7_5 k7_5 f7_6 k7_6 f7_7 k7_7 f7_8 k7_8 f7_9 k7_9 f7_10 k7_10 f7_11 k7_11
  go_wp2_with fail
  go_ret
  exact ⟨by simp, HB7.out⟩
set_option maxRecDepth 100000 in
set_option maxHeartbeats 4000000 in
theorem stepsLaw (w : World) (a b c : Int) (wa : (Lit.int .i64 a).wf = true) (wb : (Lit.int .i64 b).wf = true) (wc : (Lit.int .i64 c).wf = true) (m : Int) (wm : (Lit.int .i64 m).wf = true) (o : Int) (wo : (Lit.int .i64 o).wf = true) (ax : Int) (wx : (Lit.int .i64 ax).wf = true) (by_ : Int) (wy : (Lit.int .i64 by_).wf = true) :
    Calls Try.prog 7 #[.agg #[.int .i64 a, .int .i64 b, .int .i64 c], .int .i64 m, .int .i64 o, .int .i64 ax, .int .i64 by_] w fun e w' => e = .returned (.bool true) ∧ Below w.heap.size w w' := by
  obtain ⟨n1, e1, h1, h2⟩ := step_same a b c m ax by_
  obtain ⟨n2, e2, h3, h4⟩ := far_same a b c m o
  clear wa wb wc wm wo wx wy
  have Hh1 := Lib.hid h1
  have Hh2 := Lib.hid h2
  have Hh3 := Lib.hid h3
  have Hh4 := Lib.hid h4
  clear h1 h2 h3 h4
  go_enter Try.func7, Try.ntmps7
  go_wp2_with fail
  refine (Hh1.out _).mono ?_
  rintro e w1 ⟨rfl, hB1⟩
  have HB1 : Hid (Below w.heap.size w w1) := below_up (below_alloc (Below.refl _ _)) hB1
  have c1_0 : w1.cell? ⟨w.heap.size, 0, none⟩ = some (.int .i64 a) := keep_cell (box0 w 23 #[.int .i64 a, .int .i64 b, .int .i64 c] 0) hB1
  have c1_1 : w1.cell? ⟨w.heap.size, 1, none⟩ = some (.int .i64 b) := keep_cell (box0 w 23 #[.int .i64 a, .int .i64 b, .int .i64 c] 1) hB1
  have c1_2 : w1.cell? ⟨w.heap.size, 2, none⟩ = some (.int .i64 c) := keep_cell (box0 w 23 #[.int .i64 a, .int .i64 b, .int .i64 c] 2) hB1
  have z1_0 : w.heap.size < w1.heap.size := cell_lt c1_0
  clear hB1  
  go_wp2_with fail
  refine (Hh2.out _).mono ?_
  rintro e w2 ⟨rfl, hB2⟩
  have HB2 : Hid (Below w.heap.size w w2) := below_up HB1.out hB2
  have c2_0 : w2.cell? ⟨w.heap.size, 0, none⟩ = some (.int .i64 a) := keep_cell c1_0 hB2
  have c2_1 : w2.cell? ⟨w.heap.size, 1, none⟩ = some (.int .i64 b) := keep_cell c1_1 hB2
  have c2_2 : w2.cell? ⟨w.heap.size, 2, none⟩ = some (.int .i64 c) := keep_cell c1_2 hB2
  have z2_0 : w.heap.size < w2.heap.size := cell_lt c2_0
  clear hB2 c1_0 c1_1 c1_2 z1_0
  go_wp2_with fail
  refine (Hh3.out _).mono ?_
  rintro e w3 ⟨rfl, hB3⟩
  have HB3 : Hid (Below w.heap.size w w3) := below_up HB2.out hB3
  have c3_0 : w3.cell? ⟨w.heap.size, 0, none⟩ = some (.int .i64 a) := keep_cell c2_0 hB3
  have c3_1 : w3.cell? ⟨w.heap.size, 1, none⟩ = some (.int .i64 b) := keep_cell c2_1 hB3
  have c3_2 : w3.cell? ⟨w.heap.size, 2, none⟩ = some (.int .i64 c) := keep_cell c2_2 hB3
  have z3_0 : w.heap.size < w3.heap.size := cell_lt c3_0
  clear hB3 c2_0 c2_1 c2_2 z2_0
  go_wp2_with fail
  refine (Hh4.out _).mono ?_
  rintro e w4 ⟨rfl, hB4⟩
  have HB4 : Hid (Below w.heap.size w w4) := below_up HB3.out hB4
  have c4_0 : w4.cell? ⟨w.heap.size, 0, none⟩ = some (.int .i64 a) := keep_cell c3_0 hB4
  have c4_1 : w4.cell? ⟨w.heap.size, 1, none⟩ = some (.int .i64 b) := keep_cell c3_1 hB4
  have c4_2 : w4.cell? ⟨w.heap.size, 2, none⟩ = some (.int .i64 c) := keep_cell c3_2 hB4
  have z4_0 : w.heap.size < w4.heap.size := cell_lt c4_0
  clear hB4 c3_0 c3_1 c3_2 z3_0
  go_wp2_with fail
  go_ret
  exact ⟨rfl, HB4.out⟩
set_option maxHeartbeats 1000000 in
theorem some_any (w : World) :
    Calls Try.prog 19 #[] w fun e w' => e = .returned (.agg #[.int .i64 4, .int .i64 3, .int .i64 2]) ∧ Below w.heap.size w w' := by
  go_enter Try.func19, Try.ntmps19
  go_wp2_with fail
  exact bodyPost_ret (v := .agg #[.int .i64 4, .int .i64 3, .int .i64 2]) (by simp [results, Try.results19, go_sem]) rfl ⟨rfl, below_alloc (Below.refl _ _)⟩
theorem may432 : May 4 3 2 := by decide
theorem many432 (w : World) : Calls Try.prog 9 #[.agg #[.int .i64 4, .int .i64 3, .int .i64 2]] w fun e w' => e = .returned (.tuple #[.int .i64 24, .int .i64 0]) ∧ Below w.heap.size w w' := many_ok 4 3 2 may432 w
theorem at432 (w : World) : Calls Try.prog 11 #[.agg #[.int .i64 4, .int .i64 3, .int .i64 2], .agg #[.int .i64 1, .int .i64 2, .int .i64 1]] w fun e w' => e = .returned (.tuple #[.int .i64 21, .int .i64 0]) ∧ Below w.heap.size w w' := at_ok 4 3 2 1 2 1 may432 (by decide) w
theorem of432 (w : World) : Calls Try.prog 13 #[.agg #[.int .i64 4, .int .i64 3, .int .i64 2], .int .i64 23] w fun e w' => e = .returned (.tuple #[.agg #[.int .i64 3, .int .i64 2, .int .i64 1], .int .i64 0]) ∧ Below w.heap.size w w' := of_ok 4 3 2 23 may432 (by decide) (by decide) w
set_option maxRecDepth 100000 in
set_option maxHeartbeats 4000000 in
theorem alive_any (w : World)  :
    Calls Try.prog 17 #[] w fun e w' => e = .returned (.bool true) ∧ Below w.heap.size w w' := by
  have q3 := fun (a b c a' b' c' : Int) (w : World) => eq3_int (P := Try.prog) Try.underlying22 Try.underlying3 (fun w => by kernel_rfl) a b c a' b' c' w
  go_enter Try.func17, Try.ntmps17
  go_wp2_with fail
  refine (some_any _).mono ?_
  rintro e w1 ⟨rfl, hB1⟩
  have HB1 : Hid (Below w.heap.size w w1) := below_up (Below.refl _ _) hB1
  clear hB1  
  go_wp2_with fail
  refine (many432 _).mono ?_
  rintro e w2 ⟨rfl, hB2⟩
  have HB2 : Hid (Below w.heap.size w w2) := below_up HB1.out hB2
  clear hB2  
  go_wp2_with fail
  refine (some_any _).mono ?_
  rintro e w3 ⟨rfl, hB3⟩
  have HB3 : Hid (Below w.heap.size w w3) := below_up HB2.out hB3
  clear hB3  
  go_wp2_with fail
  refine (at432 _).mono ?_
  rintro e w4 ⟨rfl, hB4⟩
  have HB4 : Hid (Below w.heap.size w w4) := below_up HB3.out hB4
  clear hB4  
  go_wp2_with fail
  refine (some_any _).mono ?_
  rintro e w5 ⟨rfl, hB5⟩
  have HB5 : Hid (Below w.heap.size w w5) := below_up HB4.out hB5
  clear hB5  
  go_wp2_with fail
  refine (of432 _).mono ?_
  rintro e w6 ⟨rfl, hB6⟩
  have HB6 : Hid (Below w.heap.size w w6) := below_up HB5.out hB6
  clear hB6  
  go_wp2_with fail
  go_ret
  exact ⟨rfl, (below_alloc HB6.out)⟩
/-- Steps, as a contract with an axis of a name. -/
theorem step_to (k : Ax) (p : Int) (hp : p = axn k) (a b c m by_ r : Int) (h : May a b c) (h0 : 0 ≤ m) (h1 : m < num a b c) (hr : r = onR a b c m k by_) (w : World) :
    Calls Try.prog 18 #[.agg #[.int .i64 a, .int .i64 b, .int .i64 c], .int .i64 m, .int .i64 p, .int .i64 by_] w fun e w' => e = .returned (.tuple #[.int .i64 r, .int .i64 0]) ∧ Below w.heap.size w w' := by
  subst hp; subst hr
  rcases k with _ | _ | _
  · exact step0 a b c m by_ h h0 h1 w
  · exact step1 a b c m by_ h h0 h1 w
  · exact step2 a b c m by_ h h0 h1 w
theorem far_to (a b c m n r : Int) (h : May a b c) (h0 : 0 ≤ m) (h1 : m < num a b c) (h2 : 0 ≤ n) (h3 : n < num a b c) (hr : r = farR a b c m n) (w : World) :
    Calls Try.prog 20 #[.agg #[.int .i64 a, .int .i64 b, .int .i64 c], .int .i64 m, .int .i64 n] w fun e w' => e = .returned (.tuple #[.int .i64 r, .int .i64 0]) ∧ Below w.heap.size w w' := by
  subst hr; exact far_ok a b c m n h h0 h1 h2 h3 w
theorem on_cx {a b c m : Int} (h : May a b c) (k : Ax) (n : Int) : cx a (onR a b c m k n) = (if k = none then stp (cx a m) a n else cx a m) ∧ cy a b (onR a b c m k n) = (if k = some false then stp (cy a b m) b n else cy a b m) ∧ cz a b c (onR a b c m k n) = (if k = some true then stp (cz a b c m) c n else cz a b c m) := by
  obtain ⟨hx, hy, hz⟩ := ok_of (m := m) h
  rcases k with _ | _ | _
  · have s := stp_range (p := cx a m) (k := n) h.1.1
    dsimp only [onR]
    rw [cx_at h s, cy_at h s hy, cz_at h s hy hz]; simp
  · have s := stp_range (p := cy a b m) (k := n) h.2.1.1
    dsimp only [onR]
    rw [cx_at h hx, cy_at h hx s, cz_at h hx s hz]; simp
  · have s := stp_range (p := cz a b c m) (k := n) h.2.2.1
    dsimp only [onR]
    rw [cx_at h hx, cy_at h hx hy, cz_at h hx hy s]; simp
theorem on_eq (a b c m : Int) (k : Ax) (n : Int) : onR a b c m k n = at_ a b (if k = none then stp (cx a m) a n else cx a m) (if k = some false then stp (cy a b m) b n else cy a b m) (if k = some true then stp (cz a b c m) c n else cz a b c m) := by
  rcases k with _ | _ | _ <;> simp [onR]
theorem on_on {a b c m : Int} (h : May a b c) (k : Ax) (i j : Int) : onR a b c (onR a b c m k i) k j = onR a b c m k (i + j) := by
  obtain ⟨e1, e2, e3⟩ := on_cx (m := m) h k i
  rw [on_eq a b c (onR a b c m k i), e1, e2, e3, on_eq a b c m k (i + j)]
  rcases k with _ | _ | _ <;> simp [stp_stp]
theorem on_zero {a b c m : Int} (h : May a b c) (h0 : 0 ≤ m) (h1 : m < num a b c) (k : Ax) : onR a b c m k 0 = m := by
  obtain ⟨hx, hy, hz⟩ := ok_of (m := m) h
  rcases k with _ | _ | _ <;> dsimp only [onR]
  · rw [stp_zero hx]; exact at_of h h0 h1
  · rw [stp_zero hy]; exact at_of h h0 h1
  · rw [stp_zero hz]; exact at_of h h0 h1
theorem on_home {a b c m : Int} (h : May a b c) (h0 : 0 ≤ m) (h1 : m < num a b c) (k : Ax) (i : Int) : m = onR a b c (onR a b c m k i) k (-i) := by
  rw [on_on h, Int.add_right_neg, on_zero h h0 h1]
theorem on_turn {a b c m : Int} (h : May a b c) (h0 : 0 ≤ m) (h1 : m < num a b c) (k : Ax) : m = onR a b c m k (of3 a b c k) := by
  obtain ⟨hx, hy, hz⟩ := ok_of (m := m) h
  rcases k with _ | _ | _ <;> dsimp only [onR, of3]
  · rw [stp_round hx]; exact (at_of h h0 h1).symm
  · rw [stp_round hy]; exact (at_of h h0 h1).symm
  · rw [stp_round hz]; exact (at_of h h0 h1).symm
theorem stp_comm (p n i j : Int) : stp (stp p n i) n j = stp (stp p n j) n i := by rw [stp_stp, stp_stp, Int.add_comm]
theorem on_swap {a b c m : Int} (h : May a b c) (k l : Ax) (i j : Int) : onR a b c (onR a b c m k i) l j = onR a b c (onR a b c m l j) k i := by
  obtain ⟨e1, e2, e3⟩ := on_cx (m := m) h k i
  obtain ⟨f1, f2, f3⟩ := on_cx (m := m) h l j
  rw [on_eq a b c (onR a b c m k i), e1, e2, e3, on_eq a b c (onR a b c m l j), f1, f2, f3]
  rcases k with _ | _ | _ <;> rcases l with _ | _ | _ <;> simp [stp_comm]
/-- At and Of, back. -/
theorem of_back (a b c x y z v : Int) (h : May a b c) (h3 : Ok3 a b c x y z) (hv : v = at_ a b x y z) (w : World) :
    Calls Try.prog 13 #[.agg #[.int .i64 a, .int .i64 b, .int .i64 c], .int .i64 v] w fun e w' => e = .returned (.tuple #[.agg #[.int .i64 x, .int .i64 y, .int .i64 z], .int .i64 0]) ∧ Below w.heap.size w w' := by
  obtain ⟨hx, hy, hz⟩ := h3
  have hr := at_range h hx hy hz
  subst hv
  have h := of_ok a b c (at_ a b x y z) h hr.1 hr.2 w
  rwa [cx_at ‹_› hx, cy_at ‹_› hx hy, cz_at ‹_› hx hy hz] at h
theorem at_to (a b c x y z v : Int) (h : May a b c) (h3 : Ok3 a b c x y z) (hv : v = at_ a b x y z) (w : World) :
    Calls Try.prog 11 #[.agg #[.int .i64 a, .int .i64 b, .int .i64 c], .agg #[.int .i64 x, .int .i64 y, .int .i64 z]] w fun e w' => e = .returned (.tuple #[.int .i64 v, .int .i64 0]) ∧ Below w.heap.size w w' := by
  subst hv; exact at_ok a b c x y z h h3 w
theorem at_no (a b c x y z : Int) (h : May a b c) (h3 : ¬ Ok3 a b c x y z) (w : World) :
    Calls Try.prog 11 #[.agg #[.int .i64 a, .int .i64 b, .int .i64 c], .agg #[.int .i64 x, .int .i64 y, .int .i64 z]] w fun e w' => e = .returned (.tuple #[.int .i64 0, .int .i64 2]) ∧ Below w.heap.size w w' := by
  have h := at_may a b c x y z h w
  have e : atR a b c x y z = (0, 2) := if_neg h3
  rw [e] at h; exact h
theorem many_to (a b c n : Int) (h : May a b c) (hn : n = num a b c) (w : World) :
    Calls Try.prog 9 #[.agg #[.int .i64 a, .int .i64 b, .int .i64 c]] w fun e w' => e = .returned (.tuple #[.int .i64 n, .int .i64 0]) ∧ Below w.heap.size w w' := by
  subst hn; exact many_ok a b c h w
set_option maxRecDepth 100000 in
set_option maxHeartbeats 4000000 in
theorem back_bad (w : World) (a b c x y z m : Int) (h : ¬ May a b c) :
    Calls Try.prog 4 #[.agg #[.int .i64 a, .int .i64 b, .int .i64 c], .agg #[.int .i64 x, .int .i64 y, .int .i64 z], .int .i64 m] w fun e w' => e = .returned (.bool true) ∧ Below w.heap.size w w' := by
  have HH := Lib.hid h
  clear h
  go_enter Try.func4, Try.ntmps4
  go_wp2_with fail
  refine (many_bad a b c HH.out _).mono ?_
  rintro e w1 ⟨rfl, hB1⟩
  have HB1 : Hid (Below w.heap.size w w1) := below_up (below_alloc (below_alloc (Below.refl _ _))) hB1
  have c1_0 : w1.cell? ⟨w.heap.size, 0, none⟩ = some (.int .i64 a) := keep_cell (cell_over _ (box0 w 23 #[.int .i64 a, .int .i64 b, .int .i64 c] 0)) hB1
  have c1_1 : w1.cell? ⟨w.heap.size, 1, none⟩ = some (.int .i64 b) := keep_cell (cell_over _ (box0 w 23 #[.int .i64 a, .int .i64 b, .int .i64 c] 1)) hB1
  have c1_2 : w1.cell? ⟨w.heap.size, 2, none⟩ = some (.int .i64 c) := keep_cell (cell_over _ (box0 w 23 #[.int .i64 a, .int .i64 b, .int .i64 c] 2)) hB1
  have c1_3 : w1.cell? ⟨w.heap.size + 1, 0, none⟩ = some (.int .i64 x) := keep_cell (box1 w 22 #[.int .i64 x, .int .i64 y, .int .i64 z] 0) hB1
  have c1_4 : w1.cell? ⟨w.heap.size + 1, 1, none⟩ = some (.int .i64 y) := keep_cell (box1 w 22 #[.int .i64 x, .int .i64 y, .int .i64 z] 1) hB1
  have c1_5 : w1.cell? ⟨w.heap.size + 1, 2, none⟩ = some (.int .i64 z) := keep_cell (box1 w 22 #[.int .i64 x, .int .i64 y, .int .i64 z] 2) hB1
  have z1_0 : w.heap.size < w1.heap.size := cell_lt c1_0
  have z1_1 : w.heap.size + 1 < w1.heap.size := cell_lt c1_3
  clear hB1  
  go_wp2_with fail
  refine (alive_any _).mono ?_
  rintro e w2 ⟨rfl, hB2⟩
  have HB2 : Hid (Below w.heap.size w w2) := below_up HB1.out hB2
  have c2_0 : w2.cell? ⟨w.heap.size, 0, none⟩ = some (.int .i64 a) := keep_cell c1_0 hB2
  have c2_1 : w2.cell? ⟨w.heap.size, 1, none⟩ = some (.int .i64 b) := keep_cell c1_1 hB2
  have c2_2 : w2.cell? ⟨w.heap.size, 2, none⟩ = some (.int .i64 c) := keep_cell c1_2 hB2
  have c2_3 : w2.cell? ⟨w.heap.size + 1, 0, none⟩ = some (.int .i64 x) := keep_cell c1_3 hB2
  have c2_4 : w2.cell? ⟨w.heap.size + 1, 1, none⟩ = some (.int .i64 y) := keep_cell c1_4 hB2
  have c2_5 : w2.cell? ⟨w.heap.size + 1, 2, none⟩ = some (.int .i64 z) := keep_cell c1_5 hB2
  have z2_0 : w.heap.size < w2.heap.size := cell_lt c2_0
  have z2_1 : w.heap.size + 1 < w2.heap.size := cell_lt c2_3
  clear hB2 c1_0 c1_1 c1_2 c1_3 c1_4 c1_5 z1_0 z1_1
  go_wp2_with fail
  refine (check_bad a b c HH.out _).mono ?_
  rintro e w3 ⟨rfl, hB3⟩
  have HB3 : Hid (Below w.heap.size w w3) := below_up HB2.out hB3
  have c3_0 : w3.cell? ⟨w.heap.size, 0, none⟩ = some (.int .i64 a) := keep_cell c2_0 hB3
  have c3_1 : w3.cell? ⟨w.heap.size, 1, none⟩ = some (.int .i64 b) := keep_cell c2_1 hB3
  have c3_2 : w3.cell? ⟨w.heap.size, 2, none⟩ = some (.int .i64 c) := keep_cell c2_2 hB3
  have c3_3 : w3.cell? ⟨w.heap.size + 1, 0, none⟩ = some (.int .i64 x) := keep_cell c2_3 hB3
  have c3_4 : w3.cell? ⟨w.heap.size + 1, 1, none⟩ = some (.int .i64 y) := keep_cell c2_4 hB3
  have c3_5 : w3.cell? ⟨w.heap.size + 1, 2, none⟩ = some (.int .i64 z) := keep_cell c2_5 hB3
  have z3_0 : w.heap.size < w3.heap.size := cell_lt c3_0
  have z3_1 : w.heap.size + 1 < w3.heap.size := cell_lt c3_3
  clear hB3 c2_0 c2_1 c2_2 c2_3 c2_4 c2_5 z2_0 z2_1
  go_wp2_with fail
  go_ret
  exact ⟨rfl, HB3.out⟩
set_option maxRecDepth 100000 in
set_option maxHeartbeats 4000000 in
theorem back_yy (w : World) (a b c x y z m : Int) (h : May a b c) (h3 : Ok3 a b c x y z) (hm : 0 ≤ m ∧ m < num a b c) :
    Calls Try.prog 4 #[.agg #[.int .i64 a, .int .i64 b, .int .i64 c], .agg #[.int .i64 x, .int .i64 y, .int .i64 z], .int .i64 m] w fun e w' => e = .returned (.bool true) ∧ Below w.heap.size w w' := by
  have HH := Lib.hid h
  have H3 := Lib.hid h3
  have HM := Lib.hid hm
  obtain ⟨n, hn⟩ : ∃ n, n = num a b c := ⟨_, rfl⟩
  rw [← hn] at hm
  have HN := Lib.hid hn
  obtain ⟨hx, hy, hz⟩ := h3
  obtain ⟨v, hv⟩ : ∃ v, v = at_ a b x y z := ⟨_, rfl⟩
  have hr := at_range h hx hy hz
  rw [← hv, ← hn] at hr
  obtain ⟨v0, v1⟩ := hr
  have HV := Lib.hid hv
  clear hv hx hy hz
  obtain ⟨m0, m1⟩ := hm
  have hq := ok_of (m := m) h
  have ha := at_of h HM.out.1 HM.out.2
  have HQ := Lib.hid hq
  have HA := Lib.hid ha.symm
  clear hq ha
  clear hn h
  have q3 := fun (a b c a' b' c' : Int) (w : World) => eq3_int (P := Try.prog) Try.underlying22 Try.underlying3 (fun w => by kernel_rfl) a b c a' b' c' w
  go_enter Try.func4, Try.ntmps4
  go_wp2_with fail
  refine (many_to a b c n HH.out HN.out _).mono ?_
  rintro e w1 ⟨rfl, hB1⟩
  have HB1 : Hid (Below w.heap.size w w1) := below_up (below_alloc (below_alloc (Below.refl _ _))) hB1
  have c1_0 : w1.cell? ⟨w.heap.size, 0, none⟩ = some (.int .i64 a) := keep_cell (cell_over _ (box0 w 23 #[.int .i64 a, .int .i64 b, .int .i64 c] 0)) hB1
  have c1_1 : w1.cell? ⟨w.heap.size, 1, none⟩ = some (.int .i64 b) := keep_cell (cell_over _ (box0 w 23 #[.int .i64 a, .int .i64 b, .int .i64 c] 1)) hB1
  have c1_2 : w1.cell? ⟨w.heap.size, 2, none⟩ = some (.int .i64 c) := keep_cell (cell_over _ (box0 w 23 #[.int .i64 a, .int .i64 b, .int .i64 c] 2)) hB1
  have c1_3 : w1.cell? ⟨w.heap.size + 1, 0, none⟩ = some (.int .i64 x) := keep_cell (box1 w 22 #[.int .i64 x, .int .i64 y, .int .i64 z] 0) hB1
  have c1_4 : w1.cell? ⟨w.heap.size + 1, 1, none⟩ = some (.int .i64 y) := keep_cell (box1 w 22 #[.int .i64 x, .int .i64 y, .int .i64 z] 1) hB1
  have c1_5 : w1.cell? ⟨w.heap.size + 1, 2, none⟩ = some (.int .i64 z) := keep_cell (box1 w 22 #[.int .i64 x, .int .i64 y, .int .i64 z] 2) hB1
  have z1_0 : w.heap.size < w1.heap.size := cell_lt c1_0
  have z1_1 : w.heap.size + 1 < w1.heap.size := cell_lt c1_3
  clear hB1  
  go_wp2_with fail
  refine (at_to a b c x y z v HH.out H3.out HV.out _).mono ?_
  rintro e w2 ⟨rfl, hB2⟩
  have HB2 : Hid (Below w.heap.size w w2) := below_up HB1.out hB2
  have c2_0 : w2.cell? ⟨w.heap.size, 0, none⟩ = some (.int .i64 a) := keep_cell c1_0 hB2
  have c2_1 : w2.cell? ⟨w.heap.size, 1, none⟩ = some (.int .i64 b) := keep_cell c1_1 hB2
  have c2_2 : w2.cell? ⟨w.heap.size, 2, none⟩ = some (.int .i64 c) := keep_cell c1_2 hB2
  have c2_3 : w2.cell? ⟨w.heap.size + 1, 0, none⟩ = some (.int .i64 x) := keep_cell c1_3 hB2
  have c2_4 : w2.cell? ⟨w.heap.size + 1, 1, none⟩ = some (.int .i64 y) := keep_cell c1_4 hB2
  have c2_5 : w2.cell? ⟨w.heap.size + 1, 2, none⟩ = some (.int .i64 z) := keep_cell c1_5 hB2
  have z2_0 : w.heap.size < w2.heap.size := cell_lt c2_0
  have z2_1 : w.heap.size + 1 < w2.heap.size := cell_lt c2_3
  clear hB2 c1_0 c1_1 c1_2 c1_3 c1_4 c1_5 z1_0 z1_1
  go_wp2_with fail
  refine (of_back a b c x y z v HH.out H3.out HV.out _).mono ?_
  rintro e w3 ⟨rfl, hB3⟩
  have HB3 : Hid (Below w.heap.size w w3) := below_up HB2.out hB3
  have c3_0 : w3.cell? ⟨w.heap.size, 0, none⟩ = some (.int .i64 a) := keep_cell c2_0 hB3
  have c3_1 : w3.cell? ⟨w.heap.size, 1, none⟩ = some (.int .i64 b) := keep_cell c2_1 hB3
  have c3_2 : w3.cell? ⟨w.heap.size, 2, none⟩ = some (.int .i64 c) := keep_cell c2_2 hB3
  have c3_3 : w3.cell? ⟨w.heap.size + 1, 0, none⟩ = some (.int .i64 x) := keep_cell c2_3 hB3
  have c3_4 : w3.cell? ⟨w.heap.size + 1, 1, none⟩ = some (.int .i64 y) := keep_cell c2_4 hB3
  have c3_5 : w3.cell? ⟨w.heap.size + 1, 2, none⟩ = some (.int .i64 z) := keep_cell c2_5 hB3
  have z3_0 : w.heap.size < w3.heap.size := cell_lt c3_0
  have z3_1 : w.heap.size + 1 < w3.heap.size := cell_lt c3_3
  clear hB3 c2_0 c2_1 c2_2 c2_3 c2_4 c2_5 z2_0 z2_1
  go_wp2_with fail
  refine (of_ok a b c m HH.out HM.out.1 HM.out.2 _).mono ?_
  rintro e w4 ⟨rfl, hB4⟩
  have HB4 : Hid (Below w.heap.size w w4) := below_up (below_alloc HB3.out) hB4
  have c4_0 : w4.cell? ⟨w.heap.size, 0, none⟩ = some (.int .i64 a) := keep_cell (cell_over _ c3_0) hB4
  have c4_1 : w4.cell? ⟨w.heap.size, 1, none⟩ = some (.int .i64 b) := keep_cell (cell_over _ c3_1) hB4
  have c4_2 : w4.cell? ⟨w.heap.size, 2, none⟩ = some (.int .i64 c) := keep_cell (cell_over _ c3_2) hB4
  have c4_3 : w4.cell? ⟨w.heap.size + 1, 0, none⟩ = some (.int .i64 x) := keep_cell (cell_over _ c3_3) hB4
  have c4_4 : w4.cell? ⟨w.heap.size + 1, 1, none⟩ = some (.int .i64 y) := keep_cell (cell_over _ c3_4) hB4
  have c4_5 : w4.cell? ⟨w.heap.size + 1, 2, none⟩ = some (.int .i64 z) := keep_cell (cell_over _ c3_5) hB4
  have c4_6 : w4.cell? ⟨w3.heap.size, 0, none⟩ = some (.int .i64 x) := keep_cell (box0 w3 22 #[.int .i64 x, .int .i64 y, .int .i64 z] 0) hB4
  have c4_7 : w4.cell? ⟨w3.heap.size, 1, none⟩ = some (.int .i64 y) := keep_cell (box0 w3 22 #[.int .i64 x, .int .i64 y, .int .i64 z] 1) hB4
  have c4_8 : w4.cell? ⟨w3.heap.size, 2, none⟩ = some (.int .i64 z) := keep_cell (box0 w3 22 #[.int .i64 x, .int .i64 y, .int .i64 z] 2) hB4
  have z4_0 : w.heap.size < w4.heap.size := cell_lt c4_0
  have z4_1 : w.heap.size + 1 < w4.heap.size := cell_lt c4_3
  have z4_2 : w3.heap.size < w4.heap.size := cell_lt c4_6
  clear hB4 c3_0 c3_1 c3_2 c3_3 c3_4 c3_5 z3_0 z3_1
  go_wp2_with fail
  refine (at_to a b c _ _ _ m HH.out HQ.out HA.out _).mono ?_
  rintro e w5 ⟨rfl, hB5⟩
  have HB5 : Hid (Below w.heap.size w w5) := below_up (below_alloc HB4.out) hB5
  have c5_0 : w5.cell? ⟨w.heap.size, 0, none⟩ = some (.int .i64 a) := keep_cell (cell_over _ c4_0) hB5
  have c5_1 : w5.cell? ⟨w.heap.size, 1, none⟩ = some (.int .i64 b) := keep_cell (cell_over _ c4_1) hB5
  have c5_2 : w5.cell? ⟨w.heap.size, 2, none⟩ = some (.int .i64 c) := keep_cell (cell_over _ c4_2) hB5
  have c5_3 : w5.cell? ⟨w.heap.size + 1, 0, none⟩ = some (.int .i64 x) := keep_cell (cell_over _ c4_3) hB5
  have c5_4 : w5.cell? ⟨w.heap.size + 1, 1, none⟩ = some (.int .i64 y) := keep_cell (cell_over _ c4_4) hB5
  have c5_5 : w5.cell? ⟨w.heap.size + 1, 2, none⟩ = some (.int .i64 z) := keep_cell (cell_over _ c4_5) hB5
  have c5_6 : w5.cell? ⟨w3.heap.size, 0, none⟩ = some (.int .i64 x) := keep_cell (cell_over _ c4_6) hB5
  have c5_7 : w5.cell? ⟨w3.heap.size, 1, none⟩ = some (.int .i64 y) := keep_cell (cell_over _ c4_7) hB5
  have c5_8 : w5.cell? ⟨w3.heap.size, 2, none⟩ = some (.int .i64 z) := keep_cell (cell_over _ c4_8) hB5
  have c5_9 : w5.cell? ⟨w4.heap.size, 0, none⟩ = some (.int .i64 (cx a m)) := keep_cell (box0 w4 22 #[.int .i64 (cx a m), .int .i64 (cy a b m), .int .i64 (cz a b c m)] 0) hB5
  have c5_10 : w5.cell? ⟨w4.heap.size, 1, none⟩ = some (.int .i64 (cy a b m)) := keep_cell (box0 w4 22 #[.int .i64 (cx a m), .int .i64 (cy a b m), .int .i64 (cz a b c m)] 1) hB5
  have c5_11 : w5.cell? ⟨w4.heap.size, 2, none⟩ = some (.int .i64 (cz a b c m)) := keep_cell (box0 w4 22 #[.int .i64 (cx a m), .int .i64 (cy a b m), .int .i64 (cz a b c m)] 2) hB5
  have z5_0 : w.heap.size < w5.heap.size := cell_lt c5_0
  have z5_1 : w.heap.size + 1 < w5.heap.size := cell_lt c5_3
  have z5_2 : w3.heap.size < w5.heap.size := cell_lt c5_6
  have z5_3 : w4.heap.size < w5.heap.size := cell_lt c5_9
  clear hB5 c4_0 c4_1 c4_2 c4_3 c4_4 c4_5 c4_6 c4_7 c4_8 z4_0 z4_1 z4_2
  go_wp2_with fail
  refine (alive_any _).mono ?_
  rintro e w6 ⟨rfl, hB6⟩
  have HB6 : Hid (Below w.heap.size w w6) := below_up HB5.out hB6
  have c6_0 : w6.cell? ⟨w.heap.size, 0, none⟩ = some (.int .i64 a) := keep_cell c5_0 hB6
  have c6_1 : w6.cell? ⟨w.heap.size, 1, none⟩ = some (.int .i64 b) := keep_cell c5_1 hB6
  have c6_2 : w6.cell? ⟨w.heap.size, 2, none⟩ = some (.int .i64 c) := keep_cell c5_2 hB6
  have c6_3 : w6.cell? ⟨w.heap.size + 1, 0, none⟩ = some (.int .i64 x) := keep_cell c5_3 hB6
  have c6_4 : w6.cell? ⟨w.heap.size + 1, 1, none⟩ = some (.int .i64 y) := keep_cell c5_4 hB6
  have c6_5 : w6.cell? ⟨w.heap.size + 1, 2, none⟩ = some (.int .i64 z) := keep_cell c5_5 hB6
  have c6_6 : w6.cell? ⟨w3.heap.size, 0, none⟩ = some (.int .i64 x) := keep_cell c5_6 hB6
  have c6_7 : w6.cell? ⟨w3.heap.size, 1, none⟩ = some (.int .i64 y) := keep_cell c5_7 hB6
  have c6_8 : w6.cell? ⟨w3.heap.size, 2, none⟩ = some (.int .i64 z) := keep_cell c5_8 hB6
  have c6_9 : w6.cell? ⟨w4.heap.size, 0, none⟩ = some (.int .i64 (cx a m)) := keep_cell c5_9 hB6
  have c6_10 : w6.cell? ⟨w4.heap.size, 1, none⟩ = some (.int .i64 (cy a b m)) := keep_cell c5_10 hB6
  have c6_11 : w6.cell? ⟨w4.heap.size, 2, none⟩ = some (.int .i64 (cz a b c m)) := keep_cell c5_11 hB6
  have z6_0 : w.heap.size < w6.heap.size := cell_lt c6_0
  have z6_1 : w.heap.size + 1 < w6.heap.size := cell_lt c6_3
  have z6_2 : w3.heap.size < w6.heap.size := cell_lt c6_6
  have z6_3 : w4.heap.size < w6.heap.size := cell_lt c6_9
  clear hB6 c5_0 c5_1 c5_2 c5_3 c5_4 c5_5 c5_6 c5_7 c5_8 c5_9 c5_10 c5_11 z5_0 z5_1 z5_2 z5_3
  go_wp2_with fail
  go_ret
  exact ⟨rfl, HB6.out⟩
set_option maxRecDepth 100000 in
set_option maxHeartbeats 4000000 in
theorem back_yn (w : World) (a b c x y z m : Int) (h : May a b c) (h3 : Ok3 a b c x y z) (hm : ¬ (0 ≤ m ∧ m < num a b c)) :
    Calls Try.prog 4 #[.agg #[.int .i64 a, .int .i64 b, .int .i64 c], .agg #[.int .i64 x, .int .i64 y, .int .i64 z], .int .i64 m] w fun e w' => e = .returned (.bool true) ∧ Below w.heap.size w w' := by
  have HH := Lib.hid h
  have H3 := Lib.hid h3
  have HM := Lib.hid hm
  obtain ⟨n, hn⟩ : ∃ n, n = num a b c := ⟨_, rfl⟩
  rw [← hn] at hm
  have HN := Lib.hid hn
  obtain ⟨hx, hy, hz⟩ := h3
  obtain ⟨v, hv⟩ : ∃ v, v = at_ a b x y z := ⟨_, rfl⟩
  have hr := at_range h hx hy hz
  rw [← hv, ← hn] at hr
  obtain ⟨v0, v1⟩ := hr
  have HV := Lib.hid hv
  clear hv hx hy hz
  have hz3 : Ok3 a b c 0 0 0 := ⟨⟨by omega, by have := h.1; omega⟩, ⟨by omega, by have := h.2.1; omega⟩, ⟨by omega, by have := h.2.2; omega⟩⟩
  have HZ := Lib.hid hz3
  clear hz3
  rcases (show m < 0 ∨ (0 ≤ m ∧ n ≤ m) by omega) with m0 | ⟨m0, m1⟩
  all_goals
    clear hn h hm
    have q3 := fun (a b c a' b' c' : Int) (w : World) => eq3_int (P := Try.prog) Try.underlying22 Try.underlying3 (fun w => by kernel_rfl) a b c a' b' c' w
    go_enter Try.func4, Try.ntmps4
    go_wp2_with fail
    refine (many_to a b c n HH.out HN.out _).mono ?_
    rintro e w1 ⟨rfl, hB1⟩
    have HB1 : Hid (Below w.heap.size w w1) := below_up (below_alloc (below_alloc (Below.refl _ _))) hB1
    have c1_0 : w1.cell? ⟨w.heap.size, 0, none⟩ = some (.int .i64 a) := keep_cell (cell_over _ (box0 w 23 #[.int .i64 a, .int .i64 b, .int .i64 c] 0)) hB1
    have c1_1 : w1.cell? ⟨w.heap.size, 1, none⟩ = some (.int .i64 b) := keep_cell (cell_over _ (box0 w 23 #[.int .i64 a, .int .i64 b, .int .i64 c] 1)) hB1
    have c1_2 : w1.cell? ⟨w.heap.size, 2, none⟩ = some (.int .i64 c) := keep_cell (cell_over _ (box0 w 23 #[.int .i64 a, .int .i64 b, .int .i64 c] 2)) hB1
    have c1_3 : w1.cell? ⟨w.heap.size + 1, 0, none⟩ = some (.int .i64 x) := keep_cell (box1 w 22 #[.int .i64 x, .int .i64 y, .int .i64 z] 0) hB1
    have c1_4 : w1.cell? ⟨w.heap.size + 1, 1, none⟩ = some (.int .i64 y) := keep_cell (box1 w 22 #[.int .i64 x, .int .i64 y, .int .i64 z] 1) hB1
    have c1_5 : w1.cell? ⟨w.heap.size + 1, 2, none⟩ = some (.int .i64 z) := keep_cell (box1 w 22 #[.int .i64 x, .int .i64 y, .int .i64 z] 2) hB1
    have z1_0 : w.heap.size < w1.heap.size := cell_lt c1_0
    have z1_1 : w.heap.size + 1 < w1.heap.size := cell_lt c1_3
    clear hB1  
    go_wp2_with fail
    refine (at_to a b c x y z v HH.out H3.out HV.out _).mono ?_
    rintro e w2 ⟨rfl, hB2⟩
    have HB2 : Hid (Below w.heap.size w w2) := below_up HB1.out hB2
    have c2_0 : w2.cell? ⟨w.heap.size, 0, none⟩ = some (.int .i64 a) := keep_cell c1_0 hB2
    have c2_1 : w2.cell? ⟨w.heap.size, 1, none⟩ = some (.int .i64 b) := keep_cell c1_1 hB2
    have c2_2 : w2.cell? ⟨w.heap.size, 2, none⟩ = some (.int .i64 c) := keep_cell c1_2 hB2
    have c2_3 : w2.cell? ⟨w.heap.size + 1, 0, none⟩ = some (.int .i64 x) := keep_cell c1_3 hB2
    have c2_4 : w2.cell? ⟨w.heap.size + 1, 1, none⟩ = some (.int .i64 y) := keep_cell c1_4 hB2
    have c2_5 : w2.cell? ⟨w.heap.size + 1, 2, none⟩ = some (.int .i64 z) := keep_cell c1_5 hB2
    have z2_0 : w.heap.size < w2.heap.size := cell_lt c2_0
    have z2_1 : w.heap.size + 1 < w2.heap.size := cell_lt c2_3
    clear hB2 c1_0 c1_1 c1_2 c1_3 c1_4 c1_5 z1_0 z1_1
    go_wp2_with fail
    refine (of_back a b c x y z v HH.out H3.out HV.out _).mono ?_
    rintro e w3 ⟨rfl, hB3⟩
    have HB3 : Hid (Below w.heap.size w w3) := below_up HB2.out hB3
    have c3_0 : w3.cell? ⟨w.heap.size, 0, none⟩ = some (.int .i64 a) := keep_cell c2_0 hB3
    have c3_1 : w3.cell? ⟨w.heap.size, 1, none⟩ = some (.int .i64 b) := keep_cell c2_1 hB3
    have c3_2 : w3.cell? ⟨w.heap.size, 2, none⟩ = some (.int .i64 c) := keep_cell c2_2 hB3
    have c3_3 : w3.cell? ⟨w.heap.size + 1, 0, none⟩ = some (.int .i64 x) := keep_cell c2_3 hB3
    have c3_4 : w3.cell? ⟨w.heap.size + 1, 1, none⟩ = some (.int .i64 y) := keep_cell c2_4 hB3
    have c3_5 : w3.cell? ⟨w.heap.size + 1, 2, none⟩ = some (.int .i64 z) := keep_cell c2_5 hB3
    have z3_0 : w.heap.size < w3.heap.size := cell_lt c3_0
    have z3_1 : w.heap.size + 1 < w3.heap.size := cell_lt c3_3
    clear hB3 c2_0 c2_1 c2_2 c2_3 c2_4 c2_5 z2_0 z2_1
    go_wp2_with fail
    refine (of_arg a b c m HH.out HM.out _).mono ?_
    rintro e w4 ⟨rfl, hB4⟩
    have HB4 : Hid (Below w.heap.size w w4) := below_up (below_alloc HB3.out) hB4
    have c4_0 : w4.cell? ⟨w.heap.size, 0, none⟩ = some (.int .i64 a) := keep_cell (cell_over _ c3_0) hB4
    have c4_1 : w4.cell? ⟨w.heap.size, 1, none⟩ = some (.int .i64 b) := keep_cell (cell_over _ c3_1) hB4
    have c4_2 : w4.cell? ⟨w.heap.size, 2, none⟩ = some (.int .i64 c) := keep_cell (cell_over _ c3_2) hB4
    have c4_3 : w4.cell? ⟨w.heap.size + 1, 0, none⟩ = some (.int .i64 x) := keep_cell (cell_over _ c3_3) hB4
    have c4_4 : w4.cell? ⟨w.heap.size + 1, 1, none⟩ = some (.int .i64 y) := keep_cell (cell_over _ c3_4) hB4
    have c4_5 : w4.cell? ⟨w.heap.size + 1, 2, none⟩ = some (.int .i64 z) := keep_cell (cell_over _ c3_5) hB4
    have c4_6 : w4.cell? ⟨w3.heap.size, 0, none⟩ = some (.int .i64 x) := keep_cell (box0 w3 22 #[.int .i64 x, .int .i64 y, .int .i64 z] 0) hB4
    have c4_7 : w4.cell? ⟨w3.heap.size, 1, none⟩ = some (.int .i64 y) := keep_cell (box0 w3 22 #[.int .i64 x, .int .i64 y, .int .i64 z] 1) hB4
    have c4_8 : w4.cell? ⟨w3.heap.size, 2, none⟩ = some (.int .i64 z) := keep_cell (box0 w3 22 #[.int .i64 x, .int .i64 y, .int .i64 z] 2) hB4
    have z4_0 : w.heap.size < w4.heap.size := cell_lt c4_0
    have z4_1 : w.heap.size + 1 < w4.heap.size := cell_lt c4_3
    have z4_2 : w3.heap.size < w4.heap.size := cell_lt c4_6
    clear hB4 c3_0 c3_1 c3_2 c3_3 c3_4 c3_5 z3_0 z3_1
    go_wp2_with fail
    refine (at_to a b c 0 0 0 _ HH.out HZ.out rfl _).mono ?_
    rintro e w5 ⟨rfl, hB5⟩
    have HB5 : Hid (Below w.heap.size w w5) := below_up (below_alloc HB4.out) hB5
    have c5_0 : w5.cell? ⟨w.heap.size, 0, none⟩ = some (.int .i64 a) := keep_cell (cell_over _ c4_0) hB5
    have c5_1 : w5.cell? ⟨w.heap.size, 1, none⟩ = some (.int .i64 b) := keep_cell (cell_over _ c4_1) hB5
    have c5_2 : w5.cell? ⟨w.heap.size, 2, none⟩ = some (.int .i64 c) := keep_cell (cell_over _ c4_2) hB5
    have c5_3 : w5.cell? ⟨w.heap.size + 1, 0, none⟩ = some (.int .i64 x) := keep_cell (cell_over _ c4_3) hB5
    have c5_4 : w5.cell? ⟨w.heap.size + 1, 1, none⟩ = some (.int .i64 y) := keep_cell (cell_over _ c4_4) hB5
    have c5_5 : w5.cell? ⟨w.heap.size + 1, 2, none⟩ = some (.int .i64 z) := keep_cell (cell_over _ c4_5) hB5
    have c5_6 : w5.cell? ⟨w3.heap.size, 0, none⟩ = some (.int .i64 x) := keep_cell (cell_over _ c4_6) hB5
    have c5_7 : w5.cell? ⟨w3.heap.size, 1, none⟩ = some (.int .i64 y) := keep_cell (cell_over _ c4_7) hB5
    have c5_8 : w5.cell? ⟨w3.heap.size, 2, none⟩ = some (.int .i64 z) := keep_cell (cell_over _ c4_8) hB5
    have c5_9 : w5.cell? ⟨w4.heap.size, 0, none⟩ = some (.int .i64 0) := keep_cell (box0 w4 22 #[.int .i64 0, .int .i64 0, .int .i64 0] 0) hB5
    have c5_10 : w5.cell? ⟨w4.heap.size, 1, none⟩ = some (.int .i64 0) := keep_cell (box0 w4 22 #[.int .i64 0, .int .i64 0, .int .i64 0] 1) hB5
    have c5_11 : w5.cell? ⟨w4.heap.size, 2, none⟩ = some (.int .i64 0) := keep_cell (box0 w4 22 #[.int .i64 0, .int .i64 0, .int .i64 0] 2) hB5
    have z5_0 : w.heap.size < w5.heap.size := cell_lt c5_0
    have z5_1 : w.heap.size + 1 < w5.heap.size := cell_lt c5_3
    have z5_2 : w3.heap.size < w5.heap.size := cell_lt c5_6
    have z5_3 : w4.heap.size < w5.heap.size := cell_lt c5_9
    clear hB5 c4_0 c4_1 c4_2 c4_3 c4_4 c4_5 c4_6 c4_7 c4_8 z4_0 z4_1 z4_2
    go_wp2_with fail
    refine (alive_any _).mono ?_
    rintro e w6 ⟨rfl, hB6⟩
    have HB6 : Hid (Below w.heap.size w w6) := below_up HB5.out hB6
    have c6_0 : w6.cell? ⟨w.heap.size, 0, none⟩ = some (.int .i64 a) := keep_cell c5_0 hB6
    have c6_1 : w6.cell? ⟨w.heap.size, 1, none⟩ = some (.int .i64 b) := keep_cell c5_1 hB6
    have c6_2 : w6.cell? ⟨w.heap.size, 2, none⟩ = some (.int .i64 c) := keep_cell c5_2 hB6
    have c6_3 : w6.cell? ⟨w.heap.size + 1, 0, none⟩ = some (.int .i64 x) := keep_cell c5_3 hB6
    have c6_4 : w6.cell? ⟨w.heap.size + 1, 1, none⟩ = some (.int .i64 y) := keep_cell c5_4 hB6
    have c6_5 : w6.cell? ⟨w.heap.size + 1, 2, none⟩ = some (.int .i64 z) := keep_cell c5_5 hB6
    have c6_6 : w6.cell? ⟨w3.heap.size, 0, none⟩ = some (.int .i64 x) := keep_cell c5_6 hB6
    have c6_7 : w6.cell? ⟨w3.heap.size, 1, none⟩ = some (.int .i64 y) := keep_cell c5_7 hB6
    have c6_8 : w6.cell? ⟨w3.heap.size, 2, none⟩ = some (.int .i64 z) := keep_cell c5_8 hB6
    have c6_9 : w6.cell? ⟨w4.heap.size, 0, none⟩ = some (.int .i64 0) := keep_cell c5_9 hB6
    have c6_10 : w6.cell? ⟨w4.heap.size, 1, none⟩ = some (.int .i64 0) := keep_cell c5_10 hB6
    have c6_11 : w6.cell? ⟨w4.heap.size, 2, none⟩ = some (.int .i64 0) := keep_cell c5_11 hB6
    have z6_0 : w.heap.size < w6.heap.size := cell_lt c6_0
    have z6_1 : w.heap.size + 1 < w6.heap.size := cell_lt c6_3
    have z6_2 : w3.heap.size < w6.heap.size := cell_lt c6_6
    have z6_3 : w4.heap.size < w6.heap.size := cell_lt c6_9
    clear hB6 c5_0 c5_1 c5_2 c5_3 c5_4 c5_5 c5_6 c5_7 c5_8 c5_9 c5_10 c5_11 z5_0 z5_1 z5_2 z5_3
    go_wp2_with fail
    go_ret
    exact ⟨rfl, HB6.out⟩
set_option maxRecDepth 100000 in
set_option maxHeartbeats 4000000 in
theorem back_ny (w : World) (a b c x y z m : Int) (h : May a b c) (h3 : ¬ Ok3 a b c x y z) (hm : 0 ≤ m ∧ m < num a b c) :
    Calls Try.prog 4 #[.agg #[.int .i64 a, .int .i64 b, .int .i64 c], .agg #[.int .i64 x, .int .i64 y, .int .i64 z], .int .i64 m] w fun e w' => e = .returned (.bool true) ∧ Below w.heap.size w w' := by
  have HH := Lib.hid h
  have H3 := Lib.hid h3
  have HM := Lib.hid hm
  obtain ⟨n, hn⟩ : ∃ n, n = num a b c := ⟨_, rfl⟩
  rw [← hn] at hm
  have HN := Lib.hid hn
  obtain ⟨m0, m1⟩ := hm
  have hq := ok_of (m := m) h
  have ha := at_of h HM.out.1 HM.out.2
  have HQ := Lib.hid hq
  have HA := Lib.hid ha.symm
  clear hq ha
  clear hn h h3
  have q3 := fun (a b c a' b' c' : Int) (w : World) => eq3_int (P := Try.prog) Try.underlying22 Try.underlying3 (fun w => by kernel_rfl) a b c a' b' c' w
  go_enter Try.func4, Try.ntmps4
  go_wp2_with fail
  refine (many_to a b c n HH.out HN.out _).mono ?_
  rintro e w1 ⟨rfl, hB1⟩
  have HB1 : Hid (Below w.heap.size w w1) := below_up (below_alloc (below_alloc (Below.refl _ _))) hB1
  have c1_0 : w1.cell? ⟨w.heap.size, 0, none⟩ = some (.int .i64 a) := keep_cell (cell_over _ (box0 w 23 #[.int .i64 a, .int .i64 b, .int .i64 c] 0)) hB1
  have c1_1 : w1.cell? ⟨w.heap.size, 1, none⟩ = some (.int .i64 b) := keep_cell (cell_over _ (box0 w 23 #[.int .i64 a, .int .i64 b, .int .i64 c] 1)) hB1
  have c1_2 : w1.cell? ⟨w.heap.size, 2, none⟩ = some (.int .i64 c) := keep_cell (cell_over _ (box0 w 23 #[.int .i64 a, .int .i64 b, .int .i64 c] 2)) hB1
  have c1_3 : w1.cell? ⟨w.heap.size + 1, 0, none⟩ = some (.int .i64 x) := keep_cell (box1 w 22 #[.int .i64 x, .int .i64 y, .int .i64 z] 0) hB1
  have c1_4 : w1.cell? ⟨w.heap.size + 1, 1, none⟩ = some (.int .i64 y) := keep_cell (box1 w 22 #[.int .i64 x, .int .i64 y, .int .i64 z] 1) hB1
  have c1_5 : w1.cell? ⟨w.heap.size + 1, 2, none⟩ = some (.int .i64 z) := keep_cell (box1 w 22 #[.int .i64 x, .int .i64 y, .int .i64 z] 2) hB1
  have z1_0 : w.heap.size < w1.heap.size := cell_lt c1_0
  have z1_1 : w.heap.size + 1 < w1.heap.size := cell_lt c1_3
  clear hB1  
  go_wp2_with fail
  refine (at_no a b c x y z HH.out H3.out _).mono ?_
  rintro e w2 ⟨rfl, hB2⟩
  have HB2 : Hid (Below w.heap.size w w2) := below_up HB1.out hB2
  have c2_0 : w2.cell? ⟨w.heap.size, 0, none⟩ = some (.int .i64 a) := keep_cell c1_0 hB2
  have c2_1 : w2.cell? ⟨w.heap.size, 1, none⟩ = some (.int .i64 b) := keep_cell c1_1 hB2
  have c2_2 : w2.cell? ⟨w.heap.size, 2, none⟩ = some (.int .i64 c) := keep_cell c1_2 hB2
  have c2_3 : w2.cell? ⟨w.heap.size + 1, 0, none⟩ = some (.int .i64 x) := keep_cell c1_3 hB2
  have c2_4 : w2.cell? ⟨w.heap.size + 1, 1, none⟩ = some (.int .i64 y) := keep_cell c1_4 hB2
  have c2_5 : w2.cell? ⟨w.heap.size + 1, 2, none⟩ = some (.int .i64 z) := keep_cell c1_5 hB2
  have z2_0 : w.heap.size < w2.heap.size := cell_lt c2_0
  have z2_1 : w.heap.size + 1 < w2.heap.size := cell_lt c2_3
  clear hB2 c1_0 c1_1 c1_2 c1_3 c1_4 c1_5 z1_0 z1_1
  go_wp2_with fail
  refine (of_ok a b c m HH.out HM.out.1 HM.out.2 _).mono ?_
  rintro e w3 ⟨rfl, hB3⟩
  have HB3 : Hid (Below w.heap.size w w3) := below_up HB2.out hB3
  have c3_0 : w3.cell? ⟨w.heap.size, 0, none⟩ = some (.int .i64 a) := keep_cell c2_0 hB3
  have c3_1 : w3.cell? ⟨w.heap.size, 1, none⟩ = some (.int .i64 b) := keep_cell c2_1 hB3
  have c3_2 : w3.cell? ⟨w.heap.size, 2, none⟩ = some (.int .i64 c) := keep_cell c2_2 hB3
  have c3_3 : w3.cell? ⟨w.heap.size + 1, 0, none⟩ = some (.int .i64 x) := keep_cell c2_3 hB3
  have c3_4 : w3.cell? ⟨w.heap.size + 1, 1, none⟩ = some (.int .i64 y) := keep_cell c2_4 hB3
  have c3_5 : w3.cell? ⟨w.heap.size + 1, 2, none⟩ = some (.int .i64 z) := keep_cell c2_5 hB3
  have z3_0 : w.heap.size < w3.heap.size := cell_lt c3_0
  have z3_1 : w.heap.size + 1 < w3.heap.size := cell_lt c3_3
  clear hB3 c2_0 c2_1 c2_2 c2_3 c2_4 c2_5 z2_0 z2_1
  go_wp2_with fail
  refine (at_to a b c _ _ _ m HH.out HQ.out HA.out _).mono ?_
  rintro e w4 ⟨rfl, hB4⟩
  have HB4 : Hid (Below w.heap.size w w4) := below_up (below_alloc HB3.out) hB4
  have c4_0 : w4.cell? ⟨w.heap.size, 0, none⟩ = some (.int .i64 a) := keep_cell (cell_over _ c3_0) hB4
  have c4_1 : w4.cell? ⟨w.heap.size, 1, none⟩ = some (.int .i64 b) := keep_cell (cell_over _ c3_1) hB4
  have c4_2 : w4.cell? ⟨w.heap.size, 2, none⟩ = some (.int .i64 c) := keep_cell (cell_over _ c3_2) hB4
  have c4_3 : w4.cell? ⟨w.heap.size + 1, 0, none⟩ = some (.int .i64 x) := keep_cell (cell_over _ c3_3) hB4
  have c4_4 : w4.cell? ⟨w.heap.size + 1, 1, none⟩ = some (.int .i64 y) := keep_cell (cell_over _ c3_4) hB4
  have c4_5 : w4.cell? ⟨w.heap.size + 1, 2, none⟩ = some (.int .i64 z) := keep_cell (cell_over _ c3_5) hB4
  have c4_6 : w4.cell? ⟨w3.heap.size, 0, none⟩ = some (.int .i64 (cx a m)) := keep_cell (box0 w3 22 #[.int .i64 (cx a m), .int .i64 (cy a b m), .int .i64 (cz a b c m)] 0) hB4
  have c4_7 : w4.cell? ⟨w3.heap.size, 1, none⟩ = some (.int .i64 (cy a b m)) := keep_cell (box0 w3 22 #[.int .i64 (cx a m), .int .i64 (cy a b m), .int .i64 (cz a b c m)] 1) hB4
  have c4_8 : w4.cell? ⟨w3.heap.size, 2, none⟩ = some (.int .i64 (cz a b c m)) := keep_cell (box0 w3 22 #[.int .i64 (cx a m), .int .i64 (cy a b m), .int .i64 (cz a b c m)] 2) hB4
  have z4_0 : w.heap.size < w4.heap.size := cell_lt c4_0
  have z4_1 : w.heap.size + 1 < w4.heap.size := cell_lt c4_3
  have z4_2 : w3.heap.size < w4.heap.size := cell_lt c4_6
  clear hB4 c3_0 c3_1 c3_2 c3_3 c3_4 c3_5 z3_0 z3_1
  go_wp2_with fail
  refine (alive_any _).mono ?_
  rintro e w5 ⟨rfl, hB5⟩
  have HB5 : Hid (Below w.heap.size w w5) := below_up HB4.out hB5
  have c5_0 : w5.cell? ⟨w.heap.size, 0, none⟩ = some (.int .i64 a) := keep_cell c4_0 hB5
  have c5_1 : w5.cell? ⟨w.heap.size, 1, none⟩ = some (.int .i64 b) := keep_cell c4_1 hB5
  have c5_2 : w5.cell? ⟨w.heap.size, 2, none⟩ = some (.int .i64 c) := keep_cell c4_2 hB5
  have c5_3 : w5.cell? ⟨w.heap.size + 1, 0, none⟩ = some (.int .i64 x) := keep_cell c4_3 hB5
  have c5_4 : w5.cell? ⟨w.heap.size + 1, 1, none⟩ = some (.int .i64 y) := keep_cell c4_4 hB5
  have c5_5 : w5.cell? ⟨w.heap.size + 1, 2, none⟩ = some (.int .i64 z) := keep_cell c4_5 hB5
  have c5_6 : w5.cell? ⟨w3.heap.size, 0, none⟩ = some (.int .i64 (cx a m)) := keep_cell c4_6 hB5
  have c5_7 : w5.cell? ⟨w3.heap.size, 1, none⟩ = some (.int .i64 (cy a b m)) := keep_cell c4_7 hB5
  have c5_8 : w5.cell? ⟨w3.heap.size, 2, none⟩ = some (.int .i64 (cz a b c m)) := keep_cell c4_8 hB5
  have z5_0 : w.heap.size < w5.heap.size := cell_lt c5_0
  have z5_1 : w.heap.size + 1 < w5.heap.size := cell_lt c5_3
  have z5_2 : w3.heap.size < w5.heap.size := cell_lt c5_6
  clear hB5 c4_0 c4_1 c4_2 c4_3 c4_4 c4_5 c4_6 c4_7 c4_8 z4_0 z4_1 z4_2
  go_wp2_with fail
  go_ret
  exact ⟨rfl, HB5.out⟩
set_option maxRecDepth 100000 in
set_option maxHeartbeats 4000000 in
theorem back_nn (w : World) (a b c x y z m : Int) (h : May a b c) (h3 : ¬ Ok3 a b c x y z) (hm : ¬ (0 ≤ m ∧ m < num a b c)) :
    Calls Try.prog 4 #[.agg #[.int .i64 a, .int .i64 b, .int .i64 c], .agg #[.int .i64 x, .int .i64 y, .int .i64 z], .int .i64 m] w fun e w' => e = .returned (.bool true) ∧ Below w.heap.size w w' := by
  have HH := Lib.hid h
  have H3 := Lib.hid h3
  have HM := Lib.hid hm
  obtain ⟨n, hn⟩ : ∃ n, n = num a b c := ⟨_, rfl⟩
  rw [← hn] at hm
  have HN := Lib.hid hn
  have hz3 : Ok3 a b c 0 0 0 := ⟨⟨by omega, by have := h.1; omega⟩, ⟨by omega, by have := h.2.1; omega⟩, ⟨by omega, by have := h.2.2; omega⟩⟩
  have HZ := Lib.hid hz3
  clear hz3
  rcases (show m < 0 ∨ (0 ≤ m ∧ n ≤ m) by omega) with m0 | ⟨m0, m1⟩
  all_goals
    clear hn h h3 hm
    have q3 := fun (a b c a' b' c' : Int) (w : World) => eq3_int (P := Try.prog) Try.underlying22 Try.underlying3 (fun w => by kernel_rfl) a b c a' b' c' w
    go_enter Try.func4, Try.ntmps4
    go_wp2_with fail
    refine (many_to a b c n HH.out HN.out _).mono ?_
    rintro e w1 ⟨rfl, hB1⟩
    have HB1 : Hid (Below w.heap.size w w1) := below_up (below_alloc (below_alloc (Below.refl _ _))) hB1
    have c1_0 : w1.cell? ⟨w.heap.size, 0, none⟩ = some (.int .i64 a) := keep_cell (cell_over _ (box0 w 23 #[.int .i64 a, .int .i64 b, .int .i64 c] 0)) hB1
    have c1_1 : w1.cell? ⟨w.heap.size, 1, none⟩ = some (.int .i64 b) := keep_cell (cell_over _ (box0 w 23 #[.int .i64 a, .int .i64 b, .int .i64 c] 1)) hB1
    have c1_2 : w1.cell? ⟨w.heap.size, 2, none⟩ = some (.int .i64 c) := keep_cell (cell_over _ (box0 w 23 #[.int .i64 a, .int .i64 b, .int .i64 c] 2)) hB1
    have c1_3 : w1.cell? ⟨w.heap.size + 1, 0, none⟩ = some (.int .i64 x) := keep_cell (box1 w 22 #[.int .i64 x, .int .i64 y, .int .i64 z] 0) hB1
    have c1_4 : w1.cell? ⟨w.heap.size + 1, 1, none⟩ = some (.int .i64 y) := keep_cell (box1 w 22 #[.int .i64 x, .int .i64 y, .int .i64 z] 1) hB1
    have c1_5 : w1.cell? ⟨w.heap.size + 1, 2, none⟩ = some (.int .i64 z) := keep_cell (box1 w 22 #[.int .i64 x, .int .i64 y, .int .i64 z] 2) hB1
    have z1_0 : w.heap.size < w1.heap.size := cell_lt c1_0
    have z1_1 : w.heap.size + 1 < w1.heap.size := cell_lt c1_3
    clear hB1  
    go_wp2_with fail
    refine (at_no a b c x y z HH.out H3.out _).mono ?_
    rintro e w2 ⟨rfl, hB2⟩
    have HB2 : Hid (Below w.heap.size w w2) := below_up HB1.out hB2
    have c2_0 : w2.cell? ⟨w.heap.size, 0, none⟩ = some (.int .i64 a) := keep_cell c1_0 hB2
    have c2_1 : w2.cell? ⟨w.heap.size, 1, none⟩ = some (.int .i64 b) := keep_cell c1_1 hB2
    have c2_2 : w2.cell? ⟨w.heap.size, 2, none⟩ = some (.int .i64 c) := keep_cell c1_2 hB2
    have c2_3 : w2.cell? ⟨w.heap.size + 1, 0, none⟩ = some (.int .i64 x) := keep_cell c1_3 hB2
    have c2_4 : w2.cell? ⟨w.heap.size + 1, 1, none⟩ = some (.int .i64 y) := keep_cell c1_4 hB2
    have c2_5 : w2.cell? ⟨w.heap.size + 1, 2, none⟩ = some (.int .i64 z) := keep_cell c1_5 hB2
    have z2_0 : w.heap.size < w2.heap.size := cell_lt c2_0
    have z2_1 : w.heap.size + 1 < w2.heap.size := cell_lt c2_3
    clear hB2 c1_0 c1_1 c1_2 c1_3 c1_4 c1_5 z1_0 z1_1
    go_wp2_with fail
    refine (of_arg a b c m HH.out HM.out _).mono ?_
    rintro e w3 ⟨rfl, hB3⟩
    have HB3 : Hid (Below w.heap.size w w3) := below_up HB2.out hB3
    have c3_0 : w3.cell? ⟨w.heap.size, 0, none⟩ = some (.int .i64 a) := keep_cell c2_0 hB3
    have c3_1 : w3.cell? ⟨w.heap.size, 1, none⟩ = some (.int .i64 b) := keep_cell c2_1 hB3
    have c3_2 : w3.cell? ⟨w.heap.size, 2, none⟩ = some (.int .i64 c) := keep_cell c2_2 hB3
    have c3_3 : w3.cell? ⟨w.heap.size + 1, 0, none⟩ = some (.int .i64 x) := keep_cell c2_3 hB3
    have c3_4 : w3.cell? ⟨w.heap.size + 1, 1, none⟩ = some (.int .i64 y) := keep_cell c2_4 hB3
    have c3_5 : w3.cell? ⟨w.heap.size + 1, 2, none⟩ = some (.int .i64 z) := keep_cell c2_5 hB3
    have z3_0 : w.heap.size < w3.heap.size := cell_lt c3_0
    have z3_1 : w.heap.size + 1 < w3.heap.size := cell_lt c3_3
    clear hB3 c2_0 c2_1 c2_2 c2_3 c2_4 c2_5 z2_0 z2_1
    go_wp2_with fail
    refine (at_to a b c 0 0 0 _ HH.out HZ.out rfl _).mono ?_
    rintro e w4 ⟨rfl, hB4⟩
    have HB4 : Hid (Below w.heap.size w w4) := below_up (below_alloc HB3.out) hB4
    have c4_0 : w4.cell? ⟨w.heap.size, 0, none⟩ = some (.int .i64 a) := keep_cell (cell_over _ c3_0) hB4
    have c4_1 : w4.cell? ⟨w.heap.size, 1, none⟩ = some (.int .i64 b) := keep_cell (cell_over _ c3_1) hB4
    have c4_2 : w4.cell? ⟨w.heap.size, 2, none⟩ = some (.int .i64 c) := keep_cell (cell_over _ c3_2) hB4
    have c4_3 : w4.cell? ⟨w.heap.size + 1, 0, none⟩ = some (.int .i64 x) := keep_cell (cell_over _ c3_3) hB4
    have c4_4 : w4.cell? ⟨w.heap.size + 1, 1, none⟩ = some (.int .i64 y) := keep_cell (cell_over _ c3_4) hB4
    have c4_5 : w4.cell? ⟨w.heap.size + 1, 2, none⟩ = some (.int .i64 z) := keep_cell (cell_over _ c3_5) hB4
    have c4_6 : w4.cell? ⟨w3.heap.size, 0, none⟩ = some (.int .i64 0) := keep_cell (box0 w3 22 #[.int .i64 0, .int .i64 0, .int .i64 0] 0) hB4
    have c4_7 : w4.cell? ⟨w3.heap.size, 1, none⟩ = some (.int .i64 0) := keep_cell (box0 w3 22 #[.int .i64 0, .int .i64 0, .int .i64 0] 1) hB4
    have c4_8 : w4.cell? ⟨w3.heap.size, 2, none⟩ = some (.int .i64 0) := keep_cell (box0 w3 22 #[.int .i64 0, .int .i64 0, .int .i64 0] 2) hB4
    have z4_0 : w.heap.size < w4.heap.size := cell_lt c4_0
    have z4_1 : w.heap.size + 1 < w4.heap.size := cell_lt c4_3
    have z4_2 : w3.heap.size < w4.heap.size := cell_lt c4_6
    clear hB4 c3_0 c3_1 c3_2 c3_3 c3_4 c3_5 z3_0 z3_1
    go_wp2_with fail
    refine (alive_any _).mono ?_
    rintro e w5 ⟨rfl, hB5⟩
    have HB5 : Hid (Below w.heap.size w w5) := below_up HB4.out hB5
    have c5_0 : w5.cell? ⟨w.heap.size, 0, none⟩ = some (.int .i64 a) := keep_cell c4_0 hB5
    have c5_1 : w5.cell? ⟨w.heap.size, 1, none⟩ = some (.int .i64 b) := keep_cell c4_1 hB5
    have c5_2 : w5.cell? ⟨w.heap.size, 2, none⟩ = some (.int .i64 c) := keep_cell c4_2 hB5
    have c5_3 : w5.cell? ⟨w.heap.size + 1, 0, none⟩ = some (.int .i64 x) := keep_cell c4_3 hB5
    have c5_4 : w5.cell? ⟨w.heap.size + 1, 1, none⟩ = some (.int .i64 y) := keep_cell c4_4 hB5
    have c5_5 : w5.cell? ⟨w.heap.size + 1, 2, none⟩ = some (.int .i64 z) := keep_cell c4_5 hB5
    have c5_6 : w5.cell? ⟨w3.heap.size, 0, none⟩ = some (.int .i64 0) := keep_cell c4_6 hB5
    have c5_7 : w5.cell? ⟨w3.heap.size, 1, none⟩ = some (.int .i64 0) := keep_cell c4_7 hB5
    have c5_8 : w5.cell? ⟨w3.heap.size, 2, none⟩ = some (.int .i64 0) := keep_cell c4_8 hB5
    have z5_0 : w.heap.size < w5.heap.size := cell_lt c5_0
    have z5_1 : w.heap.size + 1 < w5.heap.size := cell_lt c5_3
    have z5_2 : w3.heap.size < w5.heap.size := cell_lt c5_6
    clear hB5 c4_0 c4_1 c4_2 c4_3 c4_4 c4_5 c4_6 c4_7 c4_8 z4_0 z4_1 z4_2
    go_wp2_with fail
    go_ret
    exact ⟨rfl, HB5.out⟩
set_option maxRecDepth 100000 in
set_option maxHeartbeats 4000000 in
theorem backLaw (w : World) (a b c : Int) (wa : (Lit.int .i64 a).wf = true) (wb : (Lit.int .i64 b).wf = true) (wc : (Lit.int .i64 c).wf = true) (x y z : Int) (wx : (Lit.int .i64 x).wf = true) (wy : (Lit.int .i64 y).wf = true) (wz : (Lit.int .i64 z).wf = true) (m : Int) (wm : (Lit.int .i64 m).wf = true) :
    Calls Try.prog 4 #[.agg #[.int .i64 a, .int .i64 b, .int .i64 c], .agg #[.int .i64 x, .int .i64 y, .int .i64 z], .int .i64 m] w fun e w' => e = .returned (.bool true) ∧ Below w.heap.size w w' := by
  by_cases h : May a b c
  · by_cases h3 : Ok3 a b c x y z
    · by_cases hm : 0 ≤ m ∧ m < num a b c
      · exact back_yy w a b c x y z m h h3 hm
      · exact back_yn w a b c x y z m h h3 hm
    · by_cases hm : 0 ≤ m ∧ m < num a b c
      · exact back_ny w a b c x y z m h h3 hm
      · exact back_nn w a b c x y z m h h3 hm
  · exact back_bad w a b c x y z m h
theorem names1 (w : World) : Calls Try.prog 18 #[.agg #[.int .i64 4, .int .i64 3, .int .i64 2], .int .i64 0, .int .i64 0, .int .i64 (-1)] w fun e w' => e = .returned (.tuple #[.int .i64 3, .int .i64 0]) ∧ Below w.heap.size w w' := step_to none 0 rfl 4 3 2 0 (-1) 3 may432 (by decide) (by decide) (by decide) w
theorem names2 (w : World) : Calls Try.prog 18 #[.agg #[.int .i64 4, .int .i64 3, .int .i64 2], .int .i64 21, .int .i64 1, .int .i64 1] w fun e w' => e = .returned (.tuple #[.int .i64 13, .int .i64 0]) ∧ Below w.heap.size w w' := step_to (some false) 1 rfl 4 3 2 21 1 13 may432 (by decide) (by decide) (by decide) w
theorem names3 (w : World) : Calls Try.prog 20 #[.agg #[.int .i64 4, .int .i64 3, .int .i64 2], .int .i64 0, .int .i64 3] w fun e w' => e = .returned (.tuple #[.int .i64 1, .int .i64 0]) ∧ Below w.heap.size w w' := far_to 4 3 2 0 3 1 may432 (by decide) (by decide) (by decide) (by decide) (by decide) w
theorem names4 (w : World) : Calls Try.prog 20 #[.agg #[.int .i64 4, .int .i64 3, .int .i64 2], .int .i64 0, .int .i64 23] w fun e w' => e = .returned (.tuple #[.int .i64 3, .int .i64 0]) ∧ Below w.heap.size w w' := far_to 4 3 2 0 23 3 may432 (by decide) (by decide) (by decide) (by decide) (by decide) w
theorem names5 (w : World) : Calls Try.prog 15 #[.agg #[.int .i64 17, .int .i64 1, .int .i64 1]] w fun e w' => e = .returned (.int .i64 8) ∧ Below w.heap.size w w' := check_bad 17 1 1 (by decide) w
theorem names6 (w : World) : Calls Try.prog 15 #[.agg #[.int .i64 0, .int .i64 0, .int .i64 0]] w fun e w' => e = .returned (.int .i64 8) ∧ Below w.heap.size w w' := check_bad 0 0 0 (by decide) w
set_option maxRecDepth 100000 in
set_option maxHeartbeats 4000000 in
theorem namesLaw (w : World)  :
    Calls Try.prog 6 #[] w fun e w' => e = .returned (.bool true) ∧ Below w.heap.size w w' := by
  go_enter Try.func6, Try.ntmps6
  go_wp2_with fail
  refine (some_any _).mono ?_
  rintro e w1 ⟨rfl, hB1⟩
  have HB1 : Hid (Below w.heap.size w w1) := below_up (Below.refl _ _) hB1
  clear hB1  
  go_wp2_with fail
  refine (names1 _).mono ?_
  rintro e w2 ⟨rfl, hB2⟩
  have HB2 : Hid (Below w.heap.size w w2) := below_up HB1.out hB2
  clear hB2  
  go_wp2_with fail
  refine (some_any _).mono ?_
  rintro e w3 ⟨rfl, hB3⟩
  have HB3 : Hid (Below w.heap.size w w3) := below_up HB2.out hB3
  clear hB3  
  go_wp2_with fail
  refine (names2 _).mono ?_
  rintro e w4 ⟨rfl, hB4⟩
  have HB4 : Hid (Below w.heap.size w w4) := below_up HB3.out hB4
  clear hB4  
  go_wp2_with fail
  refine (some_any _).mono ?_
  rintro e w5 ⟨rfl, hB5⟩
  have HB5 : Hid (Below w.heap.size w w5) := below_up HB4.out hB5
  clear hB5  
  go_wp2_with fail
  refine (names3 _).mono ?_
  rintro e w6 ⟨rfl, hB6⟩
  have HB6 : Hid (Below w.heap.size w w6) := below_up HB5.out hB6
  clear hB6  
  go_wp2_with fail
  refine (some_any _).mono ?_
  rintro e w7 ⟨rfl, hB7⟩
  have HB7 : Hid (Below w.heap.size w w7) := below_up HB6.out hB7
  clear hB7  
  go_wp2_with fail
  refine (names4 _).mono ?_
  rintro e w8 ⟨rfl, hB8⟩
  have HB8 : Hid (Below w.heap.size w w8) := below_up HB7.out hB8
  clear hB8  
  go_wp2_with fail
  refine (alive_any _).mono ?_
  rintro e w9 ⟨rfl, hB9⟩
  have HB9 : Hid (Below w.heap.size w w9) := below_up HB8.out hB9
  clear hB9  
  go_wp2_with fail
  refine (names5 _).mono ?_
  rintro e w10 ⟨rfl, hB10⟩
  have HB10 : Hid (Below w.heap.size w w10) := below_up HB9.out hB10
  clear hB10  
  go_wp2_with fail
  refine (names6 _).mono ?_
  rintro e w11 ⟨rfl, hB11⟩
  have HB11 : Hid (Below w.heap.size w w11) := below_up HB10.out hB11
  clear hB11  
  go_wp2_with fail
  go_ret
  exact ⟨rfl, HB11.out⟩
end Go.Proofs.Ythapginaphdmjaa.PosLaws
