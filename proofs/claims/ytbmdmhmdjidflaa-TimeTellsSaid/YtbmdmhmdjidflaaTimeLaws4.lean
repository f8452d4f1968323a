/- The walk of the law TimeTells: it returns true, and nothing that was there has turned. -/
import Derived.Test.YtbmdmhmdjidflaaTimeLaws
import Derived.Deep.RegionHeld3
namespace Go.Proofs.Ytbmdmhmdjidflaa.TimeLaws4
open Go.RowKit Mem TimeWalks TimeAsked TimeRef TimeRef2 TimeRef3 TimeLaws
set_option linter.unusedVariables false

theorem same_check (af at_ : Int) : ∃ (er : Int), (∀ w : World, Calls Try.prog 12 #[.agg #[.int .i64 af, .int .i64 at_]] w fun e w' => e = .returned (.int .i64 er) ∧ Below w.heap.size w w') ∧ (∀ w : World, Calls Try.prog 22 #[.agg #[.int .i64 af, .int .i64 at_]] w fun e w' => e = .returned (.int .i64 er) ∧ Below w.heap.size w w') := by
  by_cases h : may af at_
  · exact ⟨0, fun w => check_ok af at_ h w, fun w => refcheck_ok af at_ h w⟩
  · exact ⟨2, fun w => check_bad af at_ h w, fun w => refcheck_bad af at_ h w⟩
theorem same_long (af at_ : Int) : ∃ (v : Int) (er : Int), (∀ w : World, Calls Try.prog 15 #[.agg #[.int .i64 af, .int .i64 at_]] w fun e w' => e = .returned (.tuple #[.int .i64 v, .int .i64 er]) ∧ Below w.heap.size w w') ∧ (∀ w : World, Calls Try.prog 17 #[.agg #[.int .i64 af, .int .i64 at_]] w fun e w' => e = .returned (.tuple #[.int .i64 v, .int .i64 er]) ∧ Below w.heap.size w w') := by
  by_cases h : may af at_
  · exact ⟨_, _, fun w => long_ok af at_ h w, fun w => reflong_ok af at_ h w⟩
  · exact ⟨_, _, fun w => long_bad af at_ h w, fun w => reflong_bad af at_ h w⟩
theorem same_from (a n : Int) : ∃ (s : Int) (t : Int) (er : Int), (∀ w : World, Calls Try.prog 8 #[.int .i64 a, .int .i64 n] w fun e w' => e = .returned (.tuple #[.agg #[.int .i64 s, .int .i64 t], .int .i64 er]) ∧ Below w.heap.size w w') ∧ (∀ w : World, Calls Try.prog 16 #[.int .i64 a, .int .i64 n] w fun e w' => e = .returned (.tuple #[.agg #[.int .i64 s, .int .i64 t], .int .i64 er]) ∧ Below w.heap.size w w') := by
  by_cases h : a < 0 ∨ 1099511627776 ≤ a ∨ n < 1
  · exact ⟨_, _, _, fun w => from_bad a n h w, fun w => reffrom_bad a n h w⟩
  · exact ⟨_, _, _, fun w => from_ok a n (by omega) (by omega) (by omega) w, fun w => reffrom_ok a n (by omega) (by omega) (by omega) w⟩
theorem same_meet (af at_ bf bt : Int) : ∃ (x : Bool) (er : Int), (∀ w : World, Calls Try.prog 13 #[.agg #[.int .i64 af, .int .i64 at_], .agg #[.int .i64 bf, .int .i64 bt]] w fun e w' => e = .returned (.tuple #[.bool x, .int .i64 er]) ∧ Below w.heap.size w w') ∧ (∀ w : World, Calls Try.prog 18 #[.agg #[.int .i64 af, .int .i64 at_], .agg #[.int .i64 bf, .int .i64 bt]] w fun e w' => e = .returned (.tuple #[.bool x, .int .i64 er]) ∧ Below w.heap.size w w') := by
  by_cases h : may af at_ ∧ may bf bt
  · by_cases hh : meets af at_ bf bt
    · exact ⟨_, _, fun w => meet_yes af at_ bf bt h.1 h.2 hh w, fun w => refmeet_yes af at_ bf bt h.1 h.2 hh w⟩
    · exact ⟨_, _, fun w => meet_no af at_ bf bt h.1 h.2 hh w, fun w => refmeet_no af at_ bf bt h.1 h.2 hh w⟩
  · exact ⟨_, _, fun w => meet_bad af at_ bf bt h w, fun w => refmeet_bad af at_ bf bt h w⟩
theorem same_within (af at_ bf bt : Int) : ∃ (x : Bool) (er : Int), (∀ w : World, Calls Try.prog 14 #[.agg #[.int .i64 af, .int .i64 at_], .agg #[.int .i64 bf, .int .i64 bt]] w fun e w' => e = .returned (.tuple #[.bool x, .int .i64 er]) ∧ Below w.heap.size w w') ∧ (∀ w : World, Calls Try.prog 19 #[.agg #[.int .i64 af, .int .i64 at_], .agg #[.int .i64 bf, .int .i64 bt]] w fun e w' => e = .returned (.tuple #[.bool x, .int .i64 er]) ∧ Below w.heap.size w w') := by
  by_cases h : may af at_ ∧ may bf bt
  · by_cases hh : inside af at_ bf bt
    · exact ⟨_, _, fun w => within_yes af at_ bf bt h.1 h.2 hh w, fun w => refwithin_yes af at_ bf bt h.1 h.2 hh w⟩
    · exact ⟨_, _, fun w => within_no af at_ bf bt h.1 h.2 hh w, fun w => refwithin_no af at_ bf bt h.1 h.2 hh w⟩
  · exact ⟨_, _, fun w => within_bad af at_ bf bt h w, fun w => refwithin_bad af at_ bf bt h w⟩
theorem same_both (af at_ bf bt : Int) : ∃ (s : Int) (t : Int) (er : Int), (∀ w : World, Calls Try.prog 9 #[.agg #[.int .i64 af, .int .i64 at_], .agg #[.int .i64 bf, .int .i64 bt]] w fun e w' => e = .returned (.tuple #[.agg #[.int .i64 s, .int .i64 t], .int .i64 er]) ∧ Below w.heap.size w w') ∧ (∀ w : World, Calls Try.prog 20 #[.agg #[.int .i64 af, .int .i64 at_], .agg #[.int .i64 bf, .int .i64 bt]] w fun e w' => e = .returned (.tuple #[.agg #[.int .i64 s, .int .i64 t], .int .i64 er]) ∧ Below w.heap.size w w') := by
  by_cases h : may af at_ ∧ may bf bt
  · by_cases hh : meets af at_ bf bt
    · exact ⟨_, _, _, fun w => both_yes af at_ bf bt h.1 h.2 hh w, fun w => refboth_yes af at_ bf bt h.1 h.2 hh w⟩
    · exact ⟨_, _, _, fun w => both_none af at_ bf bt h.1 h.2 hh w, fun w => refboth_none af at_ bf bt h.1 h.2 hh w⟩
  · exact ⟨_, _, _, fun w => both_bad af at_ bf bt h w, fun w => refboth_bad af at_ bf bt h w⟩
set_option maxRecDepth 100000 in
set_option maxHeartbeats 8000000 in
theorem tells_main (w : World) (m n af at_ bf bt : Int) :
    Calls Try.prog 7 #[.int .i64 m, .int .i64 n, .agg #[.int .i64 af, .int .i64 at_], .agg #[.int .i64 bf, .int .i64 bt]] w fun e w' => e = .returned (.bool true) ∧ Below w.heap.size w w' := by
  obtain ⟨sf, st, se, h1, h2⟩ := same_from m n
  have Hfrom := Lib.hid h1
  have Rfrom := Lib.hid h2
  clear h1 h2
  obtain ⟨lv, le, h1, h2⟩ := same_long af at_
  have Hlong := Lib.hid h1
  have Rlong := Lib.hid h2
  clear h1 h2
  obtain ⟨mx_, me, h1, h2⟩ := same_meet af at_ bf bt
  have Hmeet := Lib.hid h1
  have Rmeet := Lib.hid h2
  clear h1 h2
  obtain ⟨ix, ie, h1, h2⟩ := same_within af at_ bf bt
  have Hwithin := Lib.hid h1
  have Rwithin := Lib.hid h2
  clear h1 h2
  obtain ⟨pf, pt, pe, h1, h2⟩ := same_both af at_ bf bt
  have Hboth := Lib.hid h1
  have Rboth := Lib.hid h2
  clear h1 h2
  obtain ⟨ce, h1, h2⟩ := same_check af at_
  have Hcheck := Lib.hid h1
  have Rcheck := Lib.hid h2
  clear h1 h2
  go_enter Try.func7, Try.ntmps7
  go_wp2_with fail
  refine (Hfrom.out _).mono ?_
  rintro e w1 ⟨rfl, hB1⟩
  have HB1 : Hid (Below w.heap.size w w1) := below_up (below_alloc (below_alloc (Below.refl _ _))) hB1
  have c1_0 : w1.cell? ⟨w.heap.size, 0, none⟩ = some (.int .i64 af) := keep_cell (cell_over _ (box0 w 23 #[.int .i64 af, .int .i64 at_] 0)) hB1
  have c1_1 : w1.cell? ⟨w.heap.size, 1, none⟩ = some (.int .i64 at_) := keep_cell (cell_over _ (box0 w 23 #[.int .i64 af, .int .i64 at_] 1)) hB1
  have c1_2 : w1.cell? ⟨w.heap.size + 1, 0, none⟩ = some (.int .i64 bf) := keep_cell (box1 w 23 #[.int .i64 bf, .int .i64 bt] 0) hB1
  have c1_3 : w1.cell? ⟨w.heap.size + 1, 1, none⟩ = some (.int .i64 bt) := keep_cell (box1 w 23 #[.int .i64 bf, .int .i64 bt] 1) hB1
  have z1_0 : w.heap.size < w1.heap.size := cell_lt c1_0
  have z1_1 : w.heap.size + 1 < w1.heap.size := cell_lt c1_2
  clear hB1  
  go_wp2_with fail
  refine (Rfrom.out _).mono ?_
  rintro e w2 ⟨rfl, hB2⟩
  have HB2 : Hid (Below w.heap.size w w2) := below_up (below_alloc HB1.out) hB2
  have c2_0 : w2.cell? ⟨w.heap.size, 0, none⟩ = some (.int .i64 af) := keep_cell (cell_over _ c1_0) hB2
  have c2_1 : w2.cell? ⟨w.heap.size, 1, none⟩ = some (.int .i64 at_) := keep_cell (cell_over _ c1_1) hB2
  have c2_2 : w2.cell? ⟨w.heap.size + 1, 0, none⟩ = some (.int .i64 bf) := keep_cell (cell_over _ c1_2) hB2
  have c2_3 : w2.cell? ⟨w.heap.size + 1, 1, none⟩ = some (.int .i64 bt) := keep_cell (cell_over _ c1_3) hB2
  have c2_4 : w2.cell? ⟨w1.heap.size, 0, none⟩ = some (.int .i64 sf) := keep_cell (box0 w1 23 #[.int .i64 sf, .int .i64 st] 0) hB2
  have c2_5 : w2.cell? ⟨w1.heap.size, 1, none⟩ = some (.int .i64 st) := keep_cell (box0 w1 23 #[.int .i64 sf, .int .i64 st] 1) hB2
  have z2_0 : w.heap.size < w2.heap.size := cell_lt c2_0
  have z2_1 : w.heap.size + 1 < w2.heap.size := cell_lt c2_2
  have z2_2 : w1.heap.size < w2.heap.size := cell_lt c2_4
  clear hB2 c1_0 c1_1 c1_2 c1_3 z1_0 z1_1
  go_wp2_with fail
  refine (Hlong.out _).mono ?_
  rintro e w3 ⟨rfl, hB3⟩
  have HB3 : Hid (Below w.heap.size w w3) := below_up (below_alloc HB2.out) hB3
  have c3_0 : w3.cell? ⟨w.heap.size, 0, none⟩ = some (.int .i64 af) := keep_cell (cell_over _ c2_0) hB3
  have c3_1 : w3.cell? ⟨w.heap.size, 1, none⟩ = some (.int .i64 at_) := keep_cell (cell_over _ c2_1) hB3
  have c3_2 : w3.cell? ⟨w.heap.size + 1, 0, none⟩ = some (.int .i64 bf) := keep_cell (cell_over _ c2_2) hB3
  have c3_3 : w3.cell? ⟨w.heap.size + 1, 1, none⟩ = some (.int .i64 bt) := keep_cell (cell_over _ c2_3) hB3
  have c3_4 : w3.cell? ⟨w1.heap.size, 0, none⟩ = some (.int .i64 sf) := keep_cell (cell_over _ c2_4) hB3
  have c3_5 : w3.cell? ⟨w1.heap.size, 1, none⟩ = some (.int .i64 st) := keep_cell (cell_over _ c2_5) hB3
  have c3_6 : w3.cell? ⟨w2.heap.size, 0, none⟩ = some (.int .i64 sf) := keep_cell (box0 w2 23 #[.int .i64 sf, .int .i64 st] 0) hB3
  have c3_7 : w3.cell? ⟨w2.heap.size, 1, none⟩ = some (.int .i64 st) := keep_cell (box0 w2 23 #[.int .i64 sf, .int .i64 st] 1) hB3
  have z3_0 : w.heap.size < w3.heap.size := cell_lt c3_0
  have z3_1 : w.heap.size + 1 < w3.heap.size := cell_lt c3_2
  have z3_2 : w1.heap.size < w3.heap.size := cell_lt c3_4
  have z3_3 : w2.heap.size < w3.heap.size := cell_lt c3_6
  clear hB3 c2_0 c2_1 c2_2 c2_3 c2_4 c2_5 z2_0 z2_1 z2_2
  go_wp2_with fail
  refine (Rlong.out _).mono ?_
  rintro e w4 ⟨rfl, hB4⟩
  have HB4 : Hid (Below w.heap.size w w4) := below_up HB3.out hB4
  have c4_0 : w4.cell? ⟨w.heap.size, 0, none⟩ = some (.int .i64 af) := keep_cell c3_0 hB4
  have c4_1 : w4.cell? ⟨w.heap.size, 1, none⟩ = some (.int .i64 at_) := keep_cell c3_1 hB4
  have c4_2 : w4.cell? ⟨w.heap.size + 1, 0, none⟩ = some (.int .i64 bf) := keep_cell c3_2 hB4
  have c4_3 : w4.cell? ⟨w.heap.size + 1, 1, none⟩ = some (.int .i64 bt) := keep_cell c3_3 hB4
  have c4_4 : w4.cell? ⟨w1.heap.size, 0, none⟩ = some (.int .i64 sf) := keep_cell c3_4 hB4
  have c4_5 : w4.cell? ⟨w1.heap.size, 1, none⟩ = some (.int .i64 st) := keep_cell c3_5 hB4
  have c4_6 : w4.cell? ⟨w2.heap.size, 0, none⟩ = some (.int .i64 sf) := keep_cell c3_6 hB4
  have c4_7 : w4.cell? ⟨w2.heap.size, 1, none⟩ = some (.int .i64 st) := keep_cell c3_7 hB4
  have z4_0 : w.heap.size < w4.heap.size := cell_lt c4_0
  have z4_1 : w.heap.size + 1 < w4.heap.size := cell_lt c4_2
  have z4_2 : w1.heap.size < w4.heap.size := cell_lt c4_4
  have z4_3 : w2.heap.size < w4.heap.size := cell_lt c4_6
  clear hB4 c3_0 c3_1 c3_2 c3_3 c3_4 c3_5 c3_6 c3_7 z3_0 z3_1 z3_2 z3_3
  go_wp2_with fail
  refine (Hmeet.out _).mono ?_
  rintro e w5 ⟨rfl, hB5⟩
  have HB5 : Hid (Below w.heap.size w w5) := below_up HB4.out hB5
  have c5_0 : w5.cell? ⟨w.heap.size, 0, none⟩ = some (.int .i64 af) := keep_cell c4_0 hB5
  have c5_1 : w5.cell? ⟨w.heap.size, 1, none⟩ = some (.int .i64 at_) := keep_cell c4_1 hB5
  have c5_2 : w5.cell? ⟨w.heap.size + 1, 0, none⟩ = some (.int .i64 bf) := keep_cell c4_2 hB5
  have c5_3 : w5.cell? ⟨w.heap.size + 1, 1, none⟩ = some (.int .i64 bt) := keep_cell c4_3 hB5
  have c5_4 : w5.cell? ⟨w1.heap.size, 0, none⟩ = some (.int .i64 sf) := keep_cell c4_4 hB5
  have c5_5 : w5.cell? ⟨w1.heap.size, 1, none⟩ = some (.int .i64 st) := keep_cell c4_5 hB5
  have c5_6 : w5.cell? ⟨w2.heap.size, 0, none⟩ = some (.int .i64 sf) := keep_cell c4_6 hB5
  have c5_7 : w5.cell? ⟨w2.heap.size, 1, none⟩ = some (.int .i64 st) := keep_cell c4_7 hB5
  have z5_0 : w.heap.size < w5.heap.size := cell_lt c5_0
  have z5_1 : w.heap.size + 1 < w5.heap.size := cell_lt c5_2
  have z5_2 : w1.heap.size < w5.heap.size := cell_lt c5_4
  have z5_3 : w2.heap.size < w5.heap.size := cell_lt c5_6
  clear hB5 c4_0 c4_1 c4_2 c4_3 c4_4 c4_5 c4_6 c4_7 z4_0 z4_1 z4_2 z4_3
  go_wp2_with fail
  refine (Rmeet.out _).mono ?_
  rintro e w6 ⟨rfl, hB6⟩
  have HB6 : Hid (Below w.heap.size w w6) := below_up HB5.out hB6
  have c6_0 : w6.cell? ⟨w.heap.size, 0, none⟩ = some (.int .i64 af) := keep_cell c5_0 hB6
  have c6_1 : w6.cell? ⟨w.heap.size, 1, none⟩ = some (.int .i64 at_) := keep_cell c5_1 hB6
  have c6_2 : w6.cell? ⟨w.heap.size + 1, 0, none⟩ = some (.int .i64 bf) := keep_cell c5_2 hB6
  have c6_3 : w6.cell? ⟨w.heap.size + 1, 1, none⟩ = some (.int .i64 bt) := keep_cell c5_3 hB6
  have c6_4 : w6.cell? ⟨w1.heap.size, 0, none⟩ = some (.int .i64 sf) := keep_cell c5_4 hB6
  have c6_5 : w6.cell? ⟨w1.heap.size, 1, none⟩ = some (.int .i64 st) := keep_cell c5_5 hB6
  have c6_6 : w6.cell? ⟨w2.heap.size, 0, none⟩ = some (.int .i64 sf) := keep_cell c5_6 hB6
  have c6_7 : w6.cell? ⟨w2.heap.size, 1, none⟩ = some (.int .i64 st) := keep_cell c5_7 hB6
  have z6_0 : w.heap.size < w6.heap.size := cell_lt c6_0
  have z6_1 : w.heap.size + 1 < w6.heap.size := cell_lt c6_2
  have z6_2 : w1.heap.size < w6.heap.size := cell_lt c6_4
  have z6_3 : w2.heap.size < w6.heap.size := cell_lt c6_6
  clear hB6 c5_0 c5_1 c5_2 c5_3 c5_4 c5_5 c5_6 c5_7 z5_0 z5_1 z5_2 z5_3
  go_wp2_with fail
  refine (Hwithin.out _).mono ?_
  rintro e w7 ⟨rfl, hB7⟩
  have HB7 : Hid (Below w.heap.size w w7) := below_up HB6.out hB7
  have c7_0 : w7.cell? ⟨w.heap.size, 0, none⟩ = some (.int .i64 af) := keep_cell c6_0 hB7
  have c7_1 : w7.cell? ⟨w.heap.size, 1, none⟩ = some (.int .i64 at_) := keep_cell c6_1 hB7
  have c7_2 : w7.cell? ⟨w.heap.size + 1, 0, none⟩ = some (.int .i64 bf) := keep_cell c6_2 hB7
  have c7_3 : w7.cell? ⟨w.heap.size + 1, 1, none⟩ = some (.int .i64 bt) := keep_cell c6_3 hB7
  have c7_4 : w7.cell? ⟨w1.heap.size, 0, none⟩ = some (.int .i64 sf) := keep_cell c6_4 hB7
  have c7_5 : w7.cell? ⟨w1.heap.size, 1, none⟩ = some (.int .i64 st) := keep_cell c6_5 hB7
  have c7_6 : w7.cell? ⟨w2.heap.size, 0, none⟩ = some (.int .i64 sf) := keep_cell c6_6 hB7
  have c7_7 : w7.cell? ⟨w2.heap.size, 1, none⟩ = some (.int .i64 st) := keep_cell c6_7 hB7
  have z7_0 : w.heap.size < w7.heap.size := cell_lt c7_0
  have z7_1 : w.heap.size + 1 < w7.heap.size := cell_lt c7_2
  have z7_2 : w1.heap.size < w7.heap.size := cell_lt c7_4
  have z7_3 : w2.heap.size < w7.heap.size := cell_lt c7_6
  clear hB7 c6_0 c6_1 c6_2 c6_3 c6_4 c6_5 c6_6 c6_7 z6_0 z6_1 z6_2 z6_3
  go_wp2_with fail
  refine (Rwithin.out _).mono ?_
  rintro e w8 ⟨rfl, hB8⟩
  have HB8 : Hid (Below w.heap.size w w8) := below_up HB7.out hB8
  have c8_0 : w8.cell? ⟨w.heap.size, 0, none⟩ = some (.int .i64 af) := keep_cell c7_0 hB8
  have c8_1 : w8.cell? ⟨w.heap.size, 1, none⟩ = some (.int .i64 at_) := keep_cell c7_1 hB8
  have c8_2 : w8.cell? ⟨w.heap.size + 1, 0, none⟩ = some (.int .i64 bf) := keep_cell c7_2 hB8
  have c8_3 : w8.cell? ⟨w.heap.size + 1, 1, none⟩ = some (.int .i64 bt) := keep_cell c7_3 hB8
  have c8_4 : w8.cell? ⟨w1.heap.size, 0, none⟩ = some (.int .i64 sf) := keep_cell c7_4 hB8
  have c8_5 : w8.cell? ⟨w1.heap.size, 1, none⟩ = some (.int .i64 st) := keep_cell c7_5 hB8
  have c8_6 : w8.cell? ⟨w2.heap.size, 0, none⟩ = some (.int .i64 sf) := keep_cell c7_6 hB8
  have c8_7 : w8.cell? ⟨w2.heap.size, 1, none⟩ = some (.int .i64 st) := keep_cell c7_7 hB8
  have z8_0 : w.heap.size < w8.heap.size := cell_lt c8_0
  have z8_1 : w.heap.size + 1 < w8.heap.size := cell_lt c8_2
  have z8_2 : w1.heap.size < w8.heap.size := cell_lt c8_4
  have z8_3 : w2.heap.size < w8.heap.size := cell_lt c8_6
  clear hB8 c7_0 c7_1 c7_2 c7_3 c7_4 c7_5 c7_6 c7_7 z7_0 z7_1 z7_2 z7_3
  go_wp2_with fail
  refine (Hboth.out _).mono ?_
  rintro e w9 ⟨rfl, hB9⟩
  have HB9 : Hid (Below w.heap.size w w9) := below_up HB8.out hB9
  have c9_0 : w9.cell? ⟨w.heap.size, 0, none⟩ = some (.int .i64 af) := keep_cell c8_0 hB9
  have c9_1 : w9.cell? ⟨w.heap.size, 1, none⟩ = some (.int .i64 at_) := keep_cell c8_1 hB9
  have c9_2 : w9.cell? ⟨w.heap.size + 1, 0, none⟩ = some (.int .i64 bf) := keep_cell c8_2 hB9
  have c9_3 : w9.cell? ⟨w.heap.size + 1, 1, none⟩ = some (.int .i64 bt) := keep_cell c8_3 hB9
  have c9_4 : w9.cell? ⟨w1.heap.size, 0, none⟩ = some (.int .i64 sf) := keep_cell c8_4 hB9
  have c9_5 : w9.cell? ⟨w1.heap.size, 1, none⟩ = some (.int .i64 st) := keep_cell c8_5 hB9
  have c9_6 : w9.cell? ⟨w2.heap.size, 0, none⟩ = some (.int .i64 sf) := keep_cell c8_6 hB9
  have c9_7 : w9.cell? ⟨w2.heap.size, 1, none⟩ = some (.int .i64 st) := keep_cell c8_7 hB9
  have z9_0 : w.heap.size < w9.heap.size := cell_lt c9_0
  have z9_1 : w.heap.size + 1 < w9.heap.size := cell_lt c9_2
  have z9_2 : w1.heap.size < w9.heap.size := cell_lt c9_4
  have z9_3 : w2.heap.size < w9.heap.size := cell_lt c9_6
  clear hB9 c8_0 c8_1 c8_2 c8_3 c8_4 c8_5 c8_6 c8_7 z8_0 z8_1 z8_2 z8_3
  go_wp2_with fail
  refine (Rboth.out _).mono ?_
  rintro e w10 ⟨rfl, hB10⟩
  have HB10 : Hid (Below w.heap.size w w10) := below_up (below_alloc HB9.out) hB10
  have c10_0 : w10.cell? ⟨w.heap.size, 0, none⟩ = some (.int .i64 af) := keep_cell (cell_over _ c9_0) hB10
  have c10_1 : w10.cell? ⟨w.heap.size, 1, none⟩ = some (.int .i64 at_) := keep_cell (cell_over _ c9_1) hB10
  have c10_2 : w10.cell? ⟨w.heap.size + 1, 0, none⟩ = some (.int .i64 bf) := keep_cell (cell_over _ c9_2) hB10
  have c10_3 : w10.cell? ⟨w.heap.size + 1, 1, none⟩ = some (.int .i64 bt) := keep_cell (cell_over _ c9_3) hB10
  have c10_4 : w10.cell? ⟨w1.heap.size, 0, none⟩ = some (.int .i64 sf) := keep_cell (cell_over _ c9_4) hB10
  have c10_5 : w10.cell? ⟨w1.heap.size, 1, none⟩ = some (.int .i64 st) := keep_cell (cell_over _ c9_5) hB10
  have c10_6 : w10.cell? ⟨w2.heap.size, 0, none⟩ = some (.int .i64 sf) := keep_cell (cell_over _ c9_6) hB10
  have c10_7 : w10.cell? ⟨w2.heap.size, 1, none⟩ = some (.int .i64 st) := keep_cell (cell_over _ c9_7) hB10
  have c10_8 : w10.cell? ⟨w9.heap.size, 0, none⟩ = some (.int .i64 pf) := keep_cell (box0 w9 23 #[.int .i64 pf, .int .i64 pt] 0) hB10
  have c10_9 : w10.cell? ⟨w9.heap.size, 1, none⟩ = some (.int .i64 pt) := keep_cell (box0 w9 23 #[.int .i64 pf, .int .i64 pt] 1) hB10
  have z10_0 : w.heap.size < w10.heap.size := cell_lt c10_0
  have z10_1 : w.heap.size + 1 < w10.heap.size := cell_lt c10_2
  have z10_2 : w1.heap.size < w10.heap.size := cell_lt c10_4
  have z10_3 : w2.heap.size < w10.heap.size := cell_lt c10_6
  have z10_4 : w9.heap.size < w10.heap.size := cell_lt c10_8
  clear hB10 c9_0 c9_1 c9_2 c9_3 c9_4 c9_5 c9_6 c9_7 z9_0 z9_1 z9_2 z9_3
  go_wp2_with fail
  have K0 : KeptL w [(⟨w.heap.size, 0, none⟩, .int .i64 af), (⟨w.heap.size, 1, none⟩, .int .i64 at_), (⟨w.heap.size + 1, 0, none⟩, .int .i64 bf), (⟨w.heap.size + 1, 1, none⟩, .int .i64 bt), (⟨w1.heap.size, 0, none⟩, .int .i64 sf), (⟨w1.heap.size, 1, none⟩, .int .i64 st), (⟨w2.heap.size, 0, none⟩, .int .i64 sf), (⟨w2.heap.size, 1, none⟩, .int .i64 st), (⟨w9.heap.size, 0, none⟩, .int .i64 pf), (⟨w9.heap.size, 1, none⟩, .int .i64 pt), (⟨w10.heap.size, 0, none⟩, .int .i64 pf), (⟨w10.heap.size, 1, none⟩, .int .i64 pt)] _ := KeptL.drew (W := _) ⟨(below_alloc HB10.out), (cell_over _ c10_0), (cell_over _ c10_1), (cell_over _ c10_2), (cell_over _ c10_3), (cell_over _ c10_4), (cell_over _ c10_5), (cell_over _ c10_6), (cell_over _ c10_7), (cell_over _ c10_8), (cell_over _ c10_9), (box0 w10 23 #[.int .i64 pf, .int .i64 pt] 0), (box0 w10 23 #[.int .i64 pf, .int .i64 pt] 1)⟩
  go_region_held3 (fun W => Below w.heap.size w W ∧ W.cell? ⟨w.heap.size, 0, none⟩ = some (.int .i64 af) ∧ W.cell? ⟨w.heap.size, 1, none⟩ = some (.int .i64 at_) ∧ W.cell? ⟨w.heap.size + 1, 0, none⟩ = some (.int .i64 bf) ∧ W.cell? ⟨w.heap.size + 1, 1, none⟩ = some (.int .i64 bt) ∧ W.cell? ⟨w1.heap.size, 0, none⟩ = some (.int .i64 sf) ∧ W.cell? ⟨w1.heap.size, 1, none⟩ = some (.int .i64 st) ∧ W.cell? ⟨w2.heap.size, 0, none⟩ = some (.int .i64 sf) ∧ W.cell? ⟨w2.heap.size, 1, none⟩ = some (.int .i64 st) ∧ W.cell? ⟨w9.heap.size, 0, none⟩ = some (.int .i64 pf) ∧ W.cell? ⟨w9.heap.size, 1, none⟩ = some (.int .i64 pt) ∧ W.cell? ⟨w10.heap.size, 0, none⟩ = some (.int .i64 pf) ∧ W.cell? ⟨w10.heap.size, 1, none⟩ = some (.int .i64 pt)) (first | exact K0 | exact KeptL.alloc (fs := [(⟨w.heap.size, 0, none⟩, .int .i64 af), (⟨w.heap.size, 1, none⟩, .int .i64 at_), (⟨w.heap.size + 1, 0, none⟩, .int .i64 bf), (⟨w.heap.size + 1, 1, none⟩, .int .i64 bt), (⟨w1.heap.size, 0, none⟩, .int .i64 sf), (⟨w1.heap.size, 1, none⟩, .int .i64 st), (⟨w2.heap.size, 0, none⟩, .int .i64 sf), (⟨w2.heap.size, 1, none⟩, .int .i64 st), (⟨w9.heap.size, 0, none⟩, .int .i64 pf), (⟨w9.heap.size, 1, none⟩, .int .i64 pt), (⟨w10.heap.size, 0, none⟩, .int .i64 pf), (⟨w10.heap.size, 1, none⟩, .int .i64 pt)]) (by assumption) _ | exact KeptL.up (fs := [(⟨w.heap.size, 0, none⟩, .int .i64 af), (⟨w.heap.size, 1, none⟩, .int .i64 at_), (⟨w.heap.size + 1, 0, none⟩, .int .i64 bf), (⟨w.heap.size + 1, 1, none⟩, .int .i64 bt), (⟨w1.heap.size, 0, none⟩, .int .i64 sf), (⟨w1.heap.size, 1, none⟩, .int .i64 st), (⟨w2.heap.size, 0, none⟩, .int .i64 sf), (⟨w2.heap.size, 1, none⟩, .int .i64 st), (⟨w9.heap.size, 0, none⟩, .int .i64 pf), (⟨w9.heap.size, 1, none⟩, .int .i64 pt), (⟨w10.heap.size, 0, none⟩, .int .i64 pf), (⟨w10.heap.size, 1, none⟩, .int .i64 pt)]) (by assumption) (by assumption) | assumption) (first | (go_at_call 11; (with_reducible refine (plus_any m n _).mono ?_); rintro e w20 ⟨rfl, rfl⟩) | (go_at_call 21; (with_reducible refine (refplus_any m n _).mono ?_); rintro e w20 ⟨rfl, rfl⟩) | (go_at_call 12; (with_reducible refine (Hcheck.out _).mono ?_); rintro e w20 ⟨rfl, hB20⟩) | (go_at_call 22; (with_reducible refine (Rcheck.out _).mono ?_); rintro e w20 ⟨rfl, hB20⟩))
  all_goals
    go_wp2_with fail
    go_ret
    exact ⟨by simp, And.left (by assumption)⟩
theorem tellsLaw (w : World) (m : Int) (wm : (Lit.int .i64 m).wf = true) (n : Int) (wn_ : (Lit.int .i64 n).wf = true) (af at_ : Int) (wa : (Lit.int .i64 af).wf = true) (wa' : (Lit.int .i64 at_).wf = true) (bf bt : Int) (wb : (Lit.int .i64 bf).wf = true) (wb' : (Lit.int .i64 bt).wf = true) :
    Calls Try.prog 7 #[.int .i64 m, .int .i64 n, .agg #[.int .i64 af, .int .i64 at_], .agg #[.int .i64 bf, .int .i64 bt]] w fun e w' => e = .returned (.bool true) ∧ Below w.heap.size w w' := tells_main w m n af at_ bf bt
end Go.Proofs.Ytbmdmhmdjidflaa.TimeLaws4
