/- The walk of the law TimeMeets: it returns true, and nothing that was there has turned. -/
import Derived.Test.YtbmdmhmdjidflaaTimeLaws
namespace Go.Proofs.Ytbmdmhmdjidflaa.TimeLaws3
open Go.RowKit Mem TimeWalks TimeAsked TimeRef TimeRef2 TimeRef3 TimeLaws
set_option linter.unusedVariables false

/-- Whether one lies in the other, as a truth. -/
theorem within_dec (af at_ bf bt : Int) (ha : may af at_) (hb : may bf bt) (r : Bool) (hr : r = true ↔ inside af at_ bf bt) (w : World) :
    Calls Try.prog 14 #[.agg #[.int .i64 af, .int .i64 at_], .agg #[.int .i64 bf, .int .i64 bt]] w fun e w' => e = .returned (.tuple #[.bool r, .int .i64 0]) ∧ Below w.heap.size w w' := by
  cases r with
  | true => exact within_yes af at_ bf bt ha hb (hr.1 rfl) w
  | false => exact within_no af at_ bf bt ha hb (fun h => by have := hr.2 h; cases this) w
theorem mx_le {a b : Int} (h : b ≤ a) : mx a b = a ∧ mx b a = a := by unfold mx; split <;> split <;> omega
theorem mx_lt {a b : Int} (h : a < b) : mx a b = b ∧ mx b a = b := by unfold mx; split <;> split <;> omega
theorem mn_le {a b : Int} (h : a ≤ b) : mn a b = a ∧ mn b a = a := by unfold mn; split <;> split <;> omega
theorem mn_lt {a b : Int} (h : b < a) : mn a b = b ∧ mn b a = b := by unfold mn; split <;> split <;> omega
theorem mx_sym (a b : Int) : mx b a = mx a b := by unfold mx; split <;> split <;> omega
theorem mn_sym (a b : Int) : mn b a = mn a b := by unfold mn; split <;> split <;> omega
theorem both_facts {af at_ bf bt : Int} (ha : may af at_) (hb : may bf bt) (hh : meets af at_ bf bt) :
    may (mx af bf) (mn at_ bt) ∧ inside (mx af bf) (mn at_ bt) af at_ ∧ inside (mx af bf) (mn at_ bt) bf bt := by
  unfold may meets inside mx mn at *
  split <;> split <;> omega
theorem both_in (af at_ bf bt cf ct : Int) : inside cf ct (mx af bf) (mn at_ bt) ↔ (inside cf ct af at_ ∧ inside cf ct bf bt) := by
  unfold inside mx mn
  split <;> split <;> omega
set_option maxRecDepth 100000 in
set_option maxHeartbeats 8000000 in
theorem meets_bad (w : World) (af at_ bf bt cf ct : Int) (hab : ¬ (may af at_ ∧ may bf bt)) :
    Calls Try.prog 5 #[.agg #[.int .i64 af, .int .i64 at_], .agg #[.int .i64 bf, .int .i64 bt], .agg #[.int .i64 cf, .int .i64 ct]] w fun e w' => e = .returned (.bool true) ∧ Below w.heap.size w w' := by
  have hba : ¬ (may bf bt ∧ may af at_) := fun h => hab ⟨h.2, h.1⟩
  have HAB := Lib.hid hab
  have HBA := Lib.hid hba
  clear hab hba
  go_enter Try.func5, Try.ntmps5
  go_wp2_with fail
  refine (alive_any _).mono ?_
  rintro e w1 ⟨rfl, hB1⟩
  have HB1 : Hid (Below w.heap.size w w1) := below_up (below_alloc (below_alloc (below_alloc (Below.refl _ _)))) hB1
  have c1_0 : w1.cell? ⟨w.heap.size, 0, none⟩ = some (.int .i64 af) := keep_cell (cell_over _ (cell_over _ (box0 w _ _ 0))) hB1
  have c1_1 : w1.cell? ⟨w.heap.size, 1, none⟩ = some (.int .i64 at_) := keep_cell (cell_over _ (cell_over _ (box0 w _ _ 1))) hB1
  have c1_2 : w1.cell? ⟨w.heap.size + 1, 0, none⟩ = some (.int .i64 bf) := keep_cell (cell_over _ (box1 w _ _ 0)) hB1
  have c1_3 : w1.cell? ⟨w.heap.size + 1, 1, none⟩ = some (.int .i64 bt) := keep_cell (cell_over _ (box1 w _ _ 1)) hB1
  have c1_4 : w1.cell? ⟨w.heap.size + 1 + 1, 0, none⟩ = some (.int .i64 cf) := keep_cell (box2 w _ _ 0) hB1
  have c1_5 : w1.cell? ⟨w.heap.size + 1 + 1, 1, none⟩ = some (.int .i64 ct) := keep_cell (box2 w _ _ 1) hB1
  have z1_0 : w.heap.size < w1.heap.size := cell_lt c1_0
  have z1_1 : w.heap.size + 1 < w1.heap.size := cell_lt c1_2
  have z1_2 : w.heap.size + 1 + 1 < w1.heap.size := cell_lt c1_4
  clear hB1  
  go_wp2_with fail
  refine (meet_bad af at_ bf bt HAB.out _).mono ?_
  rintro e w2 ⟨rfl, hB2⟩
  have HB2 : Hid (Below w.heap.size w w2) := below_up HB1.out hB2
  have c2_0 : w2.cell? ⟨w.heap.size, 0, none⟩ = some (.int .i64 af) := keep_cell c1_0 hB2
  have c2_1 : w2.cell? ⟨w.heap.size, 1, none⟩ = some (.int .i64 at_) := keep_cell c1_1 hB2
  have c2_2 : w2.cell? ⟨w.heap.size + 1, 0, none⟩ = some (.int .i64 bf) := keep_cell c1_2 hB2
  have c2_3 : w2.cell? ⟨w.heap.size + 1, 1, none⟩ = some (.int .i64 bt) := keep_cell c1_3 hB2
  have c2_4 : w2.cell? ⟨w.heap.size + 1 + 1, 0, none⟩ = some (.int .i64 cf) := keep_cell c1_4 hB2
  have c2_5 : w2.cell? ⟨w.heap.size + 1 + 1, 1, none⟩ = some (.int .i64 ct) := keep_cell c1_5 hB2
  have z2_0 : w.heap.size < w2.heap.size := cell_lt c2_0
  have z2_1 : w.heap.size + 1 < w2.heap.size := cell_lt c2_2
  have z2_2 : w.heap.size + 1 + 1 < w2.heap.size := cell_lt c2_4
  clear hB2 c1_0 c1_1 c1_2 c1_3 c1_4 c1_5 z1_0 z1_1 z1_2
  go_wp2_with fail
  refine (meet_bad bf bt af at_ HBA.out _).mono ?_
  rintro e w3 ⟨rfl, hB3⟩
  have HB3 : Hid (Below w.heap.size w w3) := below_up HB2.out hB3
  have c3_0 : w3.cell? ⟨w.heap.size, 0, none⟩ = some (.int .i64 af) := keep_cell c2_0 hB3
  have c3_1 : w3.cell? ⟨w.heap.size, 1, none⟩ = some (.int .i64 at_) := keep_cell c2_1 hB3
  have c3_2 : w3.cell? ⟨w.heap.size + 1, 0, none⟩ = some (.int .i64 bf) := keep_cell c2_2 hB3
  have c3_3 : w3.cell? ⟨w.heap.size + 1, 1, none⟩ = some (.int .i64 bt) := keep_cell c2_3 hB3
  have c3_4 : w3.cell? ⟨w.heap.size + 1 + 1, 0, none⟩ = some (.int .i64 cf) := keep_cell c2_4 hB3
  have c3_5 : w3.cell? ⟨w.heap.size + 1 + 1, 1, none⟩ = some (.int .i64 ct) := keep_cell c2_5 hB3
  have z3_0 : w.heap.size < w3.heap.size := cell_lt c3_0
  have z3_1 : w.heap.size + 1 < w3.heap.size := cell_lt c3_2
  have z3_2 : w.heap.size + 1 + 1 < w3.heap.size := cell_lt c3_4
  clear hB3 c2_0 c2_1 c2_2 c2_3 c2_4 c2_5 z2_0 z2_1 z2_2
  go_wp2_with fail
  go_ret
  exact ⟨rfl, HB3.out⟩
set_option maxRecDepth 100000 in
set_option maxHeartbeats 8000000 in
theorem meets_no_n (w : World) (af at_ bf bt cf ct : Int) (ha : may af at_) (hb : may bf bt) (hh : ¬ meets af at_ bf bt) (i : Bool) (hi : i = false) (hc : ¬ may cf ct) :
    Calls Try.prog 5 #[.agg #[.int .i64 af, .int .i64 at_], .agg #[.int .i64 bf, .int .i64 bt], .agg #[.int .i64 cf, .int .i64 ct]] w fun e w' => e = .returned (.bool true) ∧ Below w.heap.size w w' := by
  subst hi
  have hh2 : ¬ meets bf bt af at_ := by unfold meets at *; omega
  have hin : ¬ inside af at_ bf bt := fun h => by unfold may meets inside at *; omega
  have HA := Lib.hid ha
  have HB := Lib.hid hb
  have HC := Lib.hid hc
  have HH := Lib.hid hh
  have HH2 := Lib.hid hh2
  have HIN := Lib.hid hin
  clear ha hb hc hh hh2 hin
  go_enter Try.func5, Try.ntmps5
  go_wp2_with fail
  refine (alive_any _).mono ?_
  rintro e w1 ⟨rfl, hB1⟩
  have HB1 : Hid (Below w.heap.size w w1) := below_up (below_alloc (below_alloc (below_alloc (Below.refl _ _)))) hB1
  have c1_0 : w1.cell? ⟨w.heap.size, 0, none⟩ = some (.int .i64 af) := keep_cell (cell_over _ (cell_over _ (box0 w _ _ 0))) hB1
  have c1_1 : w1.cell? ⟨w.heap.size, 1, none⟩ = some (.int .i64 at_) := keep_cell (cell_over _ (cell_over _ (box0 w _ _ 1))) hB1
  have c1_2 : w1.cell? ⟨w.heap.size + 1, 0, none⟩ = some (.int .i64 bf) := keep_cell (cell_over _ (box1 w _ _ 0)) hB1
  have c1_3 : w1.cell? ⟨w.heap.size + 1, 1, none⟩ = some (.int .i64 bt) := keep_cell (cell_over _ (box1 w _ _ 1)) hB1
  have c1_4 : w1.cell? ⟨w.heap.size + 1 + 1, 0, none⟩ = some (.int .i64 cf) := keep_cell (box2 w _ _ 0) hB1
  have c1_5 : w1.cell? ⟨w.heap.size + 1 + 1, 1, none⟩ = some (.int .i64 ct) := keep_cell (box2 w _ _ 1) hB1
  have z1_0 : w.heap.size < w1.heap.size := cell_lt c1_0
  have z1_1 : w.heap.size + 1 < w1.heap.size := cell_lt c1_2
  have z1_2 : w.heap.size + 1 + 1 < w1.heap.size := cell_lt c1_4
  clear hB1  
  go_wp2_with fail
  refine (meet_no af at_ bf bt HA.out HB.out HH.out _).mono ?_
  rintro e w2 ⟨rfl, hB2⟩
  have HB2 : Hid (Below w.heap.size w w2) := below_up HB1.out hB2
  have c2_0 : w2.cell? ⟨w.heap.size, 0, none⟩ = some (.int .i64 af) := keep_cell c1_0 hB2
  have c2_1 : w2.cell? ⟨w.heap.size, 1, none⟩ = some (.int .i64 at_) := keep_cell c1_1 hB2
  have c2_2 : w2.cell? ⟨w.heap.size + 1, 0, none⟩ = some (.int .i64 bf) := keep_cell c1_2 hB2
  have c2_3 : w2.cell? ⟨w.heap.size + 1, 1, none⟩ = some (.int .i64 bt) := keep_cell c1_3 hB2
  have c2_4 : w2.cell? ⟨w.heap.size + 1 + 1, 0, none⟩ = some (.int .i64 cf) := keep_cell c1_4 hB2
  have c2_5 : w2.cell? ⟨w.heap.size + 1 + 1, 1, none⟩ = some (.int .i64 ct) := keep_cell c1_5 hB2
  have z2_0 : w.heap.size < w2.heap.size := cell_lt c2_0
  have z2_1 : w.heap.size + 1 < w2.heap.size := cell_lt c2_2
  have z2_2 : w.heap.size + 1 + 1 < w2.heap.size := cell_lt c2_4
  clear hB2 c1_0 c1_1 c1_2 c1_3 c1_4 c1_5 z1_0 z1_1 z1_2
  go_wp2_with fail
  refine (meet_no bf bt af at_ HB.out HA.out HH2.out _).mono ?_
  rintro e w3 ⟨rfl, hB3⟩
  have HB3 : Hid (Below w.heap.size w w3) := below_up HB2.out hB3
  have c3_0 : w3.cell? ⟨w.heap.size, 0, none⟩ = some (.int .i64 af) := keep_cell c2_0 hB3
  have c3_1 : w3.cell? ⟨w.heap.size, 1, none⟩ = some (.int .i64 at_) := keep_cell c2_1 hB3
  have c3_2 : w3.cell? ⟨w.heap.size + 1, 0, none⟩ = some (.int .i64 bf) := keep_cell c2_2 hB3
  have c3_3 : w3.cell? ⟨w.heap.size + 1, 1, none⟩ = some (.int .i64 bt) := keep_cell c2_3 hB3
  have c3_4 : w3.cell? ⟨w.heap.size + 1 + 1, 0, none⟩ = some (.int .i64 cf) := keep_cell c2_4 hB3
  have c3_5 : w3.cell? ⟨w.heap.size + 1 + 1, 1, none⟩ = some (.int .i64 ct) := keep_cell c2_5 hB3
  have z3_0 : w.heap.size < w3.heap.size := cell_lt c3_0
  have z3_1 : w.heap.size + 1 < w3.heap.size := cell_lt c3_2
  have z3_2 : w.heap.size + 1 + 1 < w3.heap.size := cell_lt c3_4
  clear hB3 c2_0 c2_1 c2_2 c2_3 c2_4 c2_5 z2_0 z2_1 z2_2
  go_wp2_with fail
  refine (both_none af at_ bf bt HA.out HB.out HH.out _).mono ?_
  rintro e w4 ⟨rfl, hB4⟩
  have HB4 : Hid (Below w.heap.size w w4) := below_up HB3.out hB4
  have c4_0 : w4.cell? ⟨w.heap.size, 0, none⟩ = some (.int .i64 af) := keep_cell c3_0 hB4
  have c4_1 : w4.cell? ⟨w.heap.size, 1, none⟩ = some (.int .i64 at_) := keep_cell c3_1 hB4
  have c4_2 : w4.cell? ⟨w.heap.size + 1, 0, none⟩ = some (.int .i64 bf) := keep_cell c3_2 hB4
  have c4_3 : w4.cell? ⟨w.heap.size + 1, 1, none⟩ = some (.int .i64 bt) := keep_cell c3_3 hB4
  have c4_4 : w4.cell? ⟨w.heap.size + 1 + 1, 0, none⟩ = some (.int .i64 cf) := keep_cell c3_4 hB4
  have c4_5 : w4.cell? ⟨w.heap.size + 1 + 1, 1, none⟩ = some (.int .i64 ct) := keep_cell c3_5 hB4
  have z4_0 : w.heap.size < w4.heap.size := cell_lt c4_0
  have z4_1 : w.heap.size + 1 < w4.heap.size := cell_lt c4_2
  have z4_2 : w.heap.size + 1 + 1 < w4.heap.size := cell_lt c4_4
  clear hB4 c3_0 c3_1 c3_2 c3_3 c3_4 c3_5 z3_0 z3_1 z3_2
  go_wp2_with fail
  refine (both_none bf bt af at_ HB.out HA.out HH2.out _).mono ?_
  rintro e w5 ⟨rfl, hB5⟩
  have HB5 : Hid (Below w.heap.size w w5) := below_up (below_alloc HB4.out) hB5
  have c5_0 : w5.cell? ⟨w.heap.size, 0, none⟩ = some (.int .i64 af) := keep_cell (cell_over _ c4_0) hB5
  have c5_1 : w5.cell? ⟨w.heap.size, 1, none⟩ = some (.int .i64 at_) := keep_cell (cell_over _ c4_1) hB5
  have c5_2 : w5.cell? ⟨w.heap.size + 1, 0, none⟩ = some (.int .i64 bf) := keep_cell (cell_over _ c4_2) hB5
  have c5_3 : w5.cell? ⟨w.heap.size + 1, 1, none⟩ = some (.int .i64 bt) := keep_cell (cell_over _ c4_3) hB5
  have c5_4 : w5.cell? ⟨w.heap.size + 1 + 1, 0, none⟩ = some (.int .i64 cf) := keep_cell (cell_over _ c4_4) hB5
  have c5_5 : w5.cell? ⟨w.heap.size + 1 + 1, 1, none⟩ = some (.int .i64 ct) := keep_cell (cell_over _ c4_5) hB5
  have c5_6 : w5.cell? ⟨w4.heap.size, 0, none⟩ = some (.int .i64 0) := keep_cell (box0 w4 _ _ 0) hB5
  have c5_7 : w5.cell? ⟨w4.heap.size, 1, none⟩ = some (.int .i64 0) := keep_cell (box0 w4 _ _ 1) hB5
  have z5_0 : w.heap.size < w5.heap.size := cell_lt c5_0
  have z5_1 : w.heap.size + 1 < w5.heap.size := cell_lt c5_2
  have z5_2 : w.heap.size + 1 + 1 < w5.heap.size := cell_lt c5_4
  have z5_3 : w4.heap.size < w5.heap.size := cell_lt c5_6
  clear hB5 c4_0 c4_1 c4_2 c4_3 c4_4 c4_5 z4_0 z4_1 z4_2
  go_wp2_with fail
  refine (within_no af at_ bf bt HA.out HB.out HIN.out _).mono ?_
  rintro e w6 ⟨rfl, hB6⟩
  have HB6 : Hid (Below w.heap.size w w6) := below_up (below_alloc HB5.out) hB6
  have c6_0 : w6.cell? ⟨w.heap.size, 0, none⟩ = some (.int .i64 af) := keep_cell (cell_over _ c5_0) hB6
  have c6_1 : w6.cell? ⟨w.heap.size, 1, none⟩ = some (.int .i64 at_) := keep_cell (cell_over _ c5_1) hB6
  have c6_2 : w6.cell? ⟨w.heap.size + 1, 0, none⟩ = some (.int .i64 bf) := keep_cell (cell_over _ c5_2) hB6
  have c6_3 : w6.cell? ⟨w.heap.size + 1, 1, none⟩ = some (.int .i64 bt) := keep_cell (cell_over _ c5_3) hB6
  have c6_4 : w6.cell? ⟨w.heap.size + 1 + 1, 0, none⟩ = some (.int .i64 cf) := keep_cell (cell_over _ c5_4) hB6
  have c6_5 : w6.cell? ⟨w.heap.size + 1 + 1, 1, none⟩ = some (.int .i64 ct) := keep_cell (cell_over _ c5_5) hB6
  have c6_6 : w6.cell? ⟨w4.heap.size, 0, none⟩ = some (.int .i64 0) := keep_cell (cell_over _ c5_6) hB6
  have c6_7 : w6.cell? ⟨w4.heap.size, 1, none⟩ = some (.int .i64 0) := keep_cell (cell_over _ c5_7) hB6
  have c6_8 : w6.cell? ⟨w5.heap.size, 0, none⟩ = some (.int .i64 0) := keep_cell (box0 w5 _ _ 0) hB6
  have c6_9 : w6.cell? ⟨w5.heap.size, 1, none⟩ = some (.int .i64 0) := keep_cell (box0 w5 _ _ 1) hB6
  have z6_0 : w.heap.size < w6.heap.size := cell_lt c6_0
  have z6_1 : w.heap.size + 1 < w6.heap.size := cell_lt c6_2
  have z6_2 : w.heap.size + 1 + 1 < w6.heap.size := cell_lt c6_4
  have z6_3 : w4.heap.size < w6.heap.size := cell_lt c6_6
  have z6_4 : w5.heap.size < w6.heap.size := cell_lt c6_8
  clear hB6 c5_0 c5_1 c5_2 c5_3 c5_4 c5_5 c5_6 c5_7 z5_0 z5_1 z5_2 z5_3
  go_wp2_with fail
  refine (within_bad cf ct af at_ (fun h => HC.out h.1) _).mono ?_
  rintro e w7 ⟨rfl, hB7⟩
  have HB7 : Hid (Below w.heap.size w w7) := below_up HB6.out hB7
  have c7_0 : w7.cell? ⟨w.heap.size, 0, none⟩ = some (.int .i64 af) := keep_cell c6_0 hB7
  have c7_1 : w7.cell? ⟨w.heap.size, 1, none⟩ = some (.int .i64 at_) := keep_cell c6_1 hB7
  have c7_2 : w7.cell? ⟨w.heap.size + 1, 0, none⟩ = some (.int .i64 bf) := keep_cell c6_2 hB7
  have c7_3 : w7.cell? ⟨w.heap.size + 1, 1, none⟩ = some (.int .i64 bt) := keep_cell c6_3 hB7
  have c7_4 : w7.cell? ⟨w.heap.size + 1 + 1, 0, none⟩ = some (.int .i64 cf) := keep_cell c6_4 hB7
  have c7_5 : w7.cell? ⟨w.heap.size + 1 + 1, 1, none⟩ = some (.int .i64 ct) := keep_cell c6_5 hB7
  have c7_6 : w7.cell? ⟨w4.heap.size, 0, none⟩ = some (.int .i64 0) := keep_cell c6_6 hB7
  have c7_7 : w7.cell? ⟨w4.heap.size, 1, none⟩ = some (.int .i64 0) := keep_cell c6_7 hB7
  have c7_8 : w7.cell? ⟨w5.heap.size, 0, none⟩ = some (.int .i64 0) := keep_cell c6_8 hB7
  have c7_9 : w7.cell? ⟨w5.heap.size, 1, none⟩ = some (.int .i64 0) := keep_cell c6_9 hB7
  have z7_0 : w.heap.size < w7.heap.size := cell_lt c7_0
  have z7_1 : w.heap.size + 1 < w7.heap.size := cell_lt c7_2
  have z7_2 : w.heap.size + 1 + 1 < w7.heap.size := cell_lt c7_4
  have z7_3 : w4.heap.size < w7.heap.size := cell_lt c7_6
  have z7_4 : w5.heap.size < w7.heap.size := cell_lt c7_8
  clear hB7 c6_0 c6_1 c6_2 c6_3 c6_4 c6_5 c6_6 c6_7 c6_8 c6_9 z6_0 z6_1 z6_2 z6_3 z6_4
  go_wp2_with fail
  refine (within_bad cf ct bf bt (fun h => HC.out h.1) _).mono ?_
  rintro e w8 ⟨rfl, hB8⟩
  have HB8 : Hid (Below w.heap.size w w8) := below_up HB7.out hB8
  have c8_0 : w8.cell? ⟨w.heap.size, 0, none⟩ = some (.int .i64 af) := keep_cell c7_0 hB8
  have c8_1 : w8.cell? ⟨w.heap.size, 1, none⟩ = some (.int .i64 at_) := keep_cell c7_1 hB8
  have c8_2 : w8.cell? ⟨w.heap.size + 1, 0, none⟩ = some (.int .i64 bf) := keep_cell c7_2 hB8
  have c8_3 : w8.cell? ⟨w.heap.size + 1, 1, none⟩ = some (.int .i64 bt) := keep_cell c7_3 hB8
  have c8_4 : w8.cell? ⟨w.heap.size + 1 + 1, 0, none⟩ = some (.int .i64 cf) := keep_cell c7_4 hB8
  have c8_5 : w8.cell? ⟨w.heap.size + 1 + 1, 1, none⟩ = some (.int .i64 ct) := keep_cell c7_5 hB8
  have c8_6 : w8.cell? ⟨w4.heap.size, 0, none⟩ = some (.int .i64 0) := keep_cell c7_6 hB8
  have c8_7 : w8.cell? ⟨w4.heap.size, 1, none⟩ = some (.int .i64 0) := keep_cell c7_7 hB8
  have c8_8 : w8.cell? ⟨w5.heap.size, 0, none⟩ = some (.int .i64 0) := keep_cell c7_8 hB8
  have c8_9 : w8.cell? ⟨w5.heap.size, 1, none⟩ = some (.int .i64 0) := keep_cell c7_9 hB8
  have z8_0 : w.heap.size < w8.heap.size := cell_lt c8_0
  have z8_1 : w.heap.size + 1 < w8.heap.size := cell_lt c8_2
  have z8_2 : w.heap.size + 1 + 1 < w8.heap.size := cell_lt c8_4
  have z8_3 : w4.heap.size < w8.heap.size := cell_lt c8_6
  have z8_4 : w5.heap.size < w8.heap.size := cell_lt c8_8
  clear hB8 c7_0 c7_1 c7_2 c7_3 c7_4 c7_5 c7_6 c7_7 c7_8 c7_9 z7_0 z7_1 z7_2 z7_3 z7_4
  go_wp2_with fail
  go_ret
  exact ⟨rfl, HB8.out⟩
set_option maxRecDepth 100000 in
set_option maxHeartbeats 8000000 in
theorem meets_no_y (w : World) (af at_ bf bt cf ct : Int) (ha : may af at_) (hb : may bf bt) (hh : ¬ meets af at_ bf bt) (i : Bool) (hi : i = false) (hc : may cf ct) (p q : Bool) (hp : p = true ↔ inside cf ct af at_) (hq : q = true ↔ inside cf ct bf bt) :
    Calls Try.prog 5 #[.agg #[.int .i64 af, .int .i64 at_], .agg #[.int .i64 bf, .int .i64 bt], .agg #[.int .i64 cf, .int .i64 ct]] w fun e w' => e = .returned (.bool true) ∧ Below w.heap.size w w' := by
  subst hi
  have hh2 : ¬ meets bf bt af at_ := by unfold meets at *; omega
  have hin : ¬ inside af at_ bf bt := fun h => by unfold may meets inside at *; omega
  have hpq : (p && q) = false := by
    by_cases h1 : p = true
    · by_cases h2 : q = true
      · have := hp.1 h1; have := hq.1 h2; unfold may meets inside at *; omega
      · simp [h2]
    · simp [h1]
  have HP := Lib.hid hp
  have HQ := Lib.hid hq
  clear hp hq
  have HA := Lib.hid ha
  have HB := Lib.hid hb
  have HC := Lib.hid hc
  have HH := Lib.hid hh
  have HH2 := Lib.hid hh2
  have HIN := Lib.hid hin
  clear ha hb hc hh hh2 hin
  go_enter Try.func5, Try.ntmps5
  go_wp2_with fail
  refine (alive_any _).mono ?_
  rintro e w1 ⟨rfl, hB1⟩
  have HB1 : Hid (Below w.heap.size w w1) := below_up (below_alloc (below_alloc (below_alloc (Below.refl _ _)))) hB1
  have c1_0 : w1.cell? ⟨w.heap.size, 0, none⟩ = some (.int .i64 af) := keep_cell (cell_over _ (cell_over _ (box0 w _ _ 0))) hB1
  have c1_1 : w1.cell? ⟨w.heap.size, 1, none⟩ = some (.int .i64 at_) := keep_cell (cell_over _ (cell_over _ (box0 w _ _ 1))) hB1
  have c1_2 : w1.cell? ⟨w.heap.size + 1, 0, none⟩ = some (.int .i64 bf) := keep_cell (cell_over _ (box1 w _ _ 0)) hB1
  have c1_3 : w1.cell? ⟨w.heap.size + 1, 1, none⟩ = some (.int .i64 bt) := keep_cell (cell_over _ (box1 w _ _ 1)) hB1
  have c1_4 : w1.cell? ⟨w.heap.size + 1 + 1, 0, none⟩ = some (.int .i64 cf) := keep_cell (box2 w _ _ 0) hB1
  have c1_5 : w1.cell? ⟨w.heap.size + 1 + 1, 1, none⟩ = some (.int .i64 ct) := keep_cell (box2 w _ _ 1) hB1
  have z1_0 : w.heap.size < w1.heap.size := cell_lt c1_0
  have z1_1 : w.heap.size + 1 < w1.heap.size := cell_lt c1_2
  have z1_2 : w.heap.size + 1 + 1 < w1.heap.size := cell_lt c1_4
  clear hB1  
  go_wp2_with fail
  refine (meet_no af at_ bf bt HA.out HB.out HH.out _).mono ?_
  rintro e w2 ⟨rfl, hB2⟩
  have HB2 : Hid (Below w.heap.size w w2) := below_up HB1.out hB2
  have c2_0 : w2.cell? ⟨w.heap.size, 0, none⟩ = some (.int .i64 af) := keep_cell c1_0 hB2
  have c2_1 : w2.cell? ⟨w.heap.size, 1, none⟩ = some (.int .i64 at_) := keep_cell c1_1 hB2
  have c2_2 : w2.cell? ⟨w.heap.size + 1, 0, none⟩ = some (.int .i64 bf) := keep_cell c1_2 hB2
  have c2_3 : w2.cell? ⟨w.heap.size + 1, 1, none⟩ = some (.int .i64 bt) := keep_cell c1_3 hB2
  have c2_4 : w2.cell? ⟨w.heap.size + 1 + 1, 0, none⟩ = some (.int .i64 cf) := keep_cell c1_4 hB2
  have c2_5 : w2.cell? ⟨w.heap.size + 1 + 1, 1, none⟩ = some (.int .i64 ct) := keep_cell c1_5 hB2
  have z2_0 : w.heap.size < w2.heap.size := cell_lt c2_0
  have z2_1 : w.heap.size + 1 < w2.heap.size := cell_lt c2_2
  have z2_2 : w.heap.size + 1 + 1 < w2.heap.size := cell_lt c2_4
  clear hB2 c1_0 c1_1 c1_2 c1_3 c1_4 c1_5 z1_0 z1_1 z1_2
  go_wp2_with fail
  refine (meet_no bf bt af at_ HB.out HA.out HH2.out _).mono ?_
  rintro e w3 ⟨rfl, hB3⟩
  have HB3 : Hid (Below w.heap.size w w3) := below_up HB2.out hB3
  have c3_0 : w3.cell? ⟨w.heap.size, 0, none⟩ = some (.int .i64 af) := keep_cell c2_0 hB3
  have c3_1 : w3.cell? ⟨w.heap.size, 1, none⟩ = some (.int .i64 at_) := keep_cell c2_1 hB3
  have c3_2 : w3.cell? ⟨w.heap.size + 1, 0, none⟩ = some (.int .i64 bf) := keep_cell c2_2 hB3
  have c3_3 : w3.cell? ⟨w.heap.size + 1, 1, none⟩ = some (.int .i64 bt) := keep_cell c2_3 hB3
  have c3_4 : w3.cell? ⟨w.heap.size + 1 + 1, 0, none⟩ = some (.int .i64 cf) := keep_cell c2_4 hB3
  have c3_5 : w3.cell? ⟨w.heap.size + 1 + 1, 1, none⟩ = some (.int .i64 ct) := keep_cell c2_5 hB3
  have z3_0 : w.heap.size < w3.heap.size := cell_lt c3_0
  have z3_1 : w.heap.size + 1 < w3.heap.size := cell_lt c3_2
  have z3_2 : w.heap.size + 1 + 1 < w3.heap.size := cell_lt c3_4
  clear hB3 c2_0 c2_1 c2_2 c2_3 c2_4 c2_5 z2_0 z2_1 z2_2
  go_wp2_with fail
  refine (both_none af at_ bf bt HA.out HB.out HH.out _).mono ?_
  rintro e w4 ⟨rfl, hB4⟩
  have HB4 : Hid (Below w.heap.size w w4) := below_up HB3.out hB4
  have c4_0 : w4.cell? ⟨w.heap.size, 0, none⟩ = some (.int .i64 af) := keep_cell c3_0 hB4
  have c4_1 : w4.cell? ⟨w.heap.size, 1, none⟩ = some (.int .i64 at_) := keep_cell c3_1 hB4
  have c4_2 : w4.cell? ⟨w.heap.size + 1, 0, none⟩ = some (.int .i64 bf) := keep_cell c3_2 hB4
  have c4_3 : w4.cell? ⟨w.heap.size + 1, 1, none⟩ = some (.int .i64 bt) := keep_cell c3_3 hB4
  have c4_4 : w4.cell? ⟨w.heap.size + 1 + 1, 0, none⟩ = some (.int .i64 cf) := keep_cell c3_4 hB4
  have c4_5 : w4.cell? ⟨w.heap.size + 1 + 1, 1, none⟩ = some (.int .i64 ct) := keep_cell c3_5 hB4
  have z4_0 : w.heap.size < w4.heap.size := cell_lt c4_0
  have z4_1 : w.heap.size + 1 < w4.heap.size := cell_lt c4_2
  have z4_2 : w.heap.size + 1 + 1 < w4.heap.size := cell_lt c4_4
  clear hB4 c3_0 c3_1 c3_2 c3_3 c3_4 c3_5 z3_0 z3_1 z3_2
  go_wp2_with fail
  refine (both_none bf bt af at_ HB.out HA.out HH2.out _).mono ?_
  rintro e w5 ⟨rfl, hB5⟩
  have HB5 : Hid (Below w.heap.size w w5) := below_up (below_alloc HB4.out) hB5
  have c5_0 : w5.cell? ⟨w.heap.size, 0, none⟩ = some (.int .i64 af) := keep_cell (cell_over _ c4_0) hB5
  have c5_1 : w5.cell? ⟨w.heap.size, 1, none⟩ = some (.int .i64 at_) := keep_cell (cell_over _ c4_1) hB5
  have c5_2 : w5.cell? ⟨w.heap.size + 1, 0, none⟩ = some (.int .i64 bf) := keep_cell (cell_over _ c4_2) hB5
  have c5_3 : w5.cell? ⟨w.heap.size + 1, 1, none⟩ = some (.int .i64 bt) := keep_cell (cell_over _ c4_3) hB5
  have c5_4 : w5.cell? ⟨w.heap.size + 1 + 1, 0, none⟩ = some (.int .i64 cf) := keep_cell (cell_over _ c4_4) hB5
  have c5_5 : w5.cell? ⟨w.heap.size + 1 + 1, 1, none⟩ = some (.int .i64 ct) := keep_cell (cell_over _ c4_5) hB5
  have c5_6 : w5.cell? ⟨w4.heap.size, 0, none⟩ = some (.int .i64 0) := keep_cell (box0 w4 _ _ 0) hB5
  have c5_7 : w5.cell? ⟨w4.heap.size, 1, none⟩ = some (.int .i64 0) := keep_cell (box0 w4 _ _ 1) hB5
  have z5_0 : w.heap.size < w5.heap.size := cell_lt c5_0
  have z5_1 : w.heap.size + 1 < w5.heap.size := cell_lt c5_2
  have z5_2 : w.heap.size + 1 + 1 < w5.heap.size := cell_lt c5_4
  have z5_3 : w4.heap.size < w5.heap.size := cell_lt c5_6
  clear hB5 c4_0 c4_1 c4_2 c4_3 c4_4 c4_5 z4_0 z4_1 z4_2
  go_wp2_with fail
  refine (within_no af at_ bf bt HA.out HB.out HIN.out _).mono ?_
  rintro e w6 ⟨rfl, hB6⟩
  have HB6 : Hid (Below w.heap.size w w6) := below_up (below_alloc HB5.out) hB6
  have c6_0 : w6.cell? ⟨w.heap.size, 0, none⟩ = some (.int .i64 af) := keep_cell (cell_over _ c5_0) hB6
  have c6_1 : w6.cell? ⟨w.heap.size, 1, none⟩ = some (.int .i64 at_) := keep_cell (cell_over _ c5_1) hB6
  have c6_2 : w6.cell? ⟨w.heap.size + 1, 0, none⟩ = some (.int .i64 bf) := keep_cell (cell_over _ c5_2) hB6
  have c6_3 : w6.cell? ⟨w.heap.size + 1, 1, none⟩ = some (.int .i64 bt) := keep_cell (cell_over _ c5_3) hB6
  have c6_4 : w6.cell? ⟨w.heap.size + 1 + 1, 0, none⟩ = some (.int .i64 cf) := keep_cell (cell_over _ c5_4) hB6
  have c6_5 : w6.cell? ⟨w.heap.size + 1 + 1, 1, none⟩ = some (.int .i64 ct) := keep_cell (cell_over _ c5_5) hB6
  have c6_6 : w6.cell? ⟨w4.heap.size, 0, none⟩ = some (.int .i64 0) := keep_cell (cell_over _ c5_6) hB6
  have c6_7 : w6.cell? ⟨w4.heap.size, 1, none⟩ = some (.int .i64 0) := keep_cell (cell_over _ c5_7) hB6
  have c6_8 : w6.cell? ⟨w5.heap.size, 0, none⟩ = some (.int .i64 0) := keep_cell (box0 w5 _ _ 0) hB6
  have c6_9 : w6.cell? ⟨w5.heap.size, 1, none⟩ = some (.int .i64 0) := keep_cell (box0 w5 _ _ 1) hB6
  have z6_0 : w.heap.size < w6.heap.size := cell_lt c6_0
  have z6_1 : w.heap.size + 1 < w6.heap.size := cell_lt c6_2
  have z6_2 : w.heap.size + 1 + 1 < w6.heap.size := cell_lt c6_4
  have z6_3 : w4.heap.size < w6.heap.size := cell_lt c6_6
  have z6_4 : w5.heap.size < w6.heap.size := cell_lt c6_8
  clear hB6 c5_0 c5_1 c5_2 c5_3 c5_4 c5_5 c5_6 c5_7 z5_0 z5_1 z5_2 z5_3
  go_wp2_with fail
  refine (within_dec cf ct af at_ HC.out HA.out p HP.out _).mono ?_
  rintro e w7 ⟨rfl, hB7⟩
  have HB7 : Hid (Below w.heap.size w w7) := below_up HB6.out hB7
  have c7_0 : w7.cell? ⟨w.heap.size, 0, none⟩ = some (.int .i64 af) := keep_cell c6_0 hB7
  have c7_1 : w7.cell? ⟨w.heap.size, 1, none⟩ = some (.int .i64 at_) := keep_cell c6_1 hB7
  have c7_2 : w7.cell? ⟨w.heap.size + 1, 0, none⟩ = some (.int .i64 bf) := keep_cell c6_2 hB7
  have c7_3 : w7.cell? ⟨w.heap.size + 1, 1, none⟩ = some (.int .i64 bt) := keep_cell c6_3 hB7
  have c7_4 : w7.cell? ⟨w.heap.size + 1 + 1, 0, none⟩ = some (.int .i64 cf) := keep_cell c6_4 hB7
  have c7_5 : w7.cell? ⟨w.heap.size + 1 + 1, 1, none⟩ = some (.int .i64 ct) := keep_cell c6_5 hB7
  have c7_6 : w7.cell? ⟨w4.heap.size, 0, none⟩ = some (.int .i64 0) := keep_cell c6_6 hB7
  have c7_7 : w7.cell? ⟨w4.heap.size, 1, none⟩ = some (.int .i64 0) := keep_cell c6_7 hB7
  have c7_8 : w7.cell? ⟨w5.heap.size, 0, none⟩ = some (.int .i64 0) := keep_cell c6_8 hB7
  have c7_9 : w7.cell? ⟨w5.heap.size, 1, none⟩ = some (.int .i64 0) := keep_cell c6_9 hB7
  have z7_0 : w.heap.size < w7.heap.size := cell_lt c7_0
  have z7_1 : w.heap.size + 1 < w7.heap.size := cell_lt c7_2
  have z7_2 : w.heap.size + 1 + 1 < w7.heap.size := cell_lt c7_4
  have z7_3 : w4.heap.size < w7.heap.size := cell_lt c7_6
  have z7_4 : w5.heap.size < w7.heap.size := cell_lt c7_8
  clear hB7 c6_0 c6_1 c6_2 c6_3 c6_4 c6_5 c6_6 c6_7 c6_8 c6_9 z6_0 z6_1 z6_2 z6_3 z6_4
  go_wp2_with fail
  refine (within_dec cf ct bf bt HC.out HB.out q HQ.out _).mono ?_
  rintro e w8 ⟨rfl, hB8⟩
  have HB8 : Hid (Below w.heap.size w w8) := below_up HB7.out hB8
  have c8_0 : w8.cell? ⟨w.heap.size, 0, none⟩ = some (.int .i64 af) := keep_cell c7_0 hB8
  have c8_1 : w8.cell? ⟨w.heap.size, 1, none⟩ = some (.int .i64 at_) := keep_cell c7_1 hB8
  have c8_2 : w8.cell? ⟨w.heap.size + 1, 0, none⟩ = some (.int .i64 bf) := keep_cell c7_2 hB8
  have c8_3 : w8.cell? ⟨w.heap.size + 1, 1, none⟩ = some (.int .i64 bt) := keep_cell c7_3 hB8
  have c8_4 : w8.cell? ⟨w.heap.size + 1 + 1, 0, none⟩ = some (.int .i64 cf) := keep_cell c7_4 hB8
  have c8_5 : w8.cell? ⟨w.heap.size + 1 + 1, 1, none⟩ = some (.int .i64 ct) := keep_cell c7_5 hB8
  have c8_6 : w8.cell? ⟨w4.heap.size, 0, none⟩ = some (.int .i64 0) := keep_cell c7_6 hB8
  have c8_7 : w8.cell? ⟨w4.heap.size, 1, none⟩ = some (.int .i64 0) := keep_cell c7_7 hB8
  have c8_8 : w8.cell? ⟨w5.heap.size, 0, none⟩ = some (.int .i64 0) := keep_cell c7_8 hB8
  have c8_9 : w8.cell? ⟨w5.heap.size, 1, none⟩ = some (.int .i64 0) := keep_cell c7_9 hB8
  have z8_0 : w.heap.size < w8.heap.size := cell_lt c8_0
  have z8_1 : w.heap.size + 1 < w8.heap.size := cell_lt c8_2
  have z8_2 : w.heap.size + 1 + 1 < w8.heap.size := cell_lt c8_4
  have z8_3 : w4.heap.size < w8.heap.size := cell_lt c8_6
  have z8_4 : w5.heap.size < w8.heap.size := cell_lt c8_8
  clear hB8 c7_0 c7_1 c7_2 c7_3 c7_4 c7_5 c7_6 c7_7 c7_8 c7_9 z7_0 z7_1 z7_2 z7_3 z7_4
  cases p <;> cases q <;> first | (exact absurd hpq (by decide)) | (clear hpq; go_wp2_with fail; go_ret; exact ⟨rfl, HB8.out⟩)
set_option maxRecDepth 100000 in
set_option maxHeartbeats 8000000 in
theorem meets_yes0_n (w : World) (af at_ bf bt cf ct : Int) (ha : may af at_) (hb : may bf bt) (hh : meets af at_ bf bt) (h1 : bf ≤ af) (h2 : at_ ≤ bt) (hc : ¬ may cf ct) :
    Calls Try.prog 5 #[.agg #[.int .i64 af, .int .i64 at_], .agg #[.int .i64 bf, .int .i64 bt], .agg #[.int .i64 cf, .int .i64 ct]] w fun e w' => e = .returned (.bool true) ∧ Below w.heap.size w w' := by
  have hh2 : meets bf bt af at_ := ⟨hh.2, hh.1⟩
  have hin : inside af at_ bf bt := ⟨h1, h2⟩
  obtain ⟨hs, hsa, hsb⟩ := both_facts ha hb hh
  obtain ⟨r1, r2⟩ := mx_le h1
  obtain ⟨r3, r4⟩ := mn_le h2
  rw [r1, r3] at hs hsa hsb
  have HA := Lib.hid ha
  have HB := Lib.hid hb
  have HC := Lib.hid hc
  have HH := Lib.hid hh
  have HH2 := Lib.hid hh2
  have HIN := Lib.hid hin
  have HS := Lib.hid hs
  have HSA := Lib.hid hsa
  have HSB := Lib.hid hsb
  clear ha hb hc hh hh2 hin hs hsa hsb
  go_enter Try.func5, Try.ntmps5
  go_wp2_with fail
  refine (alive_any _).mono ?_
  rintro e w1 ⟨rfl, hB1⟩
  have HB1 : Hid (Below w.heap.size w w1) := below_up (below_alloc (below_alloc (below_alloc (Below.refl _ _)))) hB1
  have c1_0 : w1.cell? ⟨w.heap.size, 0, none⟩ = some (.int .i64 af) := keep_cell (cell_over _ (cell_over _ (box0 w _ _ 0))) hB1
  have c1_1 : w1.cell? ⟨w.heap.size, 1, none⟩ = some (.int .i64 at_) := keep_cell (cell_over _ (cell_over _ (box0 w _ _ 1))) hB1
  have c1_2 : w1.cell? ⟨w.heap.size + 1, 0, none⟩ = some (.int .i64 bf) := keep_cell (cell_over _ (box1 w _ _ 0)) hB1
  have c1_3 : w1.cell? ⟨w.heap.size + 1, 1, none⟩ = some (.int .i64 bt) := keep_cell (cell_over _ (box1 w _ _ 1)) hB1
  have c1_4 : w1.cell? ⟨w.heap.size + 1 + 1, 0, none⟩ = some (.int .i64 cf) := keep_cell (box2 w _ _ 0) hB1
  have c1_5 : w1.cell? ⟨w.heap.size + 1 + 1, 1, none⟩ = some (.int .i64 ct) := keep_cell (box2 w _ _ 1) hB1
  have z1_0 : w.heap.size < w1.heap.size := cell_lt c1_0
  have z1_1 : w.heap.size + 1 < w1.heap.size := cell_lt c1_2
  have z1_2 : w.heap.size + 1 + 1 < w1.heap.size := cell_lt c1_4
  clear hB1  
  go_wp2_with fail
  refine (meet_yes af at_ bf bt HA.out HB.out HH.out _).mono ?_
  rintro e w2 ⟨rfl, hB2⟩
  have HB2 : Hid (Below w.heap.size w w2) := below_up HB1.out hB2
  have c2_0 : w2.cell? ⟨w.heap.size, 0, none⟩ = some (.int .i64 af) := keep_cell c1_0 hB2
  have c2_1 : w2.cell? ⟨w.heap.size, 1, none⟩ = some (.int .i64 at_) := keep_cell c1_1 hB2
  have c2_2 : w2.cell? ⟨w.heap.size + 1, 0, none⟩ = some (.int .i64 bf) := keep_cell c1_2 hB2
  have c2_3 : w2.cell? ⟨w.heap.size + 1, 1, none⟩ = some (.int .i64 bt) := keep_cell c1_3 hB2
  have c2_4 : w2.cell? ⟨w.heap.size + 1 + 1, 0, none⟩ = some (.int .i64 cf) := keep_cell c1_4 hB2
  have c2_5 : w2.cell? ⟨w.heap.size + 1 + 1, 1, none⟩ = some (.int .i64 ct) := keep_cell c1_5 hB2
  have z2_0 : w.heap.size < w2.heap.size := cell_lt c2_0
  have z2_1 : w.heap.size + 1 < w2.heap.size := cell_lt c2_2
  have z2_2 : w.heap.size + 1 + 1 < w2.heap.size := cell_lt c2_4
  clear hB2 c1_0 c1_1 c1_2 c1_3 c1_4 c1_5 z1_0 z1_1 z1_2
  go_wp2_with fail
  refine (meet_yes bf bt af at_ HB.out HA.out HH2.out _).mono ?_
  rintro e w3 ⟨rfl, hB3⟩
  have HB3 : Hid (Below w.heap.size w w3) := below_up HB2.out hB3
  have c3_0 : w3.cell? ⟨w.heap.size, 0, none⟩ = some (.int .i64 af) := keep_cell c2_0 hB3
  have c3_1 : w3.cell? ⟨w.heap.size, 1, none⟩ = some (.int .i64 at_) := keep_cell c2_1 hB3
  have c3_2 : w3.cell? ⟨w.heap.size + 1, 0, none⟩ = some (.int .i64 bf) := keep_cell c2_2 hB3
  have c3_3 : w3.cell? ⟨w.heap.size + 1, 1, none⟩ = some (.int .i64 bt) := keep_cell c2_3 hB3
  have c3_4 : w3.cell? ⟨w.heap.size + 1 + 1, 0, none⟩ = some (.int .i64 cf) := keep_cell c2_4 hB3
  have c3_5 : w3.cell? ⟨w.heap.size + 1 + 1, 1, none⟩ = some (.int .i64 ct) := keep_cell c2_5 hB3
  have z3_0 : w.heap.size < w3.heap.size := cell_lt c3_0
  have z3_1 : w.heap.size + 1 < w3.heap.size := cell_lt c3_2
  have z3_2 : w.heap.size + 1 + 1 < w3.heap.size := cell_lt c3_4
  clear hB3 c2_0 c2_1 c2_2 c2_3 c2_4 c2_5 z2_0 z2_1 z2_2
  go_wp2_with fail
  refine (both_yes af at_ bf bt HA.out HB.out HH.out _).mono ?_
  rintro e w4 ⟨rfl, hB4⟩
  have HB4 : Hid (Below w.heap.size w w4) := below_up HB3.out hB4
  have c4_0 : w4.cell? ⟨w.heap.size, 0, none⟩ = some (.int .i64 af) := keep_cell c3_0 hB4
  have c4_1 : w4.cell? ⟨w.heap.size, 1, none⟩ = some (.int .i64 at_) := keep_cell c3_1 hB4
  have c4_2 : w4.cell? ⟨w.heap.size + 1, 0, none⟩ = some (.int .i64 bf) := keep_cell c3_2 hB4
  have c4_3 : w4.cell? ⟨w.heap.size + 1, 1, none⟩ = some (.int .i64 bt) := keep_cell c3_3 hB4
  have c4_4 : w4.cell? ⟨w.heap.size + 1 + 1, 0, none⟩ = some (.int .i64 cf) := keep_cell c3_4 hB4
  have c4_5 : w4.cell? ⟨w.heap.size + 1 + 1, 1, none⟩ = some (.int .i64 ct) := keep_cell c3_5 hB4
  have z4_0 : w.heap.size < w4.heap.size := cell_lt c4_0
  have z4_1 : w.heap.size + 1 < w4.heap.size := cell_lt c4_2
  have z4_2 : w.heap.size + 1 + 1 < w4.heap.size := cell_lt c4_4
  clear hB4 c3_0 c3_1 c3_2 c3_3 c3_4 c3_5 z3_0 z3_1 z3_2
  go_wp2_with fail
  refine (both_yes bf bt af at_ HB.out HA.out HH2.out _).mono ?_
  rintro e w5 ⟨rfl, hB5⟩
  have HB5 : Hid (Below w.heap.size w w5) := below_up (below_alloc HB4.out) hB5
  have c5_0 : w5.cell? ⟨w.heap.size, 0, none⟩ = some (.int .i64 af) := keep_cell (cell_over _ c4_0) hB5
  have c5_1 : w5.cell? ⟨w.heap.size, 1, none⟩ = some (.int .i64 at_) := keep_cell (cell_over _ c4_1) hB5
  have c5_2 : w5.cell? ⟨w.heap.size + 1, 0, none⟩ = some (.int .i64 bf) := keep_cell (cell_over _ c4_2) hB5
  have c5_3 : w5.cell? ⟨w.heap.size + 1, 1, none⟩ = some (.int .i64 bt) := keep_cell (cell_over _ c4_3) hB5
  have c5_4 : w5.cell? ⟨w.heap.size + 1 + 1, 0, none⟩ = some (.int .i64 cf) := keep_cell (cell_over _ c4_4) hB5
  have c5_5 : w5.cell? ⟨w.heap.size + 1 + 1, 1, none⟩ = some (.int .i64 ct) := keep_cell (cell_over _ c4_5) hB5
  have c5_6 : w5.cell? ⟨w4.heap.size, 0, none⟩ = some (.int .i64 af) := keep_cell (box0 w4 _ _ 0) hB5
  have c5_7 : w5.cell? ⟨w4.heap.size, 1, none⟩ = some (.int .i64 at_) := keep_cell (box0 w4 _ _ 1) hB5
  have z5_0 : w.heap.size < w5.heap.size := cell_lt c5_0
  have z5_1 : w.heap.size + 1 < w5.heap.size := cell_lt c5_2
  have z5_2 : w.heap.size + 1 + 1 < w5.heap.size := cell_lt c5_4
  have z5_3 : w4.heap.size < w5.heap.size := cell_lt c5_6
  clear hB5 c4_0 c4_1 c4_2 c4_3 c4_4 c4_5 z4_0 z4_1 z4_2
  go_wp2_with fail
  refine (within_yes af at_ bf bt HA.out HB.out HIN.out _).mono ?_
  rintro e w6 ⟨rfl, hB6⟩
  have HB6 : Hid (Below w.heap.size w w6) := below_up (below_alloc HB5.out) hB6
  have c6_0 : w6.cell? ⟨w.heap.size, 0, none⟩ = some (.int .i64 af) := keep_cell (cell_over _ c5_0) hB6
  have c6_1 : w6.cell? ⟨w.heap.size, 1, none⟩ = some (.int .i64 at_) := keep_cell (cell_over _ c5_1) hB6
  have c6_2 : w6.cell? ⟨w.heap.size + 1, 0, none⟩ = some (.int .i64 bf) := keep_cell (cell_over _ c5_2) hB6
  have c6_3 : w6.cell? ⟨w.heap.size + 1, 1, none⟩ = some (.int .i64 bt) := keep_cell (cell_over _ c5_3) hB6
  have c6_4 : w6.cell? ⟨w.heap.size + 1 + 1, 0, none⟩ = some (.int .i64 cf) := keep_cell (cell_over _ c5_4) hB6
  have c6_5 : w6.cell? ⟨w.heap.size + 1 + 1, 1, none⟩ = some (.int .i64 ct) := keep_cell (cell_over _ c5_5) hB6
  have c6_6 : w6.cell? ⟨w4.heap.size, 0, none⟩ = some (.int .i64 af) := keep_cell (cell_over _ c5_6) hB6
  have c6_7 : w6.cell? ⟨w4.heap.size, 1, none⟩ = some (.int .i64 at_) := keep_cell (cell_over _ c5_7) hB6
  have c6_8 : w6.cell? ⟨w5.heap.size, 0, none⟩ = some (.int .i64 af) := keep_cell (box0 w5 _ _ 0) hB6
  have c6_9 : w6.cell? ⟨w5.heap.size, 1, none⟩ = some (.int .i64 at_) := keep_cell (box0 w5 _ _ 1) hB6
  have z6_0 : w.heap.size < w6.heap.size := cell_lt c6_0
  have z6_1 : w.heap.size + 1 < w6.heap.size := cell_lt c6_2
  have z6_2 : w.heap.size + 1 + 1 < w6.heap.size := cell_lt c6_4
  have z6_3 : w4.heap.size < w6.heap.size := cell_lt c6_6
  have z6_4 : w5.heap.size < w6.heap.size := cell_lt c6_8
  clear hB6 c5_0 c5_1 c5_2 c5_3 c5_4 c5_5 c5_6 c5_7 z5_0 z5_1 z5_2 z5_3
  go_wp2_with fail
  refine (within_bad cf ct af at_ (fun h => HC.out h.1) _).mono ?_
  rintro e w7 ⟨rfl, hB7⟩
  have HB7 : Hid (Below w.heap.size w w7) := below_up HB6.out hB7
  have c7_0 : w7.cell? ⟨w.heap.size, 0, none⟩ = some (.int .i64 af) := keep_cell c6_0 hB7
  have c7_1 : w7.cell? ⟨w.heap.size, 1, none⟩ = some (.int .i64 at_) := keep_cell c6_1 hB7
  have c7_2 : w7.cell? ⟨w.heap.size + 1, 0, none⟩ = some (.int .i64 bf) := keep_cell c6_2 hB7
  have c7_3 : w7.cell? ⟨w.heap.size + 1, 1, none⟩ = some (.int .i64 bt) := keep_cell c6_3 hB7
  have c7_4 : w7.cell? ⟨w.heap.size + 1 + 1, 0, none⟩ = some (.int .i64 cf) := keep_cell c6_4 hB7
  have c7_5 : w7.cell? ⟨w.heap.size + 1 + 1, 1, none⟩ = some (.int .i64 ct) := keep_cell c6_5 hB7
  have c7_6 : w7.cell? ⟨w4.heap.size, 0, none⟩ = some (.int .i64 af) := keep_cell c6_6 hB7
  have c7_7 : w7.cell? ⟨w4.heap.size, 1, none⟩ = some (.int .i64 at_) := keep_cell c6_7 hB7
  have c7_8 : w7.cell? ⟨w5.heap.size, 0, none⟩ = some (.int .i64 af) := keep_cell c6_8 hB7
  have c7_9 : w7.cell? ⟨w5.heap.size, 1, none⟩ = some (.int .i64 at_) := keep_cell c6_9 hB7
  have z7_0 : w.heap.size < w7.heap.size := cell_lt c7_0
  have z7_1 : w.heap.size + 1 < w7.heap.size := cell_lt c7_2
  have z7_2 : w.heap.size + 1 + 1 < w7.heap.size := cell_lt c7_4
  have z7_3 : w4.heap.size < w7.heap.size := cell_lt c7_6
  have z7_4 : w5.heap.size < w7.heap.size := cell_lt c7_8
  clear hB7 c6_0 c6_1 c6_2 c6_3 c6_4 c6_5 c6_6 c6_7 c6_8 c6_9 z6_0 z6_1 z6_2 z6_3 z6_4
  go_wp2_with fail
  refine (within_bad cf ct bf bt (fun h => HC.out h.1) _).mono ?_
  rintro e w8 ⟨rfl, hB8⟩
  have HB8 : Hid (Below w.heap.size w w8) := below_up HB7.out hB8
  have c8_0 : w8.cell? ⟨w.heap.size, 0, none⟩ = some (.int .i64 af) := keep_cell c7_0 hB8
  have c8_1 : w8.cell? ⟨w.heap.size, 1, none⟩ = some (.int .i64 at_) := keep_cell c7_1 hB8
  have c8_2 : w8.cell? ⟨w.heap.size + 1, 0, none⟩ = some (.int .i64 bf) := keep_cell c7_2 hB8
  have c8_3 : w8.cell? ⟨w.heap.size + 1, 1, none⟩ = some (.int .i64 bt) := keep_cell c7_3 hB8
  have c8_4 : w8.cell? ⟨w.heap.size + 1 + 1, 0, none⟩ = some (.int .i64 cf) := keep_cell c7_4 hB8
  have c8_5 : w8.cell? ⟨w.heap.size + 1 + 1, 1, none⟩ = some (.int .i64 ct) := keep_cell c7_5 hB8
  have c8_6 : w8.cell? ⟨w4.heap.size, 0, none⟩ = some (.int .i64 af) := keep_cell c7_6 hB8
  have c8_7 : w8.cell? ⟨w4.heap.size, 1, none⟩ = some (.int .i64 at_) := keep_cell c7_7 hB8
  have c8_8 : w8.cell? ⟨w5.heap.size, 0, none⟩ = some (.int .i64 af) := keep_cell c7_8 hB8
  have c8_9 : w8.cell? ⟨w5.heap.size, 1, none⟩ = some (.int .i64 at_) := keep_cell c7_9 hB8
  have z8_0 : w.heap.size < w8.heap.size := cell_lt c8_0
  have z8_1 : w.heap.size + 1 < w8.heap.size := cell_lt c8_2
  have z8_2 : w.heap.size + 1 + 1 < w8.heap.size := cell_lt c8_4
  have z8_3 : w4.heap.size < w8.heap.size := cell_lt c8_6
  have z8_4 : w5.heap.size < w8.heap.size := cell_lt c8_8
  clear hB8 c7_0 c7_1 c7_2 c7_3 c7_4 c7_5 c7_6 c7_7 c7_8 c7_9 z7_0 z7_1 z7_2 z7_3 z7_4
  go_wp2_with fail
  go_ret
  exact ⟨rfl, HB8.out⟩
set_option maxRecDepth 100000 in
set_option maxHeartbeats 8000000 in
theorem meets_yes0_y (w : World) (af at_ bf bt cf ct : Int) (ha : may af at_) (hb : may bf bt) (hh : meets af at_ bf bt) (h1 : bf ≤ af) (h2 : at_ ≤ bt) (hc : may cf ct) (p q : Bool) (hp : p = true ↔ inside cf ct af at_) (hq : q = true ↔ inside cf ct bf bt) :
    Calls Try.prog 5 #[.agg #[.int .i64 af, .int .i64 at_], .agg #[.int .i64 bf, .int .i64 bt], .agg #[.int .i64 cf, .int .i64 ct]] w fun e w' => e = .returned (.bool true) ∧ Below w.heap.size w w' := by
  have hh2 : meets bf bt af at_ := ⟨hh.2, hh.1⟩
  have hin : inside af at_ bf bt := ⟨h1, h2⟩
  obtain ⟨hs, hsa, hsb⟩ := both_facts ha hb hh
  have hr : (p && q) = true ↔ inside cf ct (mx af bf) (mn at_ bt) := by rw [both_in, Bool.and_eq_true, hp, hq]
  have HP := Lib.hid hp
  have HQ := Lib.hid hq
  clear hp hq
  obtain ⟨r1, r2⟩ := mx_le h1
  obtain ⟨r3, r4⟩ := mn_le h2
  rw [r1, r3] at hs hsa hsb hr
  have HA := Lib.hid ha
  have HB := Lib.hid hb
  have HC := Lib.hid hc
  have HH := Lib.hid hh
  have HH2 := Lib.hid hh2
  have HIN := Lib.hid hin
  have HS := Lib.hid hs
  have HSA := Lib.hid hsa
  have HSB := Lib.hid hsb
  have HR := Lib.hid hr
  clear ha hb hc hh hh2 hin hs hsa hsb hr
  go_enter Try.func5, Try.ntmps5
  go_wp2_with fail
  refine (alive_any _).mono ?_
  rintro e w1 ⟨rfl, hB1⟩
  have HB1 : Hid (Below w.heap.size w w1) := below_up (below_alloc (below_alloc (below_alloc (Below.refl _ _)))) hB1
  have c1_0 : w1.cell? ⟨w.heap.size, 0, none⟩ = some (.int .i64 af) := keep_cell (cell_over _ (cell_over _ (box0 w _ _ 0))) hB1
  have c1_1 : w1.cell? ⟨w.heap.size, 1, none⟩ = some (.int .i64 at_) := keep_cell (cell_over _ (cell_over _ (box0 w _ _ 1))) hB1
  have c1_2 : w1.cell? ⟨w.heap.size + 1, 0, none⟩ = some (.int .i64 bf) := keep_cell (cell_over _ (box1 w _ _ 0)) hB1
  have c1_3 : w1.cell? ⟨w.heap.size + 1, 1, none⟩ = some (.int .i64 bt) := keep_cell (cell_over _ (box1 w _ _ 1)) hB1
  have c1_4 : w1.cell? ⟨w.heap.size + 1 + 1, 0, none⟩ = some (.int .i64 cf) := keep_cell (box2 w _ _ 0) hB1
  have c1_5 : w1.cell? ⟨w.heap.size + 1 + 1, 1, none⟩ = some (.int .i64 ct) := keep_cell (box2 w _ _ 1) hB1
  have z1_0 : w.heap.size < w1.heap.size := cell_lt c1_0
  have z1_1 : w.heap.size + 1 < w1.heap.size := cell_lt c1_2
  have z1_2 : w.heap.size + 1 + 1 < w1.heap.size := cell_lt c1_4
  clear hB1  
  go_wp2_with fail
  refine (meet_yes af at_ bf bt HA.out HB.out HH.out _).mono ?_
  rintro e w2 ⟨rfl, hB2⟩
  have HB2 : Hid (Below w.heap.size w w2) := below_up HB1.out hB2
  have c2_0 : w2.cell? ⟨w.heap.size, 0, none⟩ = some (.int .i64 af) := keep_cell c1_0 hB2
  have c2_1 : w2.cell? ⟨w.heap.size, 1, none⟩ = some (.int .i64 at_) := keep_cell c1_1 hB2
  have c2_2 : w2.cell? ⟨w.heap.size + 1, 0, none⟩ = some (.int .i64 bf) := keep_cell c1_2 hB2
  have c2_3 : w2.cell? ⟨w.heap.size + 1, 1, none⟩ = some (.int .i64 bt) := keep_cell c1_3 hB2
  have c2_4 : w2.cell? ⟨w.heap.size + 1 + 1, 0, none⟩ = some (.int .i64 cf) := keep_cell c1_4 hB2
  have c2_5 : w2.cell? ⟨w.heap.size + 1 + 1, 1, none⟩ = some (.int .i64 ct) := keep_cell c1_5 hB2
  have z2_0 : w.heap.size < w2.heap.size := cell_lt c2_0
  have z2_1 : w.heap.size + 1 < w2.heap.size := cell_lt c2_2
  have z2_2 : w.heap.size + 1 + 1 < w2.heap.size := cell_lt c2_4
  clear hB2 c1_0 c1_1 c1_2 c1_3 c1_4 c1_5 z1_0 z1_1 z1_2
  go_wp2_with fail
  refine (meet_yes bf bt af at_ HB.out HA.out HH2.out _).mono ?_
  rintro e w3 ⟨rfl, hB3⟩
  have HB3 : Hid (Below w.heap.size w w3) := below_up HB2.out hB3
  have c3_0 : w3.cell? ⟨w.heap.size, 0, none⟩ = some (.int .i64 af) := keep_cell c2_0 hB3
  have c3_1 : w3.cell? ⟨w.heap.size, 1, none⟩ = some (.int .i64 at_) := keep_cell c2_1 hB3
  have c3_2 : w3.cell? ⟨w.heap.size + 1, 0, none⟩ = some (.int .i64 bf) := keep_cell c2_2 hB3
  have c3_3 : w3.cell? ⟨w.heap.size + 1, 1, none⟩ = some (.int .i64 bt) := keep_cell c2_3 hB3
  have c3_4 : w3.cell? ⟨w.heap.size + 1 + 1, 0, none⟩ = some (.int .i64 cf) := keep_cell c2_4 hB3
  have c3_5 : w3.cell? ⟨w.heap.size + 1 + 1, 1, none⟩ = some (.int .i64 ct) := keep_cell c2_5 hB3
  have z3_0 : w.heap.size < w3.heap.size := cell_lt c3_0
  have z3_1 : w.heap.size + 1 < w3.heap.size := cell_lt c3_2
  have z3_2 : w.heap.size + 1 + 1 < w3.heap.size := cell_lt c3_4
  clear hB3 c2_0 c2_1 c2_2 c2_3 c2_4 c2_5 z2_0 z2_1 z2_2
  go_wp2_with fail
  refine (both_yes af at_ bf bt HA.out HB.out HH.out _).mono ?_
  rintro e w4 ⟨rfl, hB4⟩
  have HB4 : Hid (Below w.heap.size w w4) := below_up HB3.out hB4
  have c4_0 : w4.cell? ⟨w.heap.size, 0, none⟩ = some (.int .i64 af) := keep_cell c3_0 hB4
  have c4_1 : w4.cell? ⟨w.heap.size, 1, none⟩ = some (.int .i64 at_) := keep_cell c3_1 hB4
  have c4_2 : w4.cell? ⟨w.heap.size + 1, 0, none⟩ = some (.int .i64 bf) := keep_cell c3_2 hB4
  have c4_3 : w4.cell? ⟨w.heap.size + 1, 1, none⟩ = some (.int .i64 bt) := keep_cell c3_3 hB4
  have c4_4 : w4.cell? ⟨w.heap.size + 1 + 1, 0, none⟩ = some (.int .i64 cf) := keep_cell c3_4 hB4
  have c4_5 : w4.cell? ⟨w.heap.size + 1 + 1, 1, none⟩ = some (.int .i64 ct) := keep_cell c3_5 hB4
  have z4_0 : w.heap.size < w4.heap.size := cell_lt c4_0
  have z4_1 : w.heap.size + 1 < w4.heap.size := cell_lt c4_2
  have z4_2 : w.heap.size + 1 + 1 < w4.heap.size := cell_lt c4_4
  clear hB4 c3_0 c3_1 c3_2 c3_3 c3_4 c3_5 z3_0 z3_1 z3_2
  go_wp2_with fail
  refine (both_yes bf bt af at_ HB.out HA.out HH2.out _).mono ?_
  rintro e w5 ⟨rfl, hB5⟩
  have HB5 : Hid (Below w.heap.size w w5) := below_up (below_alloc HB4.out) hB5
  have c5_0 : w5.cell? ⟨w.heap.size, 0, none⟩ = some (.int .i64 af) := keep_cell (cell_over _ c4_0) hB5
  have c5_1 : w5.cell? ⟨w.heap.size, 1, none⟩ = some (.int .i64 at_) := keep_cell (cell_over _ c4_1) hB5
  have c5_2 : w5.cell? ⟨w.heap.size + 1, 0, none⟩ = some (.int .i64 bf) := keep_cell (cell_over _ c4_2) hB5
  have c5_3 : w5.cell? ⟨w.heap.size + 1, 1, none⟩ = some (.int .i64 bt) := keep_cell (cell_over _ c4_3) hB5
  have c5_4 : w5.cell? ⟨w.heap.size + 1 + 1, 0, none⟩ = some (.int .i64 cf) := keep_cell (cell_over _ c4_4) hB5
  have c5_5 : w5.cell? ⟨w.heap.size + 1 + 1, 1, none⟩ = some (.int .i64 ct) := keep_cell (cell_over _ c4_5) hB5
  have c5_6 : w5.cell? ⟨w4.heap.size, 0, none⟩ = some (.int .i64 af) := keep_cell (box0 w4 _ _ 0) hB5
  have c5_7 : w5.cell? ⟨w4.heap.size, 1, none⟩ = some (.int .i64 at_) := keep_cell (box0 w4 _ _ 1) hB5
  have z5_0 : w.heap.size < w5.heap.size := cell_lt c5_0
  have z5_1 : w.heap.size + 1 < w5.heap.size := cell_lt c5_2
  have z5_2 : w.heap.size + 1 + 1 < w5.heap.size := cell_lt c5_4
  have z5_3 : w4.heap.size < w5.heap.size := cell_lt c5_6
  clear hB5 c4_0 c4_1 c4_2 c4_3 c4_4 c4_5 z4_0 z4_1 z4_2
  go_wp2_with fail
  refine (within_yes af at_ bf bt HA.out HB.out HIN.out _).mono ?_
  rintro e w6 ⟨rfl, hB6⟩
  have HB6 : Hid (Below w.heap.size w w6) := below_up (below_alloc HB5.out) hB6
  have c6_0 : w6.cell? ⟨w.heap.size, 0, none⟩ = some (.int .i64 af) := keep_cell (cell_over _ c5_0) hB6
  have c6_1 : w6.cell? ⟨w.heap.size, 1, none⟩ = some (.int .i64 at_) := keep_cell (cell_over _ c5_1) hB6
  have c6_2 : w6.cell? ⟨w.heap.size + 1, 0, none⟩ = some (.int .i64 bf) := keep_cell (cell_over _ c5_2) hB6
  have c6_3 : w6.cell? ⟨w.heap.size + 1, 1, none⟩ = some (.int .i64 bt) := keep_cell (cell_over _ c5_3) hB6
  have c6_4 : w6.cell? ⟨w.heap.size + 1 + 1, 0, none⟩ = some (.int .i64 cf) := keep_cell (cell_over _ c5_4) hB6
  have c6_5 : w6.cell? ⟨w.heap.size + 1 + 1, 1, none⟩ = some (.int .i64 ct) := keep_cell (cell_over _ c5_5) hB6
  have c6_6 : w6.cell? ⟨w4.heap.size, 0, none⟩ = some (.int .i64 af) := keep_cell (cell_over _ c5_6) hB6
  have c6_7 : w6.cell? ⟨w4.heap.size, 1, none⟩ = some (.int .i64 at_) := keep_cell (cell_over _ c5_7) hB6
  have c6_8 : w6.cell? ⟨w5.heap.size, 0, none⟩ = some (.int .i64 af) := keep_cell (box0 w5 _ _ 0) hB6
  have c6_9 : w6.cell? ⟨w5.heap.size, 1, none⟩ = some (.int .i64 at_) := keep_cell (box0 w5 _ _ 1) hB6
  have z6_0 : w.heap.size < w6.heap.size := cell_lt c6_0
  have z6_1 : w.heap.size + 1 < w6.heap.size := cell_lt c6_2
  have z6_2 : w.heap.size + 1 + 1 < w6.heap.size := cell_lt c6_4
  have z6_3 : w4.heap.size < w6.heap.size := cell_lt c6_6
  have z6_4 : w5.heap.size < w6.heap.size := cell_lt c6_8
  clear hB6 c5_0 c5_1 c5_2 c5_3 c5_4 c5_5 c5_6 c5_7 z5_0 z5_1 z5_2 z5_3
  go_wp2_with fail
  refine (within_dec cf ct af at_ HC.out HA.out p HP.out _).mono ?_
  rintro e w7 ⟨rfl, hB7⟩
  have HB7 : Hid (Below w.heap.size w w7) := below_up HB6.out hB7
  have c7_0 : w7.cell? ⟨w.heap.size, 0, none⟩ = some (.int .i64 af) := keep_cell c6_0 hB7
  have c7_1 : w7.cell? ⟨w.heap.size, 1, none⟩ = some (.int .i64 at_) := keep_cell c6_1 hB7
  have c7_2 : w7.cell? ⟨w.heap.size + 1, 0, none⟩ = some (.int .i64 bf) := keep_cell c6_2 hB7
  have c7_3 : w7.cell? ⟨w.heap.size + 1, 1, none⟩ = some (.int .i64 bt) := keep_cell c6_3 hB7
  have c7_4 : w7.cell? ⟨w.heap.size + 1 + 1, 0, none⟩ = some (.int .i64 cf) := keep_cell c6_4 hB7
  have c7_5 : w7.cell? ⟨w.heap.size + 1 + 1, 1, none⟩ = some (.int .i64 ct) := keep_cell c6_5 hB7
  have c7_6 : w7.cell? ⟨w4.heap.size, 0, none⟩ = some (.int .i64 af) := keep_cell c6_6 hB7
  have c7_7 : w7.cell? ⟨w4.heap.size, 1, none⟩ = some (.int .i64 at_) := keep_cell c6_7 hB7
  have c7_8 : w7.cell? ⟨w5.heap.size, 0, none⟩ = some (.int .i64 af) := keep_cell c6_8 hB7
  have c7_9 : w7.cell? ⟨w5.heap.size, 1, none⟩ = some (.int .i64 at_) := keep_cell c6_9 hB7
  have z7_0 : w.heap.size < w7.heap.size := cell_lt c7_0
  have z7_1 : w.heap.size + 1 < w7.heap.size := cell_lt c7_2
  have z7_2 : w.heap.size + 1 + 1 < w7.heap.size := cell_lt c7_4
  have z7_3 : w4.heap.size < w7.heap.size := cell_lt c7_6
  have z7_4 : w5.heap.size < w7.heap.size := cell_lt c7_8
  clear hB7 c6_0 c6_1 c6_2 c6_3 c6_4 c6_5 c6_6 c6_7 c6_8 c6_9 z6_0 z6_1 z6_2 z6_3 z6_4
  go_wp2_with fail
  refine (within_dec cf ct bf bt HC.out HB.out q HQ.out _).mono ?_
  rintro e w8 ⟨rfl, hB8⟩
  have HB8 : Hid (Below w.heap.size w w8) := below_up HB7.out hB8
  have c8_0 : w8.cell? ⟨w.heap.size, 0, none⟩ = some (.int .i64 af) := keep_cell c7_0 hB8
  have c8_1 : w8.cell? ⟨w.heap.size, 1, none⟩ = some (.int .i64 at_) := keep_cell c7_1 hB8
  have c8_2 : w8.cell? ⟨w.heap.size + 1, 0, none⟩ = some (.int .i64 bf) := keep_cell c7_2 hB8
  have c8_3 : w8.cell? ⟨w.heap.size + 1, 1, none⟩ = some (.int .i64 bt) := keep_cell c7_3 hB8
  have c8_4 : w8.cell? ⟨w.heap.size + 1 + 1, 0, none⟩ = some (.int .i64 cf) := keep_cell c7_4 hB8
  have c8_5 : w8.cell? ⟨w.heap.size + 1 + 1, 1, none⟩ = some (.int .i64 ct) := keep_cell c7_5 hB8
  have c8_6 : w8.cell? ⟨w4.heap.size, 0, none⟩ = some (.int .i64 af) := keep_cell c7_6 hB8
  have c8_7 : w8.cell? ⟨w4.heap.size, 1, none⟩ = some (.int .i64 at_) := keep_cell c7_7 hB8
  have c8_8 : w8.cell? ⟨w5.heap.size, 0, none⟩ = some (.int .i64 af) := keep_cell c7_8 hB8
  have c8_9 : w8.cell? ⟨w5.heap.size, 1, none⟩ = some (.int .i64 at_) := keep_cell c7_9 hB8
  have z8_0 : w.heap.size < w8.heap.size := cell_lt c8_0
  have z8_1 : w.heap.size + 1 < w8.heap.size := cell_lt c8_2
  have z8_2 : w.heap.size + 1 + 1 < w8.heap.size := cell_lt c8_4
  have z8_3 : w4.heap.size < w8.heap.size := cell_lt c8_6
  have z8_4 : w5.heap.size < w8.heap.size := cell_lt c8_8
  clear hB8 c7_0 c7_1 c7_2 c7_3 c7_4 c7_5 c7_6 c7_7 c7_8 c7_9 z7_0 z7_1 z7_2 z7_3 z7_4
  go_wp2_with fail
  refine (within_dec cf ct af at_ HC.out HS.out (p && q) HR.out _).mono ?_
  rintro e w9 ⟨rfl, hB9⟩
  have HB9 : Hid (Below w.heap.size w w9) := below_up HB8.out hB9
  have c9_0 : w9.cell? ⟨w.heap.size, 0, none⟩ = some (.int .i64 af) := keep_cell c8_0 hB9
  have c9_1 : w9.cell? ⟨w.heap.size, 1, none⟩ = some (.int .i64 at_) := keep_cell c8_1 hB9
  have c9_2 : w9.cell? ⟨w.heap.size + 1, 0, none⟩ = some (.int .i64 bf) := keep_cell c8_2 hB9
  have c9_3 : w9.cell? ⟨w.heap.size + 1, 1, none⟩ = some (.int .i64 bt) := keep_cell c8_3 hB9
  have c9_4 : w9.cell? ⟨w.heap.size + 1 + 1, 0, none⟩ = some (.int .i64 cf) := keep_cell c8_4 hB9
  have c9_5 : w9.cell? ⟨w.heap.size + 1 + 1, 1, none⟩ = some (.int .i64 ct) := keep_cell c8_5 hB9
  have c9_6 : w9.cell? ⟨w4.heap.size, 0, none⟩ = some (.int .i64 af) := keep_cell c8_6 hB9
  have c9_7 : w9.cell? ⟨w4.heap.size, 1, none⟩ = some (.int .i64 at_) := keep_cell c8_7 hB9
  have c9_8 : w9.cell? ⟨w5.heap.size, 0, none⟩ = some (.int .i64 af) := keep_cell c8_8 hB9
  have c9_9 : w9.cell? ⟨w5.heap.size, 1, none⟩ = some (.int .i64 at_) := keep_cell c8_9 hB9
  have z9_0 : w.heap.size < w9.heap.size := cell_lt c9_0
  have z9_1 : w.heap.size + 1 < w9.heap.size := cell_lt c9_2
  have z9_2 : w.heap.size + 1 + 1 < w9.heap.size := cell_lt c9_4
  have z9_3 : w4.heap.size < w9.heap.size := cell_lt c9_6
  have z9_4 : w5.heap.size < w9.heap.size := cell_lt c9_8
  clear hB9 c8_0 c8_1 c8_2 c8_3 c8_4 c8_5 c8_6 c8_7 c8_8 c8_9 z8_0 z8_1 z8_2 z8_3 z8_4
  go_wp2_with fail
  refine (within_yes af at_ af at_ HS.out HA.out HSA.out _).mono ?_
  rintro e w10 ⟨rfl, hB10⟩
  have HB10 : Hid (Below w.heap.size w w10) := below_up HB9.out hB10
  have c10_0 : w10.cell? ⟨w.heap.size, 0, none⟩ = some (.int .i64 af) := keep_cell c9_0 hB10
  have c10_1 : w10.cell? ⟨w.heap.size, 1, none⟩ = some (.int .i64 at_) := keep_cell c9_1 hB10
  have c10_2 : w10.cell? ⟨w.heap.size + 1, 0, none⟩ = some (.int .i64 bf) := keep_cell c9_2 hB10
  have c10_3 : w10.cell? ⟨w.heap.size + 1, 1, none⟩ = some (.int .i64 bt) := keep_cell c9_3 hB10
  have c10_4 : w10.cell? ⟨w.heap.size + 1 + 1, 0, none⟩ = some (.int .i64 cf) := keep_cell c9_4 hB10
  have c10_5 : w10.cell? ⟨w.heap.size + 1 + 1, 1, none⟩ = some (.int .i64 ct) := keep_cell c9_5 hB10
  have c10_6 : w10.cell? ⟨w4.heap.size, 0, none⟩ = some (.int .i64 af) := keep_cell c9_6 hB10
  have c10_7 : w10.cell? ⟨w4.heap.size, 1, none⟩ = some (.int .i64 at_) := keep_cell c9_7 hB10
  have c10_8 : w10.cell? ⟨w5.heap.size, 0, none⟩ = some (.int .i64 af) := keep_cell c9_8 hB10
  have c10_9 : w10.cell? ⟨w5.heap.size, 1, none⟩ = some (.int .i64 at_) := keep_cell c9_9 hB10
  have z10_0 : w.heap.size < w10.heap.size := cell_lt c10_0
  have z10_1 : w.heap.size + 1 < w10.heap.size := cell_lt c10_2
  have z10_2 : w.heap.size + 1 + 1 < w10.heap.size := cell_lt c10_4
  have z10_3 : w4.heap.size < w10.heap.size := cell_lt c10_6
  have z10_4 : w5.heap.size < w10.heap.size := cell_lt c10_8
  clear hB10 c9_0 c9_1 c9_2 c9_3 c9_4 c9_5 c9_6 c9_7 c9_8 c9_9 z9_0 z9_1 z9_2 z9_3 z9_4
  go_wp2_with fail
  refine (within_yes af at_ bf bt HS.out HB.out HSB.out _).mono ?_
  rintro e w11 ⟨rfl, hB11⟩
  have HB11 : Hid (Below w.heap.size w w11) := below_up HB10.out hB11
  have c11_0 : w11.cell? ⟨w.heap.size, 0, none⟩ = some (.int .i64 af) := keep_cell c10_0 hB11
  have c11_1 : w11.cell? ⟨w.heap.size, 1, none⟩ = some (.int .i64 at_) := keep_cell c10_1 hB11
  have c11_2 : w11.cell? ⟨w.heap.size + 1, 0, none⟩ = some (.int .i64 bf) := keep_cell c10_2 hB11
  have c11_3 : w11.cell? ⟨w.heap.size + 1, 1, none⟩ = some (.int .i64 bt) := keep_cell c10_3 hB11
  have c11_4 : w11.cell? ⟨w.heap.size + 1 + 1, 0, none⟩ = some (.int .i64 cf) := keep_cell c10_4 hB11
  have c11_5 : w11.cell? ⟨w.heap.size + 1 + 1, 1, none⟩ = some (.int .i64 ct) := keep_cell c10_5 hB11
  have c11_6 : w11.cell? ⟨w4.heap.size, 0, none⟩ = some (.int .i64 af) := keep_cell c10_6 hB11
  have c11_7 : w11.cell? ⟨w4.heap.size, 1, none⟩ = some (.int .i64 at_) := keep_cell c10_7 hB11
  have c11_8 : w11.cell? ⟨w5.heap.size, 0, none⟩ = some (.int .i64 af) := keep_cell c10_8 hB11
  have c11_9 : w11.cell? ⟨w5.heap.size, 1, none⟩ = some (.int .i64 at_) := keep_cell c10_9 hB11
  have z11_0 : w.heap.size < w11.heap.size := cell_lt c11_0
  have z11_1 : w.heap.size + 1 < w11.heap.size := cell_lt c11_2
  have z11_2 : w.heap.size + 1 + 1 < w11.heap.size := cell_lt c11_4
  have z11_3 : w4.heap.size < w11.heap.size := cell_lt c11_6
  have z11_4 : w5.heap.size < w11.heap.size := cell_lt c11_8
  clear hB11 c10_0 c10_1 c10_2 c10_3 c10_4 c10_5 c10_6 c10_7 c10_8 c10_9 z10_0 z10_1 z10_2 z10_3 z10_4
  cases p <;> cases q <;> (go_wp2_with fail; go_ret; exact ⟨rfl, HB11.out⟩)
set_option maxRecDepth 100000 in
set_option maxHeartbeats 8000000 in
theorem meets_yes1_n (w : World) (af at_ bf bt cf ct : Int) (ha : may af at_) (hb : may bf bt) (hh : meets af at_ bf bt) (h1 : af < bf) (hc : ¬ may cf ct) :
    Calls Try.prog 5 #[.agg #[.int .i64 af, .int .i64 at_], .agg #[.int .i64 bf, .int .i64 bt], .agg #[.int .i64 cf, .int .i64 ct]] w fun e w' => e = .returned (.bool true) ∧ Below w.heap.size w w' := by
  have hh2 : meets bf bt af at_ := ⟨hh.2, hh.1⟩
  have hin : ¬ inside af at_ bf bt := by unfold inside; omega
  obtain ⟨hs, hsa, hsb⟩ := both_facts ha hb hh
  obtain ⟨r1, r2⟩ := mx_lt h1
  have r4 := mn_sym at_ bt
  rw [r1] at hs hsa hsb
  have HA := Lib.hid ha
  have HB := Lib.hid hb
  have HC := Lib.hid hc
  have HH := Lib.hid hh
  have HH2 := Lib.hid hh2
  have HIN := Lib.hid hin
  have HS := Lib.hid hs
  have HSA := Lib.hid hsa
  have HSB := Lib.hid hsb
  clear ha hb hc hh hh2 hin hs hsa hsb
  go_enter Try.func5, Try.ntmps5
  go_wp2_with fail
  refine (alive_any _).mono ?_
  rintro e w1 ⟨rfl, hB1⟩
  have HB1 : Hid (Below w.heap.size w w1) := below_up (below_alloc (below_alloc (below_alloc (Below.refl _ _)))) hB1
  have c1_0 : w1.cell? ⟨w.heap.size, 0, none⟩ = some (.int .i64 af) := keep_cell (cell_over _ (cell_over _ (box0 w _ _ 0))) hB1
  have c1_1 : w1.cell? ⟨w.heap.size, 1, none⟩ = some (.int .i64 at_) := keep_cell (cell_over _ (cell_over _ (box0 w _ _ 1))) hB1
  have c1_2 : w1.cell? ⟨w.heap.size + 1, 0, none⟩ = some (.int .i64 bf) := keep_cell (cell_over _ (box1 w _ _ 0)) hB1
  have c1_3 : w1.cell? ⟨w.heap.size + 1, 1, none⟩ = some (.int .i64 bt) := keep_cell (cell_over _ (box1 w _ _ 1)) hB1
  have c1_4 : w1.cell? ⟨w.heap.size + 1 + 1, 0, none⟩ = some (.int .i64 cf) := keep_cell (box2 w _ _ 0) hB1
  have c1_5 : w1.cell? ⟨w.heap.size + 1 + 1, 1, none⟩ = some (.int .i64 ct) := keep_cell (box2 w _ _ 1) hB1
  have z1_0 : w.heap.size < w1.heap.size := cell_lt c1_0
  have z1_1 : w.heap.size + 1 < w1.heap.size := cell_lt c1_2
  have z1_2 : w.heap.size + 1 + 1 < w1.heap.size := cell_lt c1_4
  clear hB1  
  go_wp2_with fail
  refine (meet_yes af at_ bf bt HA.out HB.out HH.out _).mono ?_
  rintro e w2 ⟨rfl, hB2⟩
  have HB2 : Hid (Below w.heap.size w w2) := below_up HB1.out hB2
  have c2_0 : w2.cell? ⟨w.heap.size, 0, none⟩ = some (.int .i64 af) := keep_cell c1_0 hB2
  have c2_1 : w2.cell? ⟨w.heap.size, 1, none⟩ = some (.int .i64 at_) := keep_cell c1_1 hB2
  have c2_2 : w2.cell? ⟨w.heap.size + 1, 0, none⟩ = some (.int .i64 bf) := keep_cell c1_2 hB2
  have c2_3 : w2.cell? ⟨w.heap.size + 1, 1, none⟩ = some (.int .i64 bt) := keep_cell c1_3 hB2
  have c2_4 : w2.cell? ⟨w.heap.size + 1 + 1, 0, none⟩ = some (.int .i64 cf) := keep_cell c1_4 hB2
  have c2_5 : w2.cell? ⟨w.heap.size + 1 + 1, 1, none⟩ = some (.int .i64 ct) := keep_cell c1_5 hB2
  have z2_0 : w.heap.size < w2.heap.size := cell_lt c2_0
  have z2_1 : w.heap.size + 1 < w2.heap.size := cell_lt c2_2
  have z2_2 : w.heap.size + 1 + 1 < w2.heap.size := cell_lt c2_4
  clear hB2 c1_0 c1_1 c1_2 c1_3 c1_4 c1_5 z1_0 z1_1 z1_2
  go_wp2_with fail
  refine (meet_yes bf bt af at_ HB.out HA.out HH2.out _).mono ?_
  rintro e w3 ⟨rfl, hB3⟩
  have HB3 : Hid (Below w.heap.size w w3) := below_up HB2.out hB3
  have c3_0 : w3.cell? ⟨w.heap.size, 0, none⟩ = some (.int .i64 af) := keep_cell c2_0 hB3
  have c3_1 : w3.cell? ⟨w.heap.size, 1, none⟩ = some (.int .i64 at_) := keep_cell c2_1 hB3
  have c3_2 : w3.cell? ⟨w.heap.size + 1, 0, none⟩ = some (.int .i64 bf) := keep_cell c2_2 hB3
  have c3_3 : w3.cell? ⟨w.heap.size + 1, 1, none⟩ = some (.int .i64 bt) := keep_cell c2_3 hB3
  have c3_4 : w3.cell? ⟨w.heap.size + 1 + 1, 0, none⟩ = some (.int .i64 cf) := keep_cell c2_4 hB3
  have c3_5 : w3.cell? ⟨w.heap.size + 1 + 1, 1, none⟩ = some (.int .i64 ct) := keep_cell c2_5 hB3
  have z3_0 : w.heap.size < w3.heap.size := cell_lt c3_0
  have z3_1 : w.heap.size + 1 < w3.heap.size := cell_lt c3_2
  have z3_2 : w.heap.size + 1 + 1 < w3.heap.size := cell_lt c3_4
  clear hB3 c2_0 c2_1 c2_2 c2_3 c2_4 c2_5 z2_0 z2_1 z2_2
  go_wp2_with fail
  refine (both_yes af at_ bf bt HA.out HB.out HH.out _).mono ?_
  rintro e w4 ⟨rfl, hB4⟩
  have HB4 : Hid (Below w.heap.size w w4) := below_up HB3.out hB4
  have c4_0 : w4.cell? ⟨w.heap.size, 0, none⟩ = some (.int .i64 af) := keep_cell c3_0 hB4
  have c4_1 : w4.cell? ⟨w.heap.size, 1, none⟩ = some (.int .i64 at_) := keep_cell c3_1 hB4
  have c4_2 : w4.cell? ⟨w.heap.size + 1, 0, none⟩ = some (.int .i64 bf) := keep_cell c3_2 hB4
  have c4_3 : w4.cell? ⟨w.heap.size + 1, 1, none⟩ = some (.int .i64 bt) := keep_cell c3_3 hB4
  have c4_4 : w4.cell? ⟨w.heap.size + 1 + 1, 0, none⟩ = some (.int .i64 cf) := keep_cell c3_4 hB4
  have c4_5 : w4.cell? ⟨w.heap.size + 1 + 1, 1, none⟩ = some (.int .i64 ct) := keep_cell c3_5 hB4
  have z4_0 : w.heap.size < w4.heap.size := cell_lt c4_0
  have z4_1 : w.heap.size + 1 < w4.heap.size := cell_lt c4_2
  have z4_2 : w.heap.size + 1 + 1 < w4.heap.size := cell_lt c4_4
  clear hB4 c3_0 c3_1 c3_2 c3_3 c3_4 c3_5 z3_0 z3_1 z3_2
  go_wp2_with fail
  refine (both_yes bf bt af at_ HB.out HA.out HH2.out _).mono ?_
  rintro e w5 ⟨rfl, hB5⟩
  have HB5 : Hid (Below w.heap.size w w5) := below_up (below_alloc HB4.out) hB5
  have c5_0 : w5.cell? ⟨w.heap.size, 0, none⟩ = some (.int .i64 af) := keep_cell (cell_over _ c4_0) hB5
  have c5_1 : w5.cell? ⟨w.heap.size, 1, none⟩ = some (.int .i64 at_) := keep_cell (cell_over _ c4_1) hB5
  have c5_2 : w5.cell? ⟨w.heap.size + 1, 0, none⟩ = some (.int .i64 bf) := keep_cell (cell_over _ c4_2) hB5
  have c5_3 : w5.cell? ⟨w.heap.size + 1, 1, none⟩ = some (.int .i64 bt) := keep_cell (cell_over _ c4_3) hB5
  have c5_4 : w5.cell? ⟨w.heap.size + 1 + 1, 0, none⟩ = some (.int .i64 cf) := keep_cell (cell_over _ c4_4) hB5
  have c5_5 : w5.cell? ⟨w.heap.size + 1 + 1, 1, none⟩ = some (.int .i64 ct) := keep_cell (cell_over _ c4_5) hB5
  have c5_6 : w5.cell? ⟨w4.heap.size, 0, none⟩ = some (.int .i64 bf) := keep_cell (box0 w4 _ _ 0) hB5
  have c5_7 : w5.cell? ⟨w4.heap.size, 1, none⟩ = some (.int .i64 (mn at_ bt)) := keep_cell (box0 w4 _ _ 1) hB5
  have z5_0 : w.heap.size < w5.heap.size := cell_lt c5_0
  have z5_1 : w.heap.size + 1 < w5.heap.size := cell_lt c5_2
  have z5_2 : w.heap.size + 1 + 1 < w5.heap.size := cell_lt c5_4
  have z5_3 : w4.heap.size < w5.heap.size := cell_lt c5_6
  clear hB5 c4_0 c4_1 c4_2 c4_3 c4_4 c4_5 z4_0 z4_1 z4_2
  go_wp2_with fail
  refine (within_no af at_ bf bt HA.out HB.out HIN.out _).mono ?_
  rintro e w6 ⟨rfl, hB6⟩
  have HB6 : Hid (Below w.heap.size w w6) := below_up (below_alloc HB5.out) hB6
  have c6_0 : w6.cell? ⟨w.heap.size, 0, none⟩ = some (.int .i64 af) := keep_cell (cell_over _ c5_0) hB6
  have c6_1 : w6.cell? ⟨w.heap.size, 1, none⟩ = some (.int .i64 at_) := keep_cell (cell_over _ c5_1) hB6
  have c6_2 : w6.cell? ⟨w.heap.size + 1, 0, none⟩ = some (.int .i64 bf) := keep_cell (cell_over _ c5_2) hB6
  have c6_3 : w6.cell? ⟨w.heap.size + 1, 1, none⟩ = some (.int .i64 bt) := keep_cell (cell_over _ c5_3) hB6
  have c6_4 : w6.cell? ⟨w.heap.size + 1 + 1, 0, none⟩ = some (.int .i64 cf) := keep_cell (cell_over _ c5_4) hB6
  have c6_5 : w6.cell? ⟨w.heap.size + 1 + 1, 1, none⟩ = some (.int .i64 ct) := keep_cell (cell_over _ c5_5) hB6
  have c6_6 : w6.cell? ⟨w4.heap.size, 0, none⟩ = some (.int .i64 bf) := keep_cell (cell_over _ c5_6) hB6
  have c6_7 : w6.cell? ⟨w4.heap.size, 1, none⟩ = some (.int .i64 (mn at_ bt)) := keep_cell (cell_over _ c5_7) hB6
  have c6_8 : w6.cell? ⟨w5.heap.size, 0, none⟩ = some (.int .i64 bf) := keep_cell (box0 w5 _ _ 0) hB6
  have c6_9 : w6.cell? ⟨w5.heap.size, 1, none⟩ = some (.int .i64 (mn at_ bt)) := keep_cell (box0 w5 _ _ 1) hB6
  have z6_0 : w.heap.size < w6.heap.size := cell_lt c6_0
  have z6_1 : w.heap.size + 1 < w6.heap.size := cell_lt c6_2
  have z6_2 : w.heap.size + 1 + 1 < w6.heap.size := cell_lt c6_4
  have z6_3 : w4.heap.size < w6.heap.size := cell_lt c6_6
  have z6_4 : w5.heap.size < w6.heap.size := cell_lt c6_8
  clear hB6 c5_0 c5_1 c5_2 c5_3 c5_4 c5_5 c5_6 c5_7 z5_0 z5_1 z5_2 z5_3
  go_wp2_with fail
  refine (within_bad cf ct af at_ (fun h => HC.out h.1) _).mono ?_
  rintro e w7 ⟨rfl, hB7⟩
  have HB7 : Hid (Below w.heap.size w w7) := below_up HB6.out hB7
  have c7_0 : w7.cell? ⟨w.heap.size, 0, none⟩ = some (.int .i64 af) := keep_cell c6_0 hB7
  have c7_1 : w7.cell? ⟨w.heap.size, 1, none⟩ = some (.int .i64 at_) := keep_cell c6_1 hB7
  have c7_2 : w7.cell? ⟨w.heap.size + 1, 0, none⟩ = some (.int .i64 bf) := keep_cell c6_2 hB7
  have c7_3 : w7.cell? ⟨w.heap.size + 1, 1, none⟩ = some (.int .i64 bt) := keep_cell c6_3 hB7
  have c7_4 : w7.cell? ⟨w.heap.size + 1 + 1, 0, none⟩ = some (.int .i64 cf) := keep_cell c6_4 hB7
  have c7_5 : w7.cell? ⟨w.heap.size + 1 + 1, 1, none⟩ = some (.int .i64 ct) := keep_cell c6_5 hB7
  have c7_6 : w7.cell? ⟨w4.heap.size, 0, none⟩ = some (.int .i64 bf) := keep_cell c6_6 hB7
  have c7_7 : w7.cell? ⟨w4.heap.size, 1, none⟩ = some (.int .i64 (mn at_ bt)) := keep_cell c6_7 hB7
  have c7_8 : w7.cell? ⟨w5.heap.size, 0, none⟩ = some (.int .i64 bf) := keep_cell c6_8 hB7
  have c7_9 : w7.cell? ⟨w5.heap.size, 1, none⟩ = some (.int .i64 (mn at_ bt)) := keep_cell c6_9 hB7
  have z7_0 : w.heap.size < w7.heap.size := cell_lt c7_0
  have z7_1 : w.heap.size + 1 < w7.heap.size := cell_lt c7_2
  have z7_2 : w.heap.size + 1 + 1 < w7.heap.size := cell_lt c7_4
  have z7_3 : w4.heap.size < w7.heap.size := cell_lt c7_6
  have z7_4 : w5.heap.size < w7.heap.size := cell_lt c7_8
  clear hB7 c6_0 c6_1 c6_2 c6_3 c6_4 c6_5 c6_6 c6_7 c6_8 c6_9 z6_0 z6_1 z6_2 z6_3 z6_4
  go_wp2_with fail
  refine (within_bad cf ct bf bt (fun h => HC.out h.1) _).mono ?_
  rintro e w8 ⟨rfl, hB8⟩
  have HB8 : Hid (Below w.heap.size w w8) := below_up HB7.out hB8
  have c8_0 : w8.cell? ⟨w.heap.size, 0, none⟩ = some (.int .i64 af) := keep_cell c7_0 hB8
  have c8_1 : w8.cell? ⟨w.heap.size, 1, none⟩ = some (.int .i64 at_) := keep_cell c7_1 hB8
  have c8_2 : w8.cell? ⟨w.heap.size + 1, 0, none⟩ = some (.int .i64 bf) := keep_cell c7_2 hB8
  have c8_3 : w8.cell? ⟨w.heap.size + 1, 1, none⟩ = some (.int .i64 bt) := keep_cell c7_3 hB8
  have c8_4 : w8.cell? ⟨w.heap.size + 1 + 1, 0, none⟩ = some (.int .i64 cf) := keep_cell c7_4 hB8
  have c8_5 : w8.cell? ⟨w.heap.size + 1 + 1, 1, none⟩ = some (.int .i64 ct) := keep_cell c7_5 hB8
  have c8_6 : w8.cell? ⟨w4.heap.size, 0, none⟩ = some (.int .i64 bf) := keep_cell c7_6 hB8
  have c8_7 : w8.cell? ⟨w4.heap.size, 1, none⟩ = some (.int .i64 (mn at_ bt)) := keep_cell c7_7 hB8
  have c8_8 : w8.cell? ⟨w5.heap.size, 0, none⟩ = some (.int .i64 bf) := keep_cell c7_8 hB8
  have c8_9 : w8.cell? ⟨w5.heap.size, 1, none⟩ = some (.int .i64 (mn at_ bt)) := keep_cell c7_9 hB8
  have z8_0 : w.heap.size < w8.heap.size := cell_lt c8_0
  have z8_1 : w.heap.size + 1 < w8.heap.size := cell_lt c8_2
  have z8_2 : w.heap.size + 1 + 1 < w8.heap.size := cell_lt c8_4
  have z8_3 : w4.heap.size < w8.heap.size := cell_lt c8_6
  have z8_4 : w5.heap.size < w8.heap.size := cell_lt c8_8
  clear hB8 c7_0 c7_1 c7_2 c7_3 c7_4 c7_5 c7_6 c7_7 c7_8 c7_9 z7_0 z7_1 z7_2 z7_3 z7_4
  go_wp2_with fail
  go_ret
  exact ⟨rfl, HB8.out⟩
set_option maxRecDepth 100000 in
set_option maxHeartbeats 8000000 in
theorem meets_yes1_y (w : World) (af at_ bf bt cf ct : Int) (ha : may af at_) (hb : may bf bt) (hh : meets af at_ bf bt) (h1 : af < bf) (hc : may cf ct) (p q : Bool) (hp : p = true ↔ inside cf ct af at_) (hq : q = true ↔ inside cf ct bf bt) :
    Calls Try.prog 5 #[.agg #[.int .i64 af, .int .i64 at_], .agg #[.int .i64 bf, .int .i64 bt], .agg #[.int .i64 cf, .int .i64 ct]] w fun e w' => e = .returned (.bool true) ∧ Below w.heap.size w w' := by
  have hh2 : meets bf bt af at_ := ⟨hh.2, hh.1⟩
  have hin : ¬ inside af at_ bf bt := by unfold inside; omega
  obtain ⟨hs, hsa, hsb⟩ := both_facts ha hb hh
  have hr : (p && q) = true ↔ inside cf ct (mx af bf) (mn at_ bt) := by rw [both_in, Bool.and_eq_true, hp, hq]
  have HP := Lib.hid hp
  have HQ := Lib.hid hq
  clear hp hq
  obtain ⟨r1, r2⟩ := mx_lt h1
  have r4 := mn_sym at_ bt
  rw [r1] at hs hsa hsb hr
  have HA := Lib.hid ha
  have HB := Lib.hid hb
  have HC := Lib.hid hc
  have HH := Lib.hid hh
  have HH2 := Lib.hid hh2
  have HIN := Lib.hid hin
  have HS := Lib.hid hs
  have HSA := Lib.hid hsa
  have HSB := Lib.hid hsb
  have HR := Lib.hid hr
  clear ha hb hc hh hh2 hin hs hsa hsb hr
  go_enter Try.func5, Try.ntmps5
  go_wp2_with fail
  refine (alive_any _).mono ?_
  rintro e w1 ⟨rfl, hB1⟩
  have HB1 : Hid (Below w.heap.size w w1) := below_up (below_alloc (below_alloc (below_alloc (Below.refl _ _)))) hB1
  have c1_0 : w1.cell? ⟨w.heap.size, 0, none⟩ = some (.int .i64 af) := keep_cell (cell_over _ (cell_over _ (box0 w _ _ 0))) hB1
  have c1_1 : w1.cell? ⟨w.heap.size, 1, none⟩ = some (.int .i64 at_) := keep_cell (cell_over _ (cell_over _ (box0 w _ _ 1))) hB1
  have c1_2 : w1.cell? ⟨w.heap.size + 1, 0, none⟩ = some (.int .i64 bf) := keep_cell (cell_over _ (box1 w _ _ 0)) hB1
  have c1_3 : w1.cell? ⟨w.heap.size + 1, 1, none⟩ = some (.int .i64 bt) := keep_cell (cell_over _ (box1 w _ _ 1)) hB1
  have c1_4 : w1.cell? ⟨w.heap.size + 1 + 1, 0, none⟩ = some (.int .i64 cf) := keep_cell (box2 w _ _ 0) hB1
  have c1_5 : w1.cell? ⟨w.heap.size + 1 + 1, 1, none⟩ = some (.int .i64 ct) := keep_cell (box2 w _ _ 1) hB1
  have z1_0 : w.heap.size < w1.heap.size := cell_lt c1_0
  have z1_1 : w.heap.size + 1 < w1.heap.size := cell_lt c1_2
  have z1_2 : w.heap.size + 1 + 1 < w1.heap.size := cell_lt c1_4
  clear hB1  
  go_wp2_with fail
  refine (meet_yes af at_ bf bt HA.out HB.out HH.out _).mono ?_
  rintro e w2 ⟨rfl, hB2⟩
  have HB2 : Hid (Below w.heap.size w w2) := below_up HB1.out hB2
  have c2_0 : w2.cell? ⟨w.heap.size, 0, none⟩ = some (.int .i64 af) := keep_cell c1_0 hB2
  have c2_1 : w2.cell? ⟨w.heap.size, 1, none⟩ = some (.int .i64 at_) := keep_cell c1_1 hB2
  have c2_2 : w2.cell? ⟨w.heap.size + 1, 0, none⟩ = some (.int .i64 bf) := keep_cell c1_2 hB2
  have c2_3 : w2.cell? ⟨w.heap.size + 1, 1, none⟩ = some (.int .i64 bt) := keep_cell c1_3 hB2
  have c2_4 : w2.cell? ⟨w.heap.size + 1 + 1, 0, none⟩ = some (.int .i64 cf) := keep_cell c1_4 hB2
  have c2_5 : w2.cell? ⟨w.heap.size + 1 + 1, 1, none⟩ = some (.int .i64 ct) := keep_cell c1_5 hB2
  have z2_0 : w.heap.size < w2.heap.size := cell_lt c2_0
  have z2_1 : w.heap.size + 1 < w2.heap.size := cell_lt c2_2
  have z2_2 : w.heap.size + 1 + 1 < w2.heap.size := cell_lt c2_4
  clear hB2 c1_0 c1_1 c1_2 c1_3 c1_4 c1_5 z1_0 z1_1 z1_2
  go_wp2_with fail
  refine (meet_yes bf bt af at_ HB.out HA.out HH2.out _).mono ?_
  rintro e w3 ⟨rfl, hB3⟩
  have HB3 : Hid (Below w.heap.size w w3) := below_up HB2.out hB3
  have c3_0 : w3.cell? ⟨w.heap.size, 0, none⟩ = some (.int .i64 af) := keep_cell c2_0 hB3
  have c3_1 : w3.cell? ⟨w.heap.size, 1, none⟩ = some (.int .i64 at_) := keep_cell c2_1 hB3
  have c3_2 : w3.cell? ⟨w.heap.size + 1, 0, none⟩ = some (.int .i64 bf) := keep_cell c2_2 hB3
  have c3_3 : w3.cell? ⟨w.heap.size + 1, 1, none⟩ = some (.int .i64 bt) := keep_cell c2_3 hB3
  have c3_4 : w3.cell? ⟨w.heap.size + 1 + 1, 0, none⟩ = some (.int .i64 cf) := keep_cell c2_4 hB3
  have c3_5 : w3.cell? ⟨w.heap.size + 1 + 1, 1, none⟩ = some (.int .i64 ct) := keep_cell c2_5 hB3
  have z3_0 : w.heap.size < w3.heap.size := cell_lt c3_0
  have z3_1 : w.heap.size + 1 < w3.heap.size := cell_lt c3_2
  have z3_2 : w.heap.size + 1 + 1 < w3.heap.size := cell_lt c3_4
  clear hB3 c2_0 c2_1 c2_2 c2_3 c2_4 c2_5 z2_0 z2_1 z2_2
  go_wp2_with fail
  refine (both_yes af at_ bf bt HA.out HB.out HH.out _).mono ?_
  rintro e w4 ⟨rfl, hB4⟩
  have HB4 : Hid (Below w.heap.size w w4) := below_up HB3.out hB4
  have c4_0 : w4.cell? ⟨w.heap.size, 0, none⟩ = some (.int .i64 af) := keep_cell c3_0 hB4
  have c4_1 : w4.cell? ⟨w.heap.size, 1, none⟩ = some (.int .i64 at_) := keep_cell c3_1 hB4
  have c4_2 : w4.cell? ⟨w.heap.size + 1, 0, none⟩ = some (.int .i64 bf) := keep_cell c3_2 hB4
  have c4_3 : w4.cell? ⟨w.heap.size + 1, 1, none⟩ = some (.int .i64 bt) := keep_cell c3_3 hB4
  have c4_4 : w4.cell? ⟨w.heap.size + 1 + 1, 0, none⟩ = some (.int .i64 cf) := keep_cell c3_4 hB4
  have c4_5 : w4.cell? ⟨w.heap.size + 1 + 1, 1, none⟩ = some (.int .i64 ct) := keep_cell c3_5 hB4
  have z4_0 : w.heap.size < w4.heap.size := cell_lt c4_0
  have z4_1 : w.heap.size + 1 < w4.heap.size := cell_lt c4_2
  have z4_2 : w.heap.size + 1 + 1 < w4.heap.size := cell_lt c4_4
  clear hB4 c3_0 c3_1 c3_2 c3_3 c3_4 c3_5 z3_0 z3_1 z3_2
  go_wp2_with fail
  refine (both_yes bf bt af at_ HB.out HA.out HH2.out _).mono ?_
  rintro e w5 ⟨rfl, hB5⟩
  have HB5 : Hid (Below w.heap.size w w5) := below_up (below_alloc HB4.out) hB5
  have c5_0 : w5.cell? ⟨w.heap.size, 0, none⟩ = some (.int .i64 af) := keep_cell (cell_over _ c4_0) hB5
  have c5_1 : w5.cell? ⟨w.heap.size, 1, none⟩ = some (.int .i64 at_) := keep_cell (cell_over _ c4_1) hB5
  have c5_2 : w5.cell? ⟨w.heap.size + 1, 0, none⟩ = some (.int .i64 bf) := keep_cell (cell_over _ c4_2) hB5
  have c5_3 : w5.cell? ⟨w.heap.size + 1, 1, none⟩ = some (.int .i64 bt) := keep_cell (cell_over _ c4_3) hB5
  have c5_4 : w5.cell? ⟨w.heap.size + 1 + 1, 0, none⟩ = some (.int .i64 cf) := keep_cell (cell_over _ c4_4) hB5
  have c5_5 : w5.cell? ⟨w.heap.size + 1 + 1, 1, none⟩ = some (.int .i64 ct) := keep_cell (cell_over _ c4_5) hB5
  have c5_6 : w5.cell? ⟨w4.heap.size, 0, none⟩ = some (.int .i64 bf) := keep_cell (box0 w4 _ _ 0) hB5
  have c5_7 : w5.cell? ⟨w4.heap.size, 1, none⟩ = some (.int .i64 (mn at_ bt)) := keep_cell (box0 w4 _ _ 1) hB5
  have z5_0 : w.heap.size < w5.heap.size := cell_lt c5_0
  have z5_1 : w.heap.size + 1 < w5.heap.size := cell_lt c5_2
  have z5_2 : w.heap.size + 1 + 1 < w5.heap.size := cell_lt c5_4
  have z5_3 : w4.heap.size < w5.heap.size := cell_lt c5_6
  clear hB5 c4_0 c4_1 c4_2 c4_3 c4_4 c4_5 z4_0 z4_1 z4_2
  go_wp2_with fail
  refine (within_no af at_ bf bt HA.out HB.out HIN.out _).mono ?_
  rintro e w6 ⟨rfl, hB6⟩
  have HB6 : Hid (Below w.heap.size w w6) := below_up (below_alloc HB5.out) hB6
  have c6_0 : w6.cell? ⟨w.heap.size, 0, none⟩ = some (.int .i64 af) := keep_cell (cell_over _ c5_0) hB6
  have c6_1 : w6.cell? ⟨w.heap.size, 1, none⟩ = some (.int .i64 at_) := keep_cell (cell_over _ c5_1) hB6
  have c6_2 : w6.cell? ⟨w.heap.size + 1, 0, none⟩ = some (.int .i64 bf) := keep_cell (cell_over _ c5_2) hB6
  have c6_3 : w6.cell? ⟨w.heap.size + 1, 1, none⟩ = some (.int .i64 bt) := keep_cell (cell_over _ c5_3) hB6
  have c6_4 : w6.cell? ⟨w.heap.size + 1 + 1, 0, none⟩ = some (.int .i64 cf) := keep_cell (cell_over _ c5_4) hB6
  have c6_5 : w6.cell? ⟨w.heap.size + 1 + 1, 1, none⟩ = some (.int .i64 ct) := keep_cell (cell_over _ c5_5) hB6
  have c6_6 : w6.cell? ⟨w4.heap.size, 0, none⟩ = some (.int .i64 bf) := keep_cell (cell_over _ c5_6) hB6
  have c6_7 : w6.cell? ⟨w4.heap.size, 1, none⟩ = some (.int .i64 (mn at_ bt)) := keep_cell (cell_over _ c5_7) hB6
  have c6_8 : w6.cell? ⟨w5.heap.size, 0, none⟩ = some (.int .i64 bf) := keep_cell (box0 w5 _ _ 0) hB6
  have c6_9 : w6.cell? ⟨w5.heap.size, 1, none⟩ = some (.int .i64 (mn at_ bt)) := keep_cell (box0 w5 _ _ 1) hB6
  have z6_0 : w.heap.size < w6.heap.size := cell_lt c6_0
  have z6_1 : w.heap.size + 1 < w6.heap.size := cell_lt c6_2
  have z6_2 : w.heap.size + 1 + 1 < w6.heap.size := cell_lt c6_4
  have z6_3 : w4.heap.size < w6.heap.size := cell_lt c6_6
  have z6_4 : w5.heap.size < w6.heap.size := cell_lt c6_8
  clear hB6 c5_0 c5_1 c5_2 c5_3 c5_4 c5_5 c5_6 c5_7 z5_0 z5_1 z5_2 z5_3
  go_wp2_with fail
  refine (within_dec cf ct af at_ HC.out HA.out p HP.out _).mono ?_
  rintro e w7 ⟨rfl, hB7⟩
  have HB7 : Hid (Below w.heap.size w w7) := below_up HB6.out hB7
  have c7_0 : w7.cell? ⟨w.heap.size, 0, none⟩ = some (.int .i64 af) := keep_cell c6_0 hB7
  have c7_1 : w7.cell? ⟨w.heap.size, 1, none⟩ = some (.int .i64 at_) := keep_cell c6_1 hB7
  have c7_2 : w7.cell? ⟨w.heap.size + 1, 0, none⟩ = some (.int .i64 bf) := keep_cell c6_2 hB7
  have c7_3 : w7.cell? ⟨w.heap.size + 1, 1, none⟩ = some (.int .i64 bt) := keep_cell c6_3 hB7
  have c7_4 : w7.cell? ⟨w.heap.size + 1 + 1, 0, none⟩ = some (.int .i64 cf) := keep_cell c6_4 hB7
  have c7_5 : w7.cell? ⟨w.heap.size + 1 + 1, 1, none⟩ = some (.int .i64 ct) := keep_cell c6_5 hB7
  have c7_6 : w7.cell? ⟨w4.heap.size, 0, none⟩ = some (.int .i64 bf) := keep_cell c6_6 hB7
  have c7_7 : w7.cell? ⟨w4.heap.size, 1, none⟩ = some (.int .i64 (mn at_ bt)) := keep_cell c6_7 hB7
  have c7_8 : w7.cell? ⟨w5.heap.size, 0, none⟩ = some (.int .i64 bf) := keep_cell c6_8 hB7
  have c7_9 : w7.cell? ⟨w5.heap.size, 1, none⟩ = some (.int .i64 (mn at_ bt)) := keep_cell c6_9 hB7
  have z7_0 : w.heap.size < w7.heap.size := cell_lt c7_0
  have z7_1 : w.heap.size + 1 < w7.heap.size := cell_lt c7_2
  have z7_2 : w.heap.size + 1 + 1 < w7.heap.size := cell_lt c7_4
  have z7_3 : w4.heap.size < w7.heap.size := cell_lt c7_6
  have z7_4 : w5.heap.size < w7.heap.size := cell_lt c7_8
  clear hB7 c6_0 c6_1 c6_2 c6_3 c6_4 c6_5 c6_6 c6_7 c6_8 c6_9 z6_0 z6_1 z6_2 z6_3 z6_4
  go_wp2_with fail
  refine (within_dec cf ct bf bt HC.out HB.out q HQ.out _).mono ?_
  rintro e w8 ⟨rfl, hB8⟩
  have HB8 : Hid (Below w.heap.size w w8) := below_up HB7.out hB8
  have c8_0 : w8.cell? ⟨w.heap.size, 0, none⟩ = some (.int .i64 af) := keep_cell c7_0 hB8
  have c8_1 : w8.cell? ⟨w.heap.size, 1, none⟩ = some (.int .i64 at_) := keep_cell c7_1 hB8
  have c8_2 : w8.cell? ⟨w.heap.size + 1, 0, none⟩ = some (.int .i64 bf) := keep_cell c7_2 hB8
  have c8_3 : w8.cell? ⟨w.heap.size + 1, 1, none⟩ = some (.int .i64 bt) := keep_cell c7_3 hB8
  have c8_4 : w8.cell? ⟨w.heap.size + 1 + 1, 0, none⟩ = some (.int .i64 cf) := keep_cell c7_4 hB8
  have c8_5 : w8.cell? ⟨w.heap.size + 1 + 1, 1, none⟩ = some (.int .i64 ct) := keep_cell c7_5 hB8
  have c8_6 : w8.cell? ⟨w4.heap.size, 0, none⟩ = some (.int .i64 bf) := keep_cell c7_6 hB8
  have c8_7 : w8.cell? ⟨w4.heap.size, 1, none⟩ = some (.int .i64 (mn at_ bt)) := keep_cell c7_7 hB8
  have c8_8 : w8.cell? ⟨w5.heap.size, 0, none⟩ = some (.int .i64 bf) := keep_cell c7_8 hB8
  have c8_9 : w8.cell? ⟨w5.heap.size, 1, none⟩ = some (.int .i64 (mn at_ bt)) := keep_cell c7_9 hB8
  have z8_0 : w.heap.size < w8.heap.size := cell_lt c8_0
  have z8_1 : w.heap.size + 1 < w8.heap.size := cell_lt c8_2
  have z8_2 : w.heap.size + 1 + 1 < w8.heap.size := cell_lt c8_4
  have z8_3 : w4.heap.size < w8.heap.size := cell_lt c8_6
  have z8_4 : w5.heap.size < w8.heap.size := cell_lt c8_8
  clear hB8 c7_0 c7_1 c7_2 c7_3 c7_4 c7_5 c7_6 c7_7 c7_8 c7_9 z7_0 z7_1 z7_2 z7_3 z7_4
  go_wp2_with fail
  refine (within_dec cf ct bf (mn at_ bt) HC.out HS.out (p && q) HR.out _).mono ?_
  rintro e w9 ⟨rfl, hB9⟩
  have HB9 : Hid (Below w.heap.size w w9) := below_up HB8.out hB9
  have c9_0 : w9.cell? ⟨w.heap.size, 0, none⟩ = some (.int .i64 af) := keep_cell c8_0 hB9
  have c9_1 : w9.cell? ⟨w.heap.size, 1, none⟩ = some (.int .i64 at_) := keep_cell c8_1 hB9
  have c9_2 : w9.cell? ⟨w.heap.size + 1, 0, none⟩ = some (.int .i64 bf) := keep_cell c8_2 hB9
  have c9_3 : w9.cell? ⟨w.heap.size + 1, 1, none⟩ = some (.int .i64 bt) := keep_cell c8_3 hB9
  have c9_4 : w9.cell? ⟨w.heap.size + 1 + 1, 0, none⟩ = some (.int .i64 cf) := keep_cell c8_4 hB9
  have c9_5 : w9.cell? ⟨w.heap.size + 1 + 1, 1, none⟩ = some (.int .i64 ct) := keep_cell c8_5 hB9
  have c9_6 : w9.cell? ⟨w4.heap.size, 0, none⟩ = some (.int .i64 bf) := keep_cell c8_6 hB9
  have c9_7 : w9.cell? ⟨w4.heap.size, 1, none⟩ = some (.int .i64 (mn at_ bt)) := keep_cell c8_7 hB9
  have c9_8 : w9.cell? ⟨w5.heap.size, 0, none⟩ = some (.int .i64 bf) := keep_cell c8_8 hB9
  have c9_9 : w9.cell? ⟨w5.heap.size, 1, none⟩ = some (.int .i64 (mn at_ bt)) := keep_cell c8_9 hB9
  have z9_0 : w.heap.size < w9.heap.size := cell_lt c9_0
  have z9_1 : w.heap.size + 1 < w9.heap.size := cell_lt c9_2
  have z9_2 : w.heap.size + 1 + 1 < w9.heap.size := cell_lt c9_4
  have z9_3 : w4.heap.size < w9.heap.size := cell_lt c9_6
  have z9_4 : w5.heap.size < w9.heap.size := cell_lt c9_8
  clear hB9 c8_0 c8_1 c8_2 c8_3 c8_4 c8_5 c8_6 c8_7 c8_8 c8_9 z8_0 z8_1 z8_2 z8_3 z8_4
  go_wp2_with fail
  refine (within_yes bf (mn at_ bt) af at_ HS.out HA.out HSA.out _).mono ?_
  rintro e w10 ⟨rfl, hB10⟩
  have HB10 : Hid (Below w.heap.size w w10) := below_up HB9.out hB10
  have c10_0 : w10.cell? ⟨w.heap.size, 0, none⟩ = some (.int .i64 af) := keep_cell c9_0 hB10
  have c10_1 : w10.cell? ⟨w.heap.size, 1, none⟩ = some (.int .i64 at_) := keep_cell c9_1 hB10
  have c10_2 : w10.cell? ⟨w.heap.size + 1, 0, none⟩ = some (.int .i64 bf) := keep_cell c9_2 hB10
  have c10_3 : w10.cell? ⟨w.heap.size + 1, 1, none⟩ = some (.int .i64 bt) := keep_cell c9_3 hB10
  have c10_4 : w10.cell? ⟨w.heap.size + 1 + 1, 0, none⟩ = some (.int .i64 cf) := keep_cell c9_4 hB10
  have c10_5 : w10.cell? ⟨w.heap.size + 1 + 1, 1, none⟩ = some (.int .i64 ct) := keep_cell c9_5 hB10
  have c10_6 : w10.cell? ⟨w4.heap.size, 0, none⟩ = some (.int .i64 bf) := keep_cell c9_6 hB10
  have c10_7 : w10.cell? ⟨w4.heap.size, 1, none⟩ = some (.int .i64 (mn at_ bt)) := keep_cell c9_7 hB10
  have c10_8 : w10.cell? ⟨w5.heap.size, 0, none⟩ = some (.int .i64 bf) := keep_cell c9_8 hB10
  have c10_9 : w10.cell? ⟨w5.heap.size, 1, none⟩ = some (.int .i64 (mn at_ bt)) := keep_cell c9_9 hB10
  have z10_0 : w.heap.size < w10.heap.size := cell_lt c10_0
  have z10_1 : w.heap.size + 1 < w10.heap.size := cell_lt c10_2
  have z10_2 : w.heap.size + 1 + 1 < w10.heap.size := cell_lt c10_4
  have z10_3 : w4.heap.size < w10.heap.size := cell_lt c10_6
  have z10_4 : w5.heap.size < w10.heap.size := cell_lt c10_8
  clear hB10 c9_0 c9_1 c9_2 c9_3 c9_4 c9_5 c9_6 c9_7 c9_8 c9_9 z9_0 z9_1 z9_2 z9_3 z9_4
  go_wp2_with fail
  refine (within_yes bf (mn at_ bt) bf bt HS.out HB.out HSB.out _).mono ?_
  rintro e w11 ⟨rfl, hB11⟩
  have HB11 : Hid (Below w.heap.size w w11) := below_up HB10.out hB11
  have c11_0 : w11.cell? ⟨w.heap.size, 0, none⟩ = some (.int .i64 af) := keep_cell c10_0 hB11
  have c11_1 : w11.cell? ⟨w.heap.size, 1, none⟩ = some (.int .i64 at_) := keep_cell c10_1 hB11
  have c11_2 : w11.cell? ⟨w.heap.size + 1, 0, none⟩ = some (.int .i64 bf) := keep_cell c10_2 hB11
  have c11_3 : w11.cell? ⟨w.heap.size + 1, 1, none⟩ = some (.int .i64 bt) := keep_cell c10_3 hB11
  have c11_4 : w11.cell? ⟨w.heap.size + 1 + 1, 0, none⟩ = some (.int .i64 cf) := keep_cell c10_4 hB11
  have c11_5 : w11.cell? ⟨w.heap.size + 1 + 1, 1, none⟩ = some (.int .i64 ct) := keep_cell c10_5 hB11
  have c11_6 : w11.cell? ⟨w4.heap.size, 0, none⟩ = some (.int .i64 bf) := keep_cell c10_6 hB11
  have c11_7 : w11.cell? ⟨w4.heap.size, 1, none⟩ = some (.int .i64 (mn at_ bt)) := keep_cell c10_7 hB11
  have c11_8 : w11.cell? ⟨w5.heap.size, 0, none⟩ = some (.int .i64 bf) := keep_cell c10_8 hB11
  have c11_9 : w11.cell? ⟨w5.heap.size, 1, none⟩ = some (.int .i64 (mn at_ bt)) := keep_cell c10_9 hB11
  have z11_0 : w.heap.size < w11.heap.size := cell_lt c11_0
  have z11_1 : w.heap.size + 1 < w11.heap.size := cell_lt c11_2
  have z11_2 : w.heap.size + 1 + 1 < w11.heap.size := cell_lt c11_4
  have z11_3 : w4.heap.size < w11.heap.size := cell_lt c11_6
  have z11_4 : w5.heap.size < w11.heap.size := cell_lt c11_8
  clear hB11 c10_0 c10_1 c10_2 c10_3 c10_4 c10_5 c10_6 c10_7 c10_8 c10_9 z10_0 z10_1 z10_2 z10_3 z10_4
  cases p <;> cases q <;> (go_wp2_with fail; go_ret; exact ⟨rfl, HB11.out⟩)
set_option maxRecDepth 100000 in
set_option maxHeartbeats 8000000 in
theorem meets_yes2_n (w : World) (af at_ bf bt cf ct : Int) (ha : may af at_) (hb : may bf bt) (hh : meets af at_ bf bt) (h1 : bf ≤ af) (h2 : bt < at_) (hc : ¬ may cf ct) :
    Calls Try.prog 5 #[.agg #[.int .i64 af, .int .i64 at_], .agg #[.int .i64 bf, .int .i64 bt], .agg #[.int .i64 cf, .int .i64 ct]] w fun e w' => e = .returned (.bool true) ∧ Below w.heap.size w w' := by
  have hh2 : meets bf bt af at_ := ⟨hh.2, hh.1⟩
  have hin : ¬ inside af at_ bf bt := by unfold inside; omega
  obtain ⟨hs, hsa, hsb⟩ := both_facts ha hb hh
  obtain ⟨r1, r2⟩ := mx_le h1
  obtain ⟨r3, r4⟩ := mn_lt h2
  rw [r1, r3] at hs hsa hsb
  have HA := Lib.hid ha
  have HB := Lib.hid hb
  have HC := Lib.hid hc
  have HH := Lib.hid hh
  have HH2 := Lib.hid hh2
  have HIN := Lib.hid hin
  have HS := Lib.hid hs
  have HSA := Lib.hid hsa
  have HSB := Lib.hid hsb
  clear ha hb hc hh hh2 hin hs hsa hsb
  go_enter Try.func5, Try.ntmps5
  go_wp2_with fail
  refine (alive_any _).mono ?_
  rintro e w1 ⟨rfl, hB1⟩
  have HB1 : Hid (Below w.heap.size w w1) := below_up (below_alloc (below_alloc (below_alloc (Below.refl _ _)))) hB1
  have c1_0 : w1.cell? ⟨w.heap.size, 0, none⟩ = some (.int .i64 af) := keep_cell (cell_over _ (cell_over _ (box0 w _ _ 0))) hB1
  have c1_1 : w1.cell? ⟨w.heap.size, 1, none⟩ = some (.int .i64 at_) := keep_cell (cell_over _ (cell_over _ (box0 w _ _ 1))) hB1
  have c1_2 : w1.cell? ⟨w.heap.size + 1, 0, none⟩ = some (.int .i64 bf) := keep_cell (cell_over _ (box1 w _ _ 0)) hB1
  have c1_3 : w1.cell? ⟨w.heap.size + 1, 1, none⟩ = some (.int .i64 bt) := keep_cell (cell_over _ (box1 w _ _ 1)) hB1
  have c1_4 : w1.cell? ⟨w.heap.size + 1 + 1, 0, none⟩ = some (.int .i64 cf) := keep_cell (box2 w _ _ 0) hB1
  have c1_5 : w1.cell? ⟨w.heap.size + 1 + 1, 1, none⟩ = some (.int .i64 ct) := keep_cell (box2 w _ _ 1) hB1
  have z1_0 : w.heap.size < w1.heap.size := cell_lt c1_0
  have z1_1 : w.heap.size + 1 < w1.heap.size := cell_lt c1_2
  have z1_2 : w.heap.size + 1 + 1 < w1.heap.size := cell_lt c1_4
  clear hB1  
  go_wp2_with fail
  refine (meet_yes af at_ bf bt HA.out HB.out HH.out _).mono ?_
  rintro e w2 ⟨rfl, hB2⟩
  have HB2 : Hid (Below w.heap.size w w2) := below_up HB1.out hB2
  have c2_0 : w2.cell? ⟨w.heap.size, 0, none⟩ = some (.int .i64 af) := keep_cell c1_0 hB2
  have c2_1 : w2.cell? ⟨w.heap.size, 1, none⟩ = some (.int .i64 at_) := keep_cell c1_1 hB2
  have c2_2 : w2.cell? ⟨w.heap.size + 1, 0, none⟩ = some (.int .i64 bf) := keep_cell c1_2 hB2
  have c2_3 : w2.cell? ⟨w.heap.size + 1, 1, none⟩ = some (.int .i64 bt) := keep_cell c1_3 hB2
  have c2_4 : w2.cell? ⟨w.heap.size + 1 + 1, 0, none⟩ = some (.int .i64 cf) := keep_cell c1_4 hB2
  have c2_5 : w2.cell? ⟨w.heap.size + 1 + 1, 1, none⟩ = some (.int .i64 ct) := keep_cell c1_5 hB2
  have z2_0 : w.heap.size < w2.heap.size := cell_lt c2_0
  have z2_1 : w.heap.size + 1 < w2.heap.size := cell_lt c2_2
  have z2_2 : w.heap.size + 1 + 1 < w2.heap.size := cell_lt c2_4
  clear hB2 c1_0 c1_1 c1_2 c1_3 c1_4 c1_5 z1_0 z1_1 z1_2
  go_wp2_with fail
  refine (meet_yes bf bt af at_ HB.out HA.out HH2.out _).mono ?_
  rintro e w3 ⟨rfl, hB3⟩
  have HB3 : Hid (Below w.heap.size w w3) := below_up HB2.out hB3
  have c3_0 : w3.cell? ⟨w.heap.size, 0, none⟩ = some (.int .i64 af) := keep_cell c2_0 hB3
  have c3_1 : w3.cell? ⟨w.heap.size, 1, none⟩ = some (.int .i64 at_) := keep_cell c2_1 hB3
  have c3_2 : w3.cell? ⟨w.heap.size + 1, 0, none⟩ = some (.int .i64 bf) := keep_cell c2_2 hB3
  have c3_3 : w3.cell? ⟨w.heap.size + 1, 1, none⟩ = some (.int .i64 bt) := keep_cell c2_3 hB3
  have c3_4 : w3.cell? ⟨w.heap.size + 1 + 1, 0, none⟩ = some (.int .i64 cf) := keep_cell c2_4 hB3
  have c3_5 : w3.cell? ⟨w.heap.size + 1 + 1, 1, none⟩ = some (.int .i64 ct) := keep_cell c2_5 hB3
  have z3_0 : w.heap.size < w3.heap.size := cell_lt c3_0
  have z3_1 : w.heap.size + 1 < w3.heap.size := cell_lt c3_2
  have z3_2 : w.heap.size + 1 + 1 < w3.heap.size := cell_lt c3_4
  clear hB3 c2_0 c2_1 c2_2 c2_3 c2_4 c2_5 z2_0 z2_1 z2_2
  go_wp2_with fail
  refine (both_yes af at_ bf bt HA.out HB.out HH.out _).mono ?_
  rintro e w4 ⟨rfl, hB4⟩
  have HB4 : Hid (Below w.heap.size w w4) := below_up HB3.out hB4
  have c4_0 : w4.cell? ⟨w.heap.size, 0, none⟩ = some (.int .i64 af) := keep_cell c3_0 hB4
  have c4_1 : w4.cell? ⟨w.heap.size, 1, none⟩ = some (.int .i64 at_) := keep_cell c3_1 hB4
  have c4_2 : w4.cell? ⟨w.heap.size + 1, 0, none⟩ = some (.int .i64 bf) := keep_cell c3_2 hB4
  have c4_3 : w4.cell? ⟨w.heap.size + 1, 1, none⟩ = some (.int .i64 bt) := keep_cell c3_3 hB4
  have c4_4 : w4.cell? ⟨w.heap.size + 1 + 1, 0, none⟩ = some (.int .i64 cf) := keep_cell c3_4 hB4
  have c4_5 : w4.cell? ⟨w.heap.size + 1 + 1, 1, none⟩ = some (.int .i64 ct) := keep_cell c3_5 hB4
  have z4_0 : w.heap.size < w4.heap.size := cell_lt c4_0
  have z4_1 : w.heap.size + 1 < w4.heap.size := cell_lt c4_2
  have z4_2 : w.heap.size + 1 + 1 < w4.heap.size := cell_lt c4_4
  clear hB4 c3_0 c3_1 c3_2 c3_3 c3_4 c3_5 z3_0 z3_1 z3_2
  go_wp2_with fail
  refine (both_yes bf bt af at_ HB.out HA.out HH2.out _).mono ?_
  rintro e w5 ⟨rfl, hB5⟩
  have HB5 : Hid (Below w.heap.size w w5) := below_up (below_alloc HB4.out) hB5
  have c5_0 : w5.cell? ⟨w.heap.size, 0, none⟩ = some (.int .i64 af) := keep_cell (cell_over _ c4_0) hB5
  have c5_1 : w5.cell? ⟨w.heap.size, 1, none⟩ = some (.int .i64 at_) := keep_cell (cell_over _ c4_1) hB5
  have c5_2 : w5.cell? ⟨w.heap.size + 1, 0, none⟩ = some (.int .i64 bf) := keep_cell (cell_over _ c4_2) hB5
  have c5_3 : w5.cell? ⟨w.heap.size + 1, 1, none⟩ = some (.int .i64 bt) := keep_cell (cell_over _ c4_3) hB5
  have c5_4 : w5.cell? ⟨w.heap.size + 1 + 1, 0, none⟩ = some (.int .i64 cf) := keep_cell (cell_over _ c4_4) hB5
  have c5_5 : w5.cell? ⟨w.heap.size + 1 + 1, 1, none⟩ = some (.int .i64 ct) := keep_cell (cell_over _ c4_5) hB5
  have c5_6 : w5.cell? ⟨w4.heap.size, 0, none⟩ = some (.int .i64 af) := keep_cell (box0 w4 _ _ 0) hB5
  have c5_7 : w5.cell? ⟨w4.heap.size, 1, none⟩ = some (.int .i64 bt) := keep_cell (box0 w4 _ _ 1) hB5
  have z5_0 : w.heap.size < w5.heap.size := cell_lt c5_0
  have z5_1 : w.heap.size + 1 < w5.heap.size := cell_lt c5_2
  have z5_2 : w.heap.size + 1 + 1 < w5.heap.size := cell_lt c5_4
  have z5_3 : w4.heap.size < w5.heap.size := cell_lt c5_6
  clear hB5 c4_0 c4_1 c4_2 c4_3 c4_4 c4_5 z4_0 z4_1 z4_2
  go_wp2_with fail
  refine (within_no af at_ bf bt HA.out HB.out HIN.out _).mono ?_
  rintro e w6 ⟨rfl, hB6⟩
  have HB6 : Hid (Below w.heap.size w w6) := below_up (below_alloc HB5.out) hB6
  have c6_0 : w6.cell? ⟨w.heap.size, 0, none⟩ = some (.int .i64 af) := keep_cell (cell_over _ c5_0) hB6
  have c6_1 : w6.cell? ⟨w.heap.size, 1, none⟩ = some (.int .i64 at_) := keep_cell (cell_over _ c5_1) hB6
  have c6_2 : w6.cell? ⟨w.heap.size + 1, 0, none⟩ = some (.int .i64 bf) := keep_cell (cell_over _ c5_2) hB6
  have c6_3 : w6.cell? ⟨w.heap.size + 1, 1, none⟩ = some (.int .i64 bt) := keep_cell (cell_over _ c5_3) hB6
  have c6_4 : w6.cell? ⟨w.heap.size + 1 + 1, 0, none⟩ = some (.int .i64 cf) := keep_cell (cell_over _ c5_4) hB6
  have c6_5 : w6.cell? ⟨w.heap.size + 1 + 1, 1, none⟩ = some (.int .i64 ct) := keep_cell (cell_over _ c5_5) hB6
  have c6_6 : w6.cell? ⟨w4.heap.size, 0, none⟩ = some (.int .i64 af) := keep_cell (cell_over _ c5_6) hB6
  have c6_7 : w6.cell? ⟨w4.heap.size, 1, none⟩ = some (.int .i64 bt) := keep_cell (cell_over _ c5_7) hB6
  have c6_8 : w6.cell? ⟨w5.heap.size, 0, none⟩ = some (.int .i64 af) := keep_cell (box0 w5 _ _ 0) hB6
  have c6_9 : w6.cell? ⟨w5.heap.size, 1, none⟩ = some (.int .i64 bt) := keep_cell (box0 w5 _ _ 1) hB6
  have z6_0 : w.heap.size < w6.heap.size := cell_lt c6_0
  have z6_1 : w.heap.size + 1 < w6.heap.size := cell_lt c6_2
  have z6_2 : w.heap.size + 1 + 1 < w6.heap.size := cell_lt c6_4
  have z6_3 : w4.heap.size < w6.heap.size := cell_lt c6_6
  have z6_4 : w5.heap.size < w6.heap.size := cell_lt c6_8
  clear hB6 c5_0 c5_1 c5_2 c5_3 c5_4 c5_5 c5_6 c5_7 z5_0 z5_1 z5_2 z5_3
  go_wp2_with fail
  refine (within_bad cf ct af at_ (fun h => HC.out h.1) _).mono ?_
  rintro e w7 ⟨rfl, hB7⟩
  have HB7 : Hid (Below w.heap.size w w7) := below_up HB6.out hB7
  have c7_0 : w7.cell? ⟨w.heap.size, 0, none⟩ = some (.int .i64 af) := keep_cell c6_0 hB7
  have c7_1 : w7.cell? ⟨w.heap.size, 1, none⟩ = some (.int .i64 at_) := keep_cell c6_1 hB7
  have c7_2 : w7.cell? ⟨w.heap.size + 1, 0, none⟩ = some (.int .i64 bf) := keep_cell c6_2 hB7
  have c7_3 : w7.cell? ⟨w.heap.size + 1, 1, none⟩ = some (.int .i64 bt) := keep_cell c6_3 hB7
  have c7_4 : w7.cell? ⟨w.heap.size + 1 + 1, 0, none⟩ = some (.int .i64 cf) := keep_cell c6_4 hB7
  have c7_5 : w7.cell? ⟨w.heap.size + 1 + 1, 1, none⟩ = some (.int .i64 ct) := keep_cell c6_5 hB7
  have c7_6 : w7.cell? ⟨w4.heap.size, 0, none⟩ = some (.int .i64 af) := keep_cell c6_6 hB7
  have c7_7 : w7.cell? ⟨w4.heap.size, 1, none⟩ = some (.int .i64 bt) := keep_cell c6_7 hB7
  have c7_8 : w7.cell? ⟨w5.heap.size, 0, none⟩ = some (.int .i64 af) := keep_cell c6_8 hB7
  have c7_9 : w7.cell? ⟨w5.heap.size, 1, none⟩ = some (.int .i64 bt) := keep_cell c6_9 hB7
  have z7_0 : w.heap.size < w7.heap.size := cell_lt c7_0
  have z7_1 : w.heap.size + 1 < w7.heap.size := cell_lt c7_2
  have z7_2 : w.heap.size + 1 + 1 < w7.heap.size := cell_lt c7_4
  have z7_3 : w4.heap.size < w7.heap.size := cell_lt c7_6
  have z7_4 : w5.heap.size < w7.heap.size := cell_lt c7_8
  clear hB7 c6_0 c6_1 c6_2 c6_3 c6_4 c6_5 c6_6 c6_7 c6_8 c6_9 z6_0 z6_1 z6_2 z6_3 z6_4
  go_wp2_with fail
  refine (within_bad cf ct bf bt (fun h => HC.out h.1) _).mono ?_
  rintro e w8 ⟨rfl, hB8⟩
  have HB8 : Hid (Below w.heap.size w w8) := below_up HB7.out hB8
  have c8_0 : w8.cell? ⟨w.heap.size, 0, none⟩ = some (.int .i64 af) := keep_cell c7_0 hB8
  have c8_1 : w8.cell? ⟨w.heap.size, 1, none⟩ = some (.int .i64 at_) := keep_cell c7_1 hB8
  have c8_2 : w8.cell? ⟨w.heap.size + 1, 0, none⟩ = some (.int .i64 bf) := keep_cell c7_2 hB8
  have c8_3 : w8.cell? ⟨w.heap.size + 1, 1, none⟩ = some (.int .i64 bt) := keep_cell c7_3 hB8
  have c8_4 : w8.cell? ⟨w.heap.size + 1 + 1, 0, none⟩ = some (.int .i64 cf) := keep_cell c7_4 hB8
  have c8_5 : w8.cell? ⟨w.heap.size + 1 + 1, 1, none⟩ = some (.int .i64 ct) := keep_cell c7_5 hB8
  have c8_6 : w8.cell? ⟨w4.heap.size, 0, none⟩ = some (.int .i64 af) := keep_cell c7_6 hB8
  have c8_7 : w8.cell? ⟨w4.heap.size, 1, none⟩ = some (.int .i64 bt) := keep_cell c7_7 hB8
  have c8_8 : w8.cell? ⟨w5.heap.size, 0, none⟩ = some (.int .i64 af) := keep_cell c7_8 hB8
  have c8_9 : w8.cell? ⟨w5.heap.size, 1, none⟩ = some (.int .i64 bt) := keep_cell c7_9 hB8
  have z8_0 : w.heap.size < w8.heap.size := cell_lt c8_0
  have z8_1 : w.heap.size + 1 < w8.heap.size := cell_lt c8_2
  have z8_2 : w.heap.size + 1 + 1 < w8.heap.size := cell_lt c8_4
  have z8_3 : w4.heap.size < w8.heap.size := cell_lt c8_6
  have z8_4 : w5.heap.size < w8.heap.size := cell_lt c8_8
  clear hB8 c7_0 c7_1 c7_2 c7_3 c7_4 c7_5 c7_6 c7_7 c7_8 c7_9 z7_0 z7_1 z7_2 z7_3 z7_4
  go_wp2_with fail
  go_ret
  exact ⟨rfl, HB8.out⟩
set_option maxRecDepth 100000 in
set_option maxHeartbeats 8000000 in
theorem meets_yes2_y (w : World) (af at_ bf bt cf ct : Int) (ha : may af at_) (hb : may bf bt) (hh : meets af at_ bf bt) (h1 : bf ≤ af) (h2 : bt < at_) (hc : may cf ct) (p q : Bool) (hp : p = true ↔ inside cf ct af at_) (hq : q = true ↔ inside cf ct bf bt) :
    Calls Try.prog 5 #[.agg #[.int .i64 af, .int .i64 at_], .agg #[.int .i64 bf, .int .i64 bt], .agg #[.int .i64 cf, .int .i64 ct]] w fun e w' => e = .returned (.bool true) ∧ Below w.heap.size w w' := by
  have hh2 : meets bf bt af at_ := ⟨hh.2, hh.1⟩
  have hin : ¬ inside af at_ bf bt := by unfold inside; omega
  obtain ⟨hs, hsa, hsb⟩ := both_facts ha hb hh
  have hr : (p && q) = true ↔ inside cf ct (mx af bf) (mn at_ bt) := by rw [both_in, Bool.and_eq_true, hp, hq]
  have HP := Lib.hid hp
  have HQ := Lib.hid hq
  clear hp hq
  obtain ⟨r1, r2⟩ := mx_le h1
  obtain ⟨r3, r4⟩ := mn_lt h2
  rw [r1, r3] at hs hsa hsb hr
  have HA := Lib.hid ha
  have HB := Lib.hid hb
  have HC := Lib.hid hc
  have HH := Lib.hid hh
  have HH2 := Lib.hid hh2
  have HIN := Lib.hid hin
  have HS := Lib.hid hs
  have HSA := Lib.hid hsa
  have HSB := Lib.hid hsb
  have HR := Lib.hid hr
  clear ha hb hc hh hh2 hin hs hsa hsb hr
  go_enter Try.func5, Try.ntmps5
  go_wp2_with fail
  refine (alive_any _).mono ?_
  rintro e w1 ⟨rfl, hB1⟩
  have HB1 : Hid (Below w.heap.size w w1) := below_up (below_alloc (below_alloc (below_alloc (Below.refl _ _)))) hB1
  have c1_0 : w1.cell? ⟨w.heap.size, 0, none⟩ = some (.int .i64 af) := keep_cell (cell_over _ (cell_over _ (box0 w _ _ 0))) hB1
  have c1_1 : w1.cell? ⟨w.heap.size, 1, none⟩ = some (.int .i64 at_) := keep_cell (cell_over _ (cell_over _ (box0 w _ _ 1))) hB1
  have c1_2 : w1.cell? ⟨w.heap.size + 1, 0, none⟩ = some (.int .i64 bf) := keep_cell (cell_over _ (box1 w _ _ 0)) hB1
  have c1_3 : w1.cell? ⟨w.heap.size + 1, 1, none⟩ = some (.int .i64 bt) := keep_cell (cell_over _ (box1 w _ _ 1)) hB1
  have c1_4 : w1.cell? ⟨w.heap.size + 1 + 1, 0, none⟩ = some (.int .i64 cf) := keep_cell (box2 w _ _ 0) hB1
  have c1_5 : w1.cell? ⟨w.heap.size + 1 + 1, 1, none⟩ = some (.int .i64 ct) := keep_cell (box2 w _ _ 1) hB1
  have z1_0 : w.heap.size < w1.heap.size := cell_lt c1_0
  have z1_1 : w.heap.size + 1 < w1.heap.size := cell_lt c1_2
  have z1_2 : w.heap.size + 1 + 1 < w1.heap.size := cell_lt c1_4
  clear hB1  
  go_wp2_with fail
  refine (meet_yes af at_ bf bt HA.out HB.out HH.out _).mono ?_
  rintro e w2 ⟨rfl, hB2⟩
  have HB2 : Hid (Below w.heap.size w w2) := below_up HB1.out hB2
  have c2_0 : w2.cell? ⟨w.heap.size, 0, none⟩ = some (.int .i64 af) := keep_cell c1_0 hB2
  have c2_1 : w2.cell? ⟨w.heap.size, 1, none⟩ = some (.int .i64 at_) := keep_cell c1_1 hB2
  have c2_2 : w2.cell? ⟨w.heap.size + 1, 0, none⟩ = some (.int .i64 bf) := keep_cell c1_2 hB2
  have c2_3 : w2.cell? ⟨w.heap.size + 1, 1, none⟩ = some (.int .i64 bt) := keep_cell c1_3 hB2
  have c2_4 : w2.cell? ⟨w.heap.size + 1 + 1, 0, none⟩ = some (.int .i64 cf) := keep_cell c1_4 hB2
  have c2_5 : w2.cell? ⟨w.heap.size + 1 + 1, 1, none⟩ = some (.int .i64 ct) := keep_cell c1_5 hB2
  have z2_0 : w.heap.size < w2.heap.size := cell_lt c2_0
  have z2_1 : w.heap.size + 1 < w2.heap.size := cell_lt c2_2
  have z2_2 : w.heap.size + 1 + 1 < w2.heap.size := cell_lt c2_4
  clear hB2 c1_0 c1_1 c1_2 c1_3 c1_4 c1_5 z1_0 z1_1 z1_2
  go_wp2_with fail
  refine (meet_yes bf bt af at_ HB.out HA.out HH2.out _).mono ?_
  rintro e w3 ⟨rfl, hB3⟩
  have HB3 : Hid (Below w.heap.size w w3) := below_up HB2.out hB3
  have c3_0 : w3.cell? ⟨w.heap.size, 0, none⟩ = some (.int .i64 af) := keep_cell c2_0 hB3
  have c3_1 : w3.cell? ⟨w.heap.size, 1, none⟩ = some (.int .i64 at_) := keep_cell c2_1 hB3
  have c3_2 : w3.cell? ⟨w.heap.size + 1, 0, none⟩ = some (.int .i64 bf) := keep_cell c2_2 hB3
  have c3_3 : w3.cell? ⟨w.heap.size + 1, 1, none⟩ = some (.int .i64 bt) := keep_cell c2_3 hB3
  have c3_4 : w3.cell? ⟨w.heap.size + 1 + 1, 0, none⟩ = some (.int .i64 cf) := keep_cell c2_4 hB3
  have c3_5 : w3.cell? ⟨w.heap.size + 1 + 1, 1, none⟩ = some (.int .i64 ct) := keep_cell c2_5 hB3
  have z3_0 : w.heap.size < w3.heap.size := cell_lt c3_0
  have z3_1 : w.heap.size + 1 < w3.heap.size := cell_lt c3_2
  have z3_2 : w.heap.size + 1 + 1 < w3.heap.size := cell_lt c3_4
  clear hB3 c2_0 c2_1 c2_2 c2_3 c2_4 c2_5 z2_0 z2_1 z2_2
  go_wp2_with fail
  refine (both_yes af at_ bf bt HA.out HB.out HH.out _).mono ?_
  rintro e w4 ⟨rfl, hB4⟩
  have HB4 : Hid (Below w.heap.size w w4) := below_up HB3.out hB4
  have c4_0 : w4.cell? ⟨w.heap.size, 0, none⟩ = some (.int .i64 af) := keep_cell c3_0 hB4
  have c4_1 : w4.cell? ⟨w.heap.size, 1, none⟩ = some (.int .i64 at_) := keep_cell c3_1 hB4
  have c4_2 : w4.cell? ⟨w.heap.size + 1, 0, none⟩ = some (.int .i64 bf) := keep_cell c3_2 hB4
  have c4_3 : w4.cell? ⟨w.heap.size + 1, 1, none⟩ = some (.int .i64 bt) := keep_cell c3_3 hB4
  have c4_4 : w4.cell? ⟨w.heap.size + 1 + 1, 0, none⟩ = some (.int .i64 cf) := keep_cell c3_4 hB4
  have c4_5 : w4.cell? ⟨w.heap.size + 1 + 1, 1, none⟩ = some (.int .i64 ct) := keep_cell c3_5 hB4
  have z4_0 : w.heap.size < w4.heap.size := cell_lt c4_0
  have z4_1 : w.heap.size + 1 < w4.heap.size := cell_lt c4_2
  have z4_2 : w.heap.size + 1 + 1 < w4.heap.size := cell_lt c4_4
  clear hB4 c3_0 c3_1 c3_2 c3_3 c3_4 c3_5 z3_0 z3_1 z3_2
  go_wp2_with fail
  refine (both_yes bf bt af at_ HB.out HA.out HH2.out _).mono ?_
  rintro e w5 ⟨rfl, hB5⟩
  have HB5 : Hid (Below w.heap.size w w5) := below_up (below_alloc HB4.out) hB5
  have c5_0 : w5.cell? ⟨w.heap.size, 0, none⟩ = some (.int .i64 af) := keep_cell (cell_over _ c4_0) hB5
  have c5_1 : w5.cell? ⟨w.heap.size, 1, none⟩ = some (.int .i64 at_) := keep_cell (cell_over _ c4_1) hB5
  have c5_2 : w5.cell? ⟨w.heap.size + 1, 0, none⟩ = some (.int .i64 bf) := keep_cell (cell_over _ c4_2) hB5
  have c5_3 : w5.cell? ⟨w.heap.size + 1, 1, none⟩ = some (.int .i64 bt) := keep_cell (cell_over _ c4_3) hB5
  have c5_4 : w5.cell? ⟨w.heap.size + 1 + 1, 0, none⟩ = some (.int .i64 cf) := keep_cell (cell_over _ c4_4) hB5
  have c5_5 : w5.cell? ⟨w.heap.size + 1 + 1, 1, none⟩ = some (.int .i64 ct) := keep_cell (cell_over _ c4_5) hB5
  have c5_6 : w5.cell? ⟨w4.heap.size, 0, none⟩ = some (.int .i64 af) := keep_cell (box0 w4 _ _ 0) hB5
  have c5_7 : w5.cell? ⟨w4.heap.size, 1, none⟩ = some (.int .i64 bt) := keep_cell (box0 w4 _ _ 1) hB5
  have z5_0 : w.heap.size < w5.heap.size := cell_lt c5_0
  have z5_1 : w.heap.size + 1 < w5.heap.size := cell_lt c5_2
  have z5_2 : w.heap.size + 1 + 1 < w5.heap.size := cell_lt c5_4
  have z5_3 : w4.heap.size < w5.heap.size := cell_lt c5_6
  clear hB5 c4_0 c4_1 c4_2 c4_3 c4_4 c4_5 z4_0 z4_1 z4_2
  go_wp2_with fail
  refine (within_no af at_ bf bt HA.out HB.out HIN.out _).mono ?_
  rintro e w6 ⟨rfl, hB6⟩
  have HB6 : Hid (Below w.heap.size w w6) := below_up (below_alloc HB5.out) hB6
  have c6_0 : w6.cell? ⟨w.heap.size, 0, none⟩ = some (.int .i64 af) := keep_cell (cell_over _ c5_0) hB6
  have c6_1 : w6.cell? ⟨w.heap.size, 1, none⟩ = some (.int .i64 at_) := keep_cell (cell_over _ c5_1) hB6
  have c6_2 : w6.cell? ⟨w.heap.size + 1, 0, none⟩ = some (.int .i64 bf) := keep_cell (cell_over _ c5_2) hB6
  have c6_3 : w6.cell? ⟨w.heap.size + 1, 1, none⟩ = some (.int .i64 bt) := keep_cell (cell_over _ c5_3) hB6
  have c6_4 : w6.cell? ⟨w.heap.size + 1 + 1, 0, none⟩ = some (.int .i64 cf) := keep_cell (cell_over _ c5_4) hB6
  have c6_5 : w6.cell? ⟨w.heap.size + 1 + 1, 1, none⟩ = some (.int .i64 ct) := keep_cell (cell_over _ c5_5) hB6
  have c6_6 : w6.cell? ⟨w4.heap.size, 0, none⟩ = some (.int .i64 af) := keep_cell (cell_over _ c5_6) hB6
  have c6_7 : w6.cell? ⟨w4.heap.size, 1, none⟩ = some (.int .i64 bt) := keep_cell (cell_over _ c5_7) hB6
  have c6_8 : w6.cell? ⟨w5.heap.size, 0, none⟩ = some (.int .i64 af) := keep_cell (box0 w5 _ _ 0) hB6
  have c6_9 : w6.cell? ⟨w5.heap.size, 1, none⟩ = some (.int .i64 bt) := keep_cell (box0 w5 _ _ 1) hB6
  have z6_0 : w.heap.size < w6.heap.size := cell_lt c6_0
  have z6_1 : w.heap.size + 1 < w6.heap.size := cell_lt c6_2
  have z6_2 : w.heap.size + 1 + 1 < w6.heap.size := cell_lt c6_4
  have z6_3 : w4.heap.size < w6.heap.size := cell_lt c6_6
  have z6_4 : w5.heap.size < w6.heap.size := cell_lt c6_8
  clear hB6 c5_0 c5_1 c5_2 c5_3 c5_4 c5_5 c5_6 c5_7 z5_0 z5_1 z5_2 z5_3
  go_wp2_with fail
  refine (within_dec cf ct af at_ HC.out HA.out p HP.out _).mono ?_
  rintro e w7 ⟨rfl, hB7⟩
  have HB7 : Hid (Below w.heap.size w w7) := below_up HB6.out hB7
  have c7_0 : w7.cell? ⟨w.heap.size, 0, none⟩ = some (.int .i64 af) := keep_cell c6_0 hB7
  have c7_1 : w7.cell? ⟨w.heap.size, 1, none⟩ = some (.int .i64 at_) := keep_cell c6_1 hB7
  have c7_2 : w7.cell? ⟨w.heap.size + 1, 0, none⟩ = some (.int .i64 bf) := keep_cell c6_2 hB7
  have c7_3 : w7.cell? ⟨w.heap.size + 1, 1, none⟩ = some (.int .i64 bt) := keep_cell c6_3 hB7
  have c7_4 : w7.cell? ⟨w.heap.size + 1 + 1, 0, none⟩ = some (.int .i64 cf) := keep_cell c6_4 hB7
  have c7_5 : w7.cell? ⟨w.heap.size + 1 + 1, 1, none⟩ = some (.int .i64 ct) := keep_cell c6_5 hB7
  have c7_6 : w7.cell? ⟨w4.heap.size, 0, none⟩ = some (.int .i64 af) := keep_cell c6_6 hB7
  have c7_7 : w7.cell? ⟨w4.heap.size, 1, none⟩ = some (.int .i64 bt) := keep_cell c6_7 hB7
  have c7_8 : w7.cell? ⟨w5.heap.size, 0, none⟩ = some (.int .i64 af) := keep_cell c6_8 hB7
  have c7_9 : w7.cell? ⟨w5.heap.size, 1, none⟩ = some (.int .i64 bt) := keep_cell c6_9 hB7
  have z7_0 : w.heap.size < w7.heap.size := cell_lt c7_0
  have z7_1 : w.heap.size + 1 < w7.heap.size := cell_lt c7_2
  have z7_2 : w.heap.size + 1 + 1 < w7.heap.size := cell_lt c7_4
  have z7_3 : w4.heap.size < w7.heap.size := cell_lt c7_6
  have z7_4 : w5.heap.size < w7.heap.size := cell_lt c7_8
  clear hB7 c6_0 c6_1 c6_2 c6_3 c6_4 c6_5 c6_6 c6_7 c6_8 c6_9 z6_0 z6_1 z6_2 z6_3 z6_4
  go_wp2_with fail
  refine (within_dec cf ct bf bt HC.out HB.out q HQ.out _).mono ?_
  rintro e w8 ⟨rfl, hB8⟩
  have HB8 : Hid (Below w.heap.size w w8) := below_up HB7.out hB8
  have c8_0 : w8.cell? ⟨w.heap.size, 0, none⟩ = some (.int .i64 af) := keep_cell c7_0 hB8
  have c8_1 : w8.cell? ⟨w.heap.size, 1, none⟩ = some (.int .i64 at_) := keep_cell c7_1 hB8
  have c8_2 : w8.cell? ⟨w.heap.size + 1, 0, none⟩ = some (.int .i64 bf) := keep_cell c7_2 hB8
  have c8_3 : w8.cell? ⟨w.heap.size + 1, 1, none⟩ = some (.int .i64 bt) := keep_cell c7_3 hB8
  have c8_4 : w8.cell? ⟨w.heap.size + 1 + 1, 0, none⟩ = some (.int .i64 cf) := keep_cell c7_4 hB8
  have c8_5 : w8.cell? ⟨w.heap.size + 1 + 1, 1, none⟩ = some (.int .i64 ct) := keep_cell c7_5 hB8
  have c8_6 : w8.cell? ⟨w4.heap.size, 0, none⟩ = some (.int .i64 af) := keep_cell c7_6 hB8
  have c8_7 : w8.cell? ⟨w4.heap.size, 1, none⟩ = some (.int .i64 bt) := keep_cell c7_7 hB8
  have c8_8 : w8.cell? ⟨w5.heap.size, 0, none⟩ = some (.int .i64 af) := keep_cell c7_8 hB8
  have c8_9 : w8.cell? ⟨w5.heap.size, 1, none⟩ = some (.int .i64 bt) := keep_cell c7_9 hB8
  have z8_0 : w.heap.size < w8.heap.size := cell_lt c8_0
  have z8_1 : w.heap.size + 1 < w8.heap.size := cell_lt c8_2
  have z8_2 : w.heap.size + 1 + 1 < w8.heap.size := cell_lt c8_4
  have z8_3 : w4.heap.size < w8.heap.size := cell_lt c8_6
  have z8_4 : w5.heap.size < w8.heap.size := cell_lt c8_8
  clear hB8 c7_0 c7_1 c7_2 c7_3 c7_4 c7_5 c7_6 c7_7 c7_8 c7_9 z7_0 z7_1 z7_2 z7_3 z7_4
  go_wp2_with fail
  refine (within_dec cf ct af bt HC.out HS.out (p && q) HR.out _).mono ?_
  rintro e w9 ⟨rfl, hB9⟩
  have HB9 : Hid (Below w.heap.size w w9) := below_up HB8.out hB9
  have c9_0 : w9.cell? ⟨w.heap.size, 0, none⟩ = some (.int .i64 af) := keep_cell c8_0 hB9
  have c9_1 : w9.cell? ⟨w.heap.size, 1, none⟩ = some (.int .i64 at_) := keep_cell c8_1 hB9
  have c9_2 : w9.cell? ⟨w.heap.size + 1, 0, none⟩ = some (.int .i64 bf) := keep_cell c8_2 hB9
  have c9_3 : w9.cell? ⟨w.heap.size + 1, 1, none⟩ = some (.int .i64 bt) := keep_cell c8_3 hB9
  have c9_4 : w9.cell? ⟨w.heap.size + 1 + 1, 0, none⟩ = some (.int .i64 cf) := keep_cell c8_4 hB9
  have c9_5 : w9.cell? ⟨w.heap.size + 1 + 1, 1, none⟩ = some (.int .i64 ct) := keep_cell c8_5 hB9
  have c9_6 : w9.cell? ⟨w4.heap.size, 0, none⟩ = some (.int .i64 af) := keep_cell c8_6 hB9
  have c9_7 : w9.cell? ⟨w4.heap.size, 1, none⟩ = some (.int .i64 bt) := keep_cell c8_7 hB9
  have c9_8 : w9.cell? ⟨w5.heap.size, 0, none⟩ = some (.int .i64 af) := keep_cell c8_8 hB9
  have c9_9 : w9.cell? ⟨w5.heap.size, 1, none⟩ = some (.int .i64 bt) := keep_cell c8_9 hB9
  have z9_0 : w.heap.size < w9.heap.size := cell_lt c9_0
  have z9_1 : w.heap.size + 1 < w9.heap.size := cell_lt c9_2
  have z9_2 : w.heap.size + 1 + 1 < w9.heap.size := cell_lt c9_4
  have z9_3 : w4.heap.size < w9.heap.size := cell_lt c9_6
  have z9_4 : w5.heap.size < w9.heap.size := cell_lt c9_8
  clear hB9 c8_0 c8_1 c8_2 c8_3 c8_4 c8_5 c8_6 c8_7 c8_8 c8_9 z8_0 z8_1 z8_2 z8_3 z8_4
  go_wp2_with fail
  refine (within_yes af bt af at_ HS.out HA.out HSA.out _).mono ?_
  rintro e w10 ⟨rfl, hB10⟩
  have HB10 : Hid (Below w.heap.size w w10) := below_up HB9.out hB10
  have c10_0 : w10.cell? ⟨w.heap.size, 0, none⟩ = some (.int .i64 af) := keep_cell c9_0 hB10
  have c10_1 : w10.cell? ⟨w.heap.size, 1, none⟩ = some (.int .i64 at_) := keep_cell c9_1 hB10
  have c10_2 : w10.cell? ⟨w.heap.size + 1, 0, none⟩ = some (.int .i64 bf) := keep_cell c9_2 hB10
  have c10_3 : w10.cell? ⟨w.heap.size + 1, 1, none⟩ = some (.int .i64 bt) := keep_cell c9_3 hB10
  have c10_4 : w10.cell? ⟨w.heap.size + 1 + 1, 0, none⟩ = some (.int .i64 cf) := keep_cell c9_4 hB10
  have c10_5 : w10.cell? ⟨w.heap.size + 1 + 1, 1, none⟩ = some (.int .i64 ct) := keep_cell c9_5 hB10
  have c10_6 : w10.cell? ⟨w4.heap.size, 0, none⟩ = some (.int .i64 af) := keep_cell c9_6 hB10
  have c10_7 : w10.cell? ⟨w4.heap.size, 1, none⟩ = some (.int .i64 bt) := keep_cell c9_7 hB10
  have c10_8 : w10.cell? ⟨w5.heap.size, 0, none⟩ = some (.int .i64 af) := keep_cell c9_8 hB10
  have c10_9 : w10.cell? ⟨w5.heap.size, 1, none⟩ = some (.int .i64 bt) := keep_cell c9_9 hB10
  have z10_0 : w.heap.size < w10.heap.size := cell_lt c10_0
  have z10_1 : w.heap.size + 1 < w10.heap.size := cell_lt c10_2
  have z10_2 : w.heap.size + 1 + 1 < w10.heap.size := cell_lt c10_4
  have z10_3 : w4.heap.size < w10.heap.size := cell_lt c10_6
  have z10_4 : w5.heap.size < w10.heap.size := cell_lt c10_8
  clear hB10 c9_0 c9_1 c9_2 c9_3 c9_4 c9_5 c9_6 c9_7 c9_8 c9_9 z9_0 z9_1 z9_2 z9_3 z9_4
  go_wp2_with fail
  refine (within_yes af bt bf bt HS.out HB.out HSB.out _).mono ?_
  rintro e w11 ⟨rfl, hB11⟩
  have HB11 : Hid (Below w.heap.size w w11) := below_up HB10.out hB11
  have c11_0 : w11.cell? ⟨w.heap.size, 0, none⟩ = some (.int .i64 af) := keep_cell c10_0 hB11
  have c11_1 : w11.cell? ⟨w.heap.size, 1, none⟩ = some (.int .i64 at_) := keep_cell c10_1 hB11
  have c11_2 : w11.cell? ⟨w.heap.size + 1, 0, none⟩ = some (.int .i64 bf) := keep_cell c10_2 hB11
  have c11_3 : w11.cell? ⟨w.heap.size + 1, 1, none⟩ = some (.int .i64 bt) := keep_cell c10_3 hB11
  have c11_4 : w11.cell? ⟨w.heap.size + 1 + 1, 0, none⟩ = some (.int .i64 cf) := keep_cell c10_4 hB11
  have c11_5 : w11.cell? ⟨w.heap.size + 1 + 1, 1, none⟩ = some (.int .i64 ct) := keep_cell c10_5 hB11
  have c11_6 : w11.cell? ⟨w4.heap.size, 0, none⟩ = some (.int .i64 af) := keep_cell c10_6 hB11
  have c11_7 : w11.cell? ⟨w4.heap.size, 1, none⟩ = some (.int .i64 bt) := keep_cell c10_7 hB11
  have c11_8 : w11.cell? ⟨w5.heap.size, 0, none⟩ = some (.int .i64 af) := keep_cell c10_8 hB11
  have c11_9 : w11.cell? ⟨w5.heap.size, 1, none⟩ = some (.int .i64 bt) := keep_cell c10_9 hB11
  have z11_0 : w.heap.size < w11.heap.size := cell_lt c11_0
  have z11_1 : w.heap.size + 1 < w11.heap.size := cell_lt c11_2
  have z11_2 : w.heap.size + 1 + 1 < w11.heap.size := cell_lt c11_4
  have z11_3 : w4.heap.size < w11.heap.size := cell_lt c11_6
  have z11_4 : w5.heap.size < w11.heap.size := cell_lt c11_8
  clear hB11 c10_0 c10_1 c10_2 c10_3 c10_4 c10_5 c10_6 c10_7 c10_8 c10_9 z10_0 z10_1 z10_2 z10_3 z10_4
  cases p <;> cases q <;> (go_wp2_with fail; go_ret; exact ⟨rfl, HB11.out⟩)
theorem meetsLaw (w : World) (af at_ : Int) (wa : (Lit.int .i64 af).wf = true) (wa' : (Lit.int .i64 at_).wf = true) (bf bt : Int) (wb : (Lit.int .i64 bf).wf = true) (wb' : (Lit.int .i64 bt).wf = true) (cf ct : Int) (wc : (Lit.int .i64 cf).wf = true) (wc' : (Lit.int .i64 ct).wf = true) :
    Calls Try.prog 5 #[.agg #[.int .i64 af, .int .i64 at_], .agg #[.int .i64 bf, .int .i64 bt], .agg #[.int .i64 cf, .int .i64 ct]] w fun e w' => e = .returned (.bool true) ∧ Below w.heap.size w w' := by
  by_cases ha : may af at_ ∧ may bf bt
  · obtain ⟨ha, hb⟩ := ha
    obtain ⟨p, hp⟩ : ∃ p : Bool, (p = true ↔ inside cf ct af at_) := ⟨decide (cf ≥ af ∧ ct ≤ at_), by simp [inside]⟩
    obtain ⟨q, hq⟩ : ∃ q : Bool, (q = true ↔ inside cf ct bf bt) := ⟨decide (cf ≥ bf ∧ ct ≤ bt), by simp [inside]⟩
    by_cases hh : meets af at_ bf bt
    · by_cases h1 : af < bf
      · by_cases hc : may cf ct
        · exact meets_yes1_y w af at_ bf bt cf ct ha hb hh h1 hc p q hp hq
        · exact meets_yes1_n w af at_ bf bt cf ct ha hb hh h1 hc
      · by_cases h2 : bt < at_
        · by_cases hc : may cf ct
          · exact meets_yes2_y w af at_ bf bt cf ct ha hb hh (by omega) h2 hc p q hp hq
          · exact meets_yes2_n w af at_ bf bt cf ct ha hb hh (by omega) h2 hc
        · by_cases hc : may cf ct
          · exact meets_yes0_y w af at_ bf bt cf ct ha hb hh (by omega) (by omega) hc p q hp hq
          · exact meets_yes0_n w af at_ bf bt cf ct ha hb hh (by omega) (by omega) hc
    · by_cases hc : may cf ct
      · exact meets_no_y w af at_ bf bt cf ct ha hb hh false rfl hc p q hp hq
      · exact meets_no_n w af at_ bf bt cf ct ha hb hh false rfl hc
  · exact meets_bad w af at_ bf bt cf ct ha
end Go.Proofs.Ytbmdmhmdjidflaa.TimeLaws3
