/- The walks of the laws of layer 7: each returns true, and nothing that was there has turned. -/
import Derived.Test.YtbmdmhmdjidflaaTimeRef3
import Derived.Laws.StructEq
namespace Go.Proofs.Ytbmdmhmdjidflaa.TimeLaws
open Go.RowKit Mem TimeWalks TimeAsked TimeRef TimeRef2 TimeRef3
set_option linter.unusedVariables false

set_option maxHeartbeats 2000000 in
theorem alive_any (w : World) :
    Calls Try.prog 10 #[] w fun e w' => e = .returned (.bool true) ∧ Below w.heap.size w w' := by
  have e1 : plus 5 3 = 8 := by decide
  have e2 : mx 1 3 = 3 := by decide
  have e3 : mn 5 9 = 5 := by decide
  have e4 : plus 2 3 = 5 := by decide
  have e5 : plus 1099511627776 1 = 1099511627776 := by decide
  go_enter Try.func10, Try.ntmps10
  go_wp2_with fail
  refine (from_ok 5 3 (by omega) (by omega) (by omega) _).mono ?_
  rintro e w1 ⟨rfl, hB1⟩
  have HB1 : Hid (Below w.heap.size w w1) := below_up (Below.refl _ _) hB1
  clear hB1  
  go_wp2_with fail
  refine (both_yes 1 5 3 9 (by unfold may; omega) (by unfold may; omega) (by unfold meets; omega) _).mono ?_
  rintro e w2 ⟨rfl, hB2⟩
  have HB2 : Hid (Below w.heap.size w w2) := below_up (below_alloc HB1.out) hB2
  have c2_0 : w2.cell? ⟨w1.heap.size, 0, none⟩ = some (.int .i64 5) := keep_cell (box0 w1 _ _ 0) hB2
  have c2_1 : w2.cell? ⟨w1.heap.size, 1, none⟩ = some (.int .i64 8) := keep_cell (box0 w1 _ _ 1) hB2
  have z2_0 : w1.heap.size < w2.heap.size := cell_lt c2_0
  clear hB2  
  go_wp2_with fail
  refine (plus_any 2 3 _).mono ?_
  rintro e w' ⟨rfl, rfl⟩
  go_wp2_with fail
  refine (plus_any 1099511627776 1 _).mono ?_
  rintro e w' ⟨rfl, rfl⟩
  go_wp2_with fail
  go_ret
  exact ⟨rfl, (below_alloc HB2.out)⟩
set_option maxHeartbeats 2000000 in
theorem names (w : World) :
    Calls Try.prog 3 #[] w fun e w' => e = .returned (.bool true) ∧ Below w.heap.size w w' := by
  have e1 : plus 1099511627775 9 = 1099511627776 := by decide
  have e2 : plus (-5) 3 = 3 := by decide
  have e3 : plus 9223372036854775807 9223372036854775807 = 1099511627776 := by decide
  go_enter Try.func3, Try.ntmps3
  go_wp2_with fail
  refine (from_bad 1099511627776 1 (by omega) _).mono ?_
  rintro e w1 ⟨rfl, hB1⟩
  have HB1 : Hid (Below w.heap.size w w1) := below_up (Below.refl _ _) hB1
  clear hB1  
  go_wp2_with fail
  refine (from_ok 1099511627775 9 (by omega) (by omega) (by omega) _).mono ?_
  rintro e w2 ⟨rfl, hB2⟩
  have HB2 : Hid (Below w.heap.size w w2) := below_up (below_alloc HB1.out) hB2
  have c2_0 : w2.cell? ⟨w1.heap.size, 0, none⟩ = some (.int .i64 0) := keep_cell (box0 w1 _ _ 0) hB2
  have c2_1 : w2.cell? ⟨w1.heap.size, 1, none⟩ = some (.int .i64 0) := keep_cell (box0 w1 _ _ 1) hB2
  have z2_0 : w1.heap.size < w2.heap.size := cell_lt c2_0
  clear hB2  
  go_wp2_with fail
  refine (both_none 1 3 3 4 (by unfold may; omega) (by unfold may; omega) (by unfold meets; omega) _).mono ?_
  rintro e w3 ⟨rfl, hB3⟩
  have HB3 : Hid (Below w.heap.size w w3) := below_up (below_alloc HB2.out) hB3
  have c3_0 : w3.cell? ⟨w1.heap.size, 0, none⟩ = some (.int .i64 0) := keep_cell (cell_over _ c2_0) hB3
  have c3_1 : w3.cell? ⟨w1.heap.size, 1, none⟩ = some (.int .i64 0) := keep_cell (cell_over _ c2_1) hB3
  have c3_2 : w3.cell? ⟨w2.heap.size, 0, none⟩ = some (.int .i64 1099511627775) := keep_cell (box0 w2 _ _ 0) hB3
  have c3_3 : w3.cell? ⟨w2.heap.size, 1, none⟩ = some (.int .i64 1099511627776) := keep_cell (box0 w2 _ _ 1) hB3
  have z3_0 : w1.heap.size < w3.heap.size := cell_lt c3_0
  have z3_1 : w2.heap.size < w3.heap.size := cell_lt c3_2
  clear hB3 c2_0 c2_1 z2_0
  go_wp2_with fail
  refine (alive_any _).mono ?_
  rintro e w4 ⟨rfl, hB4⟩
  have HB4 : Hid (Below w.heap.size w w4) := below_up (below_alloc HB3.out) hB4
  have c4_0 : w4.cell? ⟨w1.heap.size, 0, none⟩ = some (.int .i64 0) := keep_cell (cell_over _ c3_0) hB4
  have c4_1 : w4.cell? ⟨w1.heap.size, 1, none⟩ = some (.int .i64 0) := keep_cell (cell_over _ c3_1) hB4
  have c4_2 : w4.cell? ⟨w2.heap.size, 0, none⟩ = some (.int .i64 1099511627775) := keep_cell (cell_over _ c3_2) hB4
  have c4_3 : w4.cell? ⟨w2.heap.size, 1, none⟩ = some (.int .i64 1099511627776) := keep_cell (cell_over _ c3_3) hB4
  have c4_4 : w4.cell? ⟨w3.heap.size, 0, none⟩ = some (.int .i64 0) := keep_cell (box0 w3 _ _ 0) hB4
  have c4_5 : w4.cell? ⟨w3.heap.size, 1, none⟩ = some (.int .i64 0) := keep_cell (box0 w3 _ _ 1) hB4
  have z4_0 : w1.heap.size < w4.heap.size := cell_lt c4_0
  have z4_1 : w2.heap.size < w4.heap.size := cell_lt c4_2
  have z4_2 : w3.heap.size < w4.heap.size := cell_lt c4_4
  clear hB4 c3_0 c3_1 c3_2 c3_3 z3_0 z3_1
  go_wp2_with fail
  refine (plus_any (-5) 3 _).mono ?_
  rintro e w' ⟨rfl, rfl⟩
  go_wp2_with fail
  refine (plus_any 9223372036854775807 9223372036854775807 _).mono ?_
  rintro e w' ⟨rfl, rfl⟩
  go_wp2_with fail
  refine (check_bad 0 0 (by unfold may; omega) _).mono ?_
  rintro e w5 ⟨rfl, hB5⟩
  have HB5 : Hid (Below w.heap.size w w5) := below_up HB4.out hB5
  have c5_0 : w5.cell? ⟨w1.heap.size, 0, none⟩ = some (.int .i64 0) := keep_cell c4_0 hB5
  have c5_1 : w5.cell? ⟨w1.heap.size, 1, none⟩ = some (.int .i64 0) := keep_cell c4_1 hB5
  have c5_2 : w5.cell? ⟨w2.heap.size, 0, none⟩ = some (.int .i64 1099511627775) := keep_cell c4_2 hB5
  have c5_3 : w5.cell? ⟨w2.heap.size, 1, none⟩ = some (.int .i64 1099511627776) := keep_cell c4_3 hB5
  have c5_4 : w5.cell? ⟨w3.heap.size, 0, none⟩ = some (.int .i64 0) := keep_cell c4_4 hB5
  have c5_5 : w5.cell? ⟨w3.heap.size, 1, none⟩ = some (.int .i64 0) := keep_cell c4_5 hB5
  have z5_0 : w1.heap.size < w5.heap.size := cell_lt c5_0
  have z5_1 : w2.heap.size < w5.heap.size := cell_lt c5_2
  have z5_2 : w3.heap.size < w5.heap.size := cell_lt c5_4
  clear hB5 c4_0 c4_1 c4_2 c4_3 c4_4 c4_5 z4_0 z4_1 z4_2
  go_wp2_with fail
  go_ret
  exact ⟨rfl, HB5.out⟩
theorem wn_id {x : Int} (h0 : 0 ≤ x) (h1 : x ≤ 1099511627776) : wn x = x := by unfold wn; rw [if_neg (by omega), if_neg (by omega)]
theorem plus_eq (a b : Int) : plus a b = if 1099511627776 < wn a + wn b then 1099511627776 else wn a + wn b := by
  have ha := wn_range a
  have hb := wn_range b
  unfold plus
  have hx : 0 ≤ wn a + wn b := by omega
  generalize wn a + wn b = x at *
  generalize hy : wn x = y
  unfold wn at hy
  split at hy
  · split <;> omega
  · split at hy <;> split <;> omega
theorem plus_range (a b : Int) : 0 ≤ plus a b ∧ plus a b ≤ 1099511627776 := wn_range _
theorem plus_comm (a b : Int) : plus b a = plus a b := by unfold plus; rw [Int.add_comm]
theorem plus_assoc (a b c : Int) : plus a (plus b c) = plus (plus a b) c := by
  have h1 := plus_range a b
  have h2 := plus_range b c
  have ha := wn_range a
  have hb := wn_range b
  have hc := wn_range c
  rw [plus_eq a (plus b c), plus_eq (plus a b) c, wn_id h2.1 h2.2, wn_id h1.1 h1.2, plus_eq a b, plus_eq b c]
  split <;> split <;> split <;> split <;> omega
theorem wn_mono {x y : Int} (h : x ≤ y) : wn x ≤ wn y := by
  unfold wn
  split <;> split <;> (try split) <;> (try split) <;> omega
theorem plus_mono (a : Int) {b c : Int} (h : b ≤ c) : plus a b ≤ plus a c := by
  have h1 := wn_mono h
  unfold plus
  exact wn_mono (by omega)
theorem plus_le (a b : Int) : wn a ≤ plus a b := by
  have ha := wn_range a
  have hb := wn_range b
  rw [plus_eq]
  split <;> omega
theorem plus_zero_le (a b : Int) : plus a 0 ≤ plus a b := by
  have ha := wn_range a
  have hb := wn_range b
  rw [plus_eq, plus_eq, show wn 0 = 0 from rfl]
  split <;> split <;> omega
theorem plus_up (n c : Int) (h0 : 0 ≤ n) (h1 : n ≤ 1099511627776) : n ≤ plus n c := by
  have h := plus_le n c
  rwa [wn_id h0 h1] at h
set_option maxHeartbeats 2000000 in
theorem sums_i64 (w : World) (a b c : Int) :
    Calls Try.prog 4 #[.int .i64 a, .int .i64 b, .int .i64 c] w fun e w' => e = .returned (.bool true) ∧ Below w.heap.size w w' := by
  have hr := plus_range a b
  obtain ⟨hr0, hr1⟩ := hr
  have hu := plus_up (plus a b) c hr0 hr1
  have hz := plus_zero_le a b
  have hc := plus_comm a b
  have ha := plus_assoc a b c
  have hmb := plus_mono a (Int.le_max_left b c)
  have HMB := Lib.hid hmb
  clear hmb
  by_cases hbc : b < c
  · have hm : plus a b ≤ plus a c := plus_mono a (by omega)
    clear HMB
    go_enter Try.func4, Try.ntmps4
    go_wp2_with fail
    refine (plus_any a b _).mono ?_
    rintro e w' ⟨rfl, rfl⟩
    go_wp2_with fail
    refine (plus_any (plus a b) c _).mono ?_
    rintro e w' ⟨rfl, rfl⟩
    go_wp2_with fail
    refine (plus_any b c _).mono ?_
    rintro e w' ⟨rfl, rfl⟩
    go_wp2_with fail
    refine (plus_any a (plus b c) _).mono ?_
    rintro e w' ⟨rfl, rfl⟩
    go_wp2_with fail
    refine (plus_any a c _).mono ?_
    rintro e w' ⟨rfl, rfl⟩
    go_wp2_with fail
    refine (alive_any _).mono ?_
    rintro e w1 ⟨rfl, hB1⟩
    have HB1 : Hid (Below w.heap.size w w1) := below_up (Below.refl _ _) hB1
    clear hB1  
    go_wp2_with fail
    refine (plus_any b a _).mono ?_
    rintro e w' ⟨rfl, rfl⟩
    go_wp2_with fail
    refine (plus_any a 0 _).mono ?_
    rintro e w' ⟨rfl, rfl⟩
    go_wp2_with fail
    go_ret
    exact ⟨rfl, HB1.out⟩
  · have hm : plus a b ≤ plus a b := plus_mono a (by omega)
    clear HMB
    go_enter Try.func4, Try.ntmps4
    go_wp2_with fail
    refine (plus_any a b _).mono ?_
    rintro e w' ⟨rfl, rfl⟩
    go_wp2_with fail
    refine (plus_any (plus a b) c _).mono ?_
    rintro e w' ⟨rfl, rfl⟩
    go_wp2_with fail
    refine (plus_any b c _).mono ?_
    rintro e w' ⟨rfl, rfl⟩
    go_wp2_with fail
    refine (plus_any a (plus b c) _).mono ?_
    rintro e w' ⟨rfl, rfl⟩
    go_wp2_with fail
    refine (plus_any a b _).mono ?_
    rintro e w' ⟨rfl, rfl⟩
    go_wp2_with fail
    refine (alive_any _).mono ?_
    rintro e w1 ⟨rfl, hB1⟩
    have HB1 : Hid (Below w.heap.size w w1) := below_up (Below.refl _ _) hB1
    clear hB1  
    go_wp2_with fail
    refine (plus_any b a _).mono ?_
    rintro e w' ⟨rfl, rfl⟩
    go_wp2_with fail
    refine (plus_any a 0 _).mono ?_
    rintro e w' ⟨rfl, rfl⟩
    go_wp2_with fail
    go_ret
    exact ⟨rfl, HB1.out⟩
theorem sums (w : World) (a : Int) (wa : (Lit.int .i64 a).wf = true) (b : Int) (wb : (Lit.int .i64 b).wf = true) (c : Int) (wc : (Lit.int .i64 c).wf = true) :
    Calls Try.prog 4 #[.int .i64 a, .int .i64 b, .int .i64 c] w fun e w' => e = .returned (.bool true) ∧ Below w.heap.size w w' := sums_i64 w a b c
end Go.Proofs.Ytbmdmhmdjidflaa.TimeLaws
