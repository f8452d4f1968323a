/- The walk of the law TimeFrom: it returns true, and nothing that was there has turned. -/
import Derived.Test.YtbmdmhmdjidflaaTimeLaws
namespace Go.Proofs.Ytbmdmhmdjidflaa.TimeLaws2
open Go.RowKit Mem TimeWalks TimeAsked TimeRef TimeRef2 TimeRef3 TimeLaws
set_option linter.unusedVariables false

theorem plus_from {a n : Int} (h0 : 0 ≤ a) (h1 : a < 1099511627776) (h2 : 1 ≤ n) : may a (plus a n) ∧ plus a n ≤ a + n ∧ (plus a n < a + n → plus a n = 1099511627776) := by
  have hn : 1 ≤ wn n ∧ wn n ≤ n ∧ (wn n < n → wn n = 1099511627776) := by
    unfold wn
    rw [if_neg (by omega)]
    split <;> omega
  unfold may
  rw [plus_eq, wn_id h0 (by omega)]
  split <;> omega
set_option maxHeartbeats 4000000 in
theorem from_bad0 (w : World) (a n m : Int) (h : a < 0) :
    Calls Try.prog 6 #[.int .i64 a, .int .i64 n, .int .i64 m] w fun e w' => e = .returned (.bool true) ∧ Below w.heap.size w w' := by
  have HX : Hid (a < 0 ∨ 1099511627776 ≤ a ∨ n < 1) := by show _ ∨ _; omega
  go_enter Try.func6, Try.ntmps6
  go_wp2_with fail
  refine (alive_any _).mono ?_
  rintro e w1 ⟨rfl, hB1⟩
  have HB1 : Hid (Below w.heap.size w w1) := below_up (Below.refl _ _) hB1
  clear hB1  
  go_wp2_with fail
  refine (from_bad a n HX.out _).mono ?_
  rintro e w2 ⟨rfl, hB2⟩
  have HB2 : Hid (Below w.heap.size w w2) := below_up HB1.out hB2
  clear hB2  
  go_wp2_with fail
  go_ret
  exact ⟨rfl, (below_alloc HB2.out)⟩
set_option maxHeartbeats 4000000 in
theorem from_bad1 (w : World) (a n m : Int) (h0 : 0 ≤ a) (h : 1099511627776 ≤ a) :
    Calls Try.prog 6 #[.int .i64 a, .int .i64 n, .int .i64 m] w fun e w' => e = .returned (.bool true) ∧ Below w.heap.size w w' := by
  have HX : Hid (a < 0 ∨ 1099511627776 ≤ a ∨ n < 1) := by show _ ∨ _; omega
  go_enter Try.func6, Try.ntmps6
  go_wp2_with fail
  refine (alive_any _).mono ?_
  rintro e w1 ⟨rfl, hB1⟩
  have HB1 : Hid (Below w.heap.size w w1) := below_up (Below.refl _ _) hB1
  clear hB1  
  go_wp2_with fail
  refine (from_bad a n HX.out _).mono ?_
  rintro e w2 ⟨rfl, hB2⟩
  have HB2 : Hid (Below w.heap.size w w2) := below_up HB1.out hB2
  clear hB2  
  go_wp2_with fail
  go_ret
  exact ⟨rfl, (below_alloc HB2.out)⟩
set_option maxHeartbeats 4000000 in
theorem from_bad2 (w : World) (a n m : Int) (h0 : 0 ≤ a) (h1 : a < 1099511627776) (h : n < 1) :
    Calls Try.prog 6 #[.int .i64 a, .int .i64 n, .int .i64 m] w fun e w' => e = .returned (.bool true) ∧ Below w.heap.size w w' := by
  have HX : Hid (a < 0 ∨ 1099511627776 ≤ a ∨ n < 1) := by show _ ∨ _; omega
  go_enter Try.func6, Try.ntmps6
  go_wp2_with fail
  refine (alive_any _).mono ?_
  rintro e w1 ⟨rfl, hB1⟩
  have HB1 : Hid (Below w.heap.size w w1) := below_up (Below.refl _ _) hB1
  clear hB1  
  go_wp2_with fail
  refine (from_bad a n HX.out _).mono ?_
  rintro e w2 ⟨rfl, hB2⟩
  have HB2 : Hid (Below w.heap.size w w2) := below_up HB1.out hB2
  clear hB2  
  go_wp2_with fail
  go_ret
  exact ⟨rfl, (below_alloc HB2.out)⟩
set_option maxHeartbeats 4000000 in
theorem from_end (w : World) (a n m : Int) (h0 : 0 ≤ a) (h1 : a < 1099511627776) (h2 : 1 ≤ n) (hx : plus a n = 1099511627776 ∨ m < 1) :
    Calls Try.prog 6 #[.int .i64 a, .int .i64 n, .int .i64 m] w fun e w' => e = .returned (.bool true) ∧ Below w.heap.size w w' := by
  obtain ⟨hm, ht1, ht2⟩ := plus_from h0 h1 h2
  have hp1 := hm.2.1
  have hp2 := hm.2.2
  have HM := Lib.hid hm
  have HT2 := Lib.hid ht2
  clear hm ht2
  have hlt : ¬ plus a n - a < n ∨ plus a n = 1099511627776 := by by_cases h : plus a n - a < n; exact .inr (HT2.out (by omega)); exact .inl h
  have HX := Lib.hid hx
  clear HT2 hx
  by_cases ht : plus a n = 1099511627776
  · have HT := Lib.hid ht
    have HY : Hid (plus a n < 0 ∨ 1099511627776 ≤ plus a n ∨ m < 1) := by show _ ∨ _; rw [HT.out]; omega
    clear ht hlt
    rw [HT.out] at HM HY hp1 ht1
    by_cases hl : 1099511627776 - a < n
    · clear HX
      go_enter Try.func6, Try.ntmps6
      go_wp2_with fail
      refine (alive_any _).mono ?_
      rintro e w1 ⟨rfl, hB1⟩
      have HB1 : Hid (Below w.heap.size w w1) := below_up (Below.refl _ _) hB1
      clear hB1  
      go_wp2_with fail
      refine (from_ok a n h0 h1 h2 _).mono ?_
      rintro e w2 ⟨rfl, hB2⟩
      have HB2 : Hid (Below w.heap.size w w2) := below_up HB1.out hB2
      clear hB2  
      rw [HT.out]
      go_wp2_with fail
      refine (long_ok a 1099511627776 HM.out _).mono ?_
      rintro e w3 ⟨rfl, hB3⟩
      have HB3 : Hid (Below w.heap.size w w3) := below_up (below_alloc HB2.out) hB3
      have c3_0 : w3.cell? ⟨w2.heap.size, 0, none⟩ = some (.int .i64 a) := keep_cell (box0 w2 _ _ 0) hB3
      have c3_1 : w3.cell? ⟨w2.heap.size, 1, none⟩ = some (.int .i64 1099511627776) := keep_cell (box0 w2 _ _ 1) hB3
      have z3_0 : w2.heap.size < w3.heap.size := cell_lt c3_0
      clear hB3  
      go_wp2_with fail
      refine (check_ok a 1099511627776 HM.out _).mono ?_
      rintro e w4 ⟨rfl, hB4⟩
      have HB4 : Hid (Below w.heap.size w w4) := below_up HB3.out hB4
      have c4_0 : w4.cell? ⟨w2.heap.size, 0, none⟩ = some (.int .i64 a) := keep_cell c3_0 hB4
      have c4_1 : w4.cell? ⟨w2.heap.size, 1, none⟩ = some (.int .i64 1099511627776) := keep_cell c3_1 hB4
      have z4_0 : w2.heap.size < w4.heap.size := cell_lt c4_0
      clear hB4 c3_0 c3_1 z3_0
      go_wp2_with fail
      refine (from_bad 1099511627776 m HY.out _).mono ?_
      rintro e w5 ⟨rfl, hB5⟩
      have HB5 : Hid (Below w.heap.size w w5) := below_up HB4.out hB5
      have c5_0 : w5.cell? ⟨w2.heap.size, 0, none⟩ = some (.int .i64 a) := keep_cell c4_0 hB5
      have c5_1 : w5.cell? ⟨w2.heap.size, 1, none⟩ = some (.int .i64 1099511627776) := keep_cell c4_1 hB5
      have z5_0 : w2.heap.size < w5.heap.size := cell_lt c5_0
      clear hB5 c4_0 c4_1 z4_0
      go_wp2_with fail
      go_ret
      exact ⟨rfl, (below_alloc HB5.out)⟩
    · have hl2 : n ≤ 1099511627776 - a := by omega
      go_enter Try.func6, Try.ntmps6
      go_wp2_with fail
      refine (alive_any _).mono ?_
      rintro e w1 ⟨rfl, hB1⟩
      have HB1 : Hid (Below w.heap.size w w1) := below_up (Below.refl _ _) hB1
      clear hB1  
      go_wp2_with fail
      refine (from_ok a n h0 h1 h2 _).mono ?_
      rintro e w2 ⟨rfl, hB2⟩
      have HB2 : Hid (Below w.heap.size w w2) := below_up HB1.out hB2
      clear hB2  
      rw [HT.out]
      go_wp2_with fail
      refine (long_ok a 1099511627776 HM.out _).mono ?_
      rintro e w3 ⟨rfl, hB3⟩
      have HB3 : Hid (Below w.heap.size w w3) := below_up (below_alloc HB2.out) hB3
      have c3_0 : w3.cell? ⟨w2.heap.size, 0, none⟩ = some (.int .i64 a) := keep_cell (box0 w2 _ _ 0) hB3
      have c3_1 : w3.cell? ⟨w2.heap.size, 1, none⟩ = some (.int .i64 1099511627776) := keep_cell (box0 w2 _ _ 1) hB3
      have z3_0 : w2.heap.size < w3.heap.size := cell_lt c3_0
      clear hB3  
      go_wp2_with fail
      refine (check_ok a 1099511627776 HM.out _).mono ?_
      rintro e w4 ⟨rfl, hB4⟩
      have HB4 : Hid (Below w.heap.size w w4) := below_up HB3.out hB4
      have c4_0 : w4.cell? ⟨w2.heap.size, 0, none⟩ = some (.int .i64 a) := keep_cell c3_0 hB4
      have c4_1 : w4.cell? ⟨w2.heap.size, 1, none⟩ = some (.int .i64 1099511627776) := keep_cell c3_1 hB4
      have z4_0 : w2.heap.size < w4.heap.size := cell_lt c4_0
      clear hB4 c3_0 c3_1 z3_0
      go_wp2_with fail
      refine (from_bad 1099511627776 m HY.out _).mono ?_
      rintro e w5 ⟨rfl, hB5⟩
      have HB5 : Hid (Below w.heap.size w w5) := below_up HB4.out hB5
      have c5_0 : w5.cell? ⟨w2.heap.size, 0, none⟩ = some (.int .i64 a) := keep_cell c4_0 hB5
      have c5_1 : w5.cell? ⟨w2.heap.size, 1, none⟩ = some (.int .i64 1099511627776) := keep_cell c4_1 hB5
      have z5_0 : w2.heap.size < w5.heap.size := cell_lt c5_0
      clear hB5 c4_0 c4_1 z4_0
      go_wp2_with fail
      go_ret
      exact ⟨rfl, (below_alloc HB5.out)⟩
  · have hm1 : m < 1 := by have := HX.out; omega
    have hl : ¬ plus a n - a < n := by omega
    have HY : Hid (plus a n < 0 ∨ 1099511627776 ≤ plus a n ∨ m < 1) := by show _ ∨ _; omega
    clear hlt HX
    go_enter Try.func6, Try.ntmps6
    go_wp2_with fail
    refine (alive_any _).mono ?_
    rintro e w1 ⟨rfl, hB1⟩
    have HB1 : Hid (Below w.heap.size w w1) := below_up (Below.refl _ _) hB1
    clear hB1  
    go_wp2_with fail
    refine (from_ok a n h0 h1 h2 _).mono ?_
    rintro e w2 ⟨rfl, hB2⟩
    have HB2 : Hid (Below w.heap.size w w2) := below_up HB1.out hB2
    clear hB2  
    generalize plus a n = T at *
    go_wp2_with fail
    refine (long_ok a T HM.out _).mono ?_
    rintro e w3 ⟨rfl, hB3⟩
    have HB3 : Hid (Below w.heap.size w w3) := below_up (below_alloc HB2.out) hB3
    have c3_0 : w3.cell? ⟨w2.heap.size, 0, none⟩ = some (.int .i64 a) := keep_cell (box0 w2 _ _ 0) hB3
    have c3_1 : w3.cell? ⟨w2.heap.size, 1, none⟩ = some (.int .i64 T) := keep_cell (box0 w2 _ _ 1) hB3
    have z3_0 : w2.heap.size < w3.heap.size := cell_lt c3_0
    clear hB3  
    go_wp2_with fail
    refine (check_ok a T HM.out _).mono ?_
    rintro e w4 ⟨rfl, hB4⟩
    have HB4 : Hid (Below w.heap.size w w4) := below_up HB3.out hB4
    have c4_0 : w4.cell? ⟨w2.heap.size, 0, none⟩ = some (.int .i64 a) := keep_cell c3_0 hB4
    have c4_1 : w4.cell? ⟨w2.heap.size, 1, none⟩ = some (.int .i64 T) := keep_cell c3_1 hB4
    have z4_0 : w2.heap.size < w4.heap.size := cell_lt c4_0
    clear hB4 c3_0 c3_1 z3_0
    go_wp2_with fail
    refine (from_bad T m HY.out _).mono ?_
    rintro e w5 ⟨rfl, hB5⟩
    have HB5 : Hid (Below w.heap.size w w5) := below_up HB4.out hB5
    have c5_0 : w5.cell? ⟨w2.heap.size, 0, none⟩ = some (.int .i64 a) := keep_cell c4_0 hB5
    have c5_1 : w5.cell? ⟨w2.heap.size, 1, none⟩ = some (.int .i64 T) := keep_cell c4_1 hB5
    have z5_0 : w2.heap.size < w5.heap.size := cell_lt c5_0
    clear hB5 c4_0 c4_1 z4_0
    go_wp2_with fail
    go_ret
    exact ⟨rfl, (below_alloc HB5.out)⟩
set_option maxHeartbeats 4000000 in
theorem from_both (w : World) (a n m : Int) (h0 : 0 ≤ a) (h1 : a < 1099511627776) (h2 : 1 ≤ n) (hx : plus a n < 1099511627776) (hm : 1 ≤ m) :
    Calls Try.prog 6 #[.int .i64 a, .int .i64 n, .int .i64 m] w fun e w' => e = .returned (.bool true) ∧ Below w.heap.size w w' := by
  obtain ⟨hma, ht1, ht2⟩ := plus_from h0 h1 h2
  have hp0 := hma.1
  have hp1 := hma.2.1
  have hp2 : 0 ≤ plus a n := by omega
  obtain ⟨hmb, _, _⟩ := plus_from hp2 hx hm
  have hne : ¬ plus a n - a < n := fun h => by have := ht2 (by omega); omega
  clear ht2
  have HMA := Lib.hid hma
  have HMB := Lib.hid hmb
  clear hma hmb
  have hp3 : Hid (¬ meets a (plus a n) (plus a n) (plus (plus a n) m)) := by show ¬ meets _ _ _ _; unfold meets; omega
  go_enter Try.func6, Try.ntmps6
  go_wp2_with fail
  refine (alive_any _).mono ?_
  rintro e w1 ⟨rfl, hB1⟩
  have HB1 : Hid (Below w.heap.size w w1) := below_up (Below.refl _ _) hB1
  clear hB1  
  go_wp2_with fail
  refine (from_ok a n h0 h1 h2 _).mono ?_
  rintro e w2 ⟨rfl, hB2⟩
  have HB2 : Hid (Below w.heap.size w w2) := below_up HB1.out hB2
  clear hB2  
  generalize plus a n = T at *
  go_wp2_with fail
  refine (long_ok a T HMA.out _).mono ?_
  rintro e w3 ⟨rfl, hB3⟩
  have HB3 : Hid (Below w.heap.size w w3) := below_up (below_alloc HB2.out) hB3
  have c3_0 : w3.cell? ⟨w2.heap.size, 0, none⟩ = some (.int .i64 a) := keep_cell (box0 w2 _ _ 0) hB3
  have c3_1 : w3.cell? ⟨w2.heap.size, 1, none⟩ = some (.int .i64 T) := keep_cell (box0 w2 _ _ 1) hB3
  have z3_0 : w2.heap.size < w3.heap.size := cell_lt c3_0
  clear hB3  
  go_wp2_with fail
  refine (check_ok a T HMA.out _).mono ?_
  rintro e w4 ⟨rfl, hB4⟩
  have HB4 : Hid (Below w.heap.size w w4) := below_up HB3.out hB4
  have c4_0 : w4.cell? ⟨w2.heap.size, 0, none⟩ = some (.int .i64 a) := keep_cell c3_0 hB4
  have c4_1 : w4.cell? ⟨w2.heap.size, 1, none⟩ = some (.int .i64 T) := keep_cell c3_1 hB4
  have z4_0 : w2.heap.size < w4.heap.size := cell_lt c4_0
  clear hB4 c3_0 c3_1 z3_0
  go_wp2_with fail
  refine (from_ok T m hp2 hx hm _).mono ?_
  rintro e w5 ⟨rfl, hB5⟩
  have HB5 : Hid (Below w.heap.size w w5) := below_up HB4.out hB5
  have c5_0 : w5.cell? ⟨w2.heap.size, 0, none⟩ = some (.int .i64 a) := keep_cell c4_0 hB5
  have c5_1 : w5.cell? ⟨w2.heap.size, 1, none⟩ = some (.int .i64 T) := keep_cell c4_1 hB5
  have z5_0 : w2.heap.size < w5.heap.size := cell_lt c5_0
  clear hB5 c4_0 c4_1 z4_0
  generalize plus T m = U at *
  go_wp2_with fail
  refine (meet_no a T T U HMA.out HMB.out hp3.out _).mono ?_
  rintro e w6 ⟨rfl, hB6⟩
  have HB6 : Hid (Below w.heap.size w w6) := below_up (below_alloc HB5.out) hB6
  have c6_0 : w6.cell? ⟨w2.heap.size, 0, none⟩ = some (.int .i64 a) := keep_cell (cell_over _ c5_0) hB6
  have c6_1 : w6.cell? ⟨w2.heap.size, 1, none⟩ = some (.int .i64 T) := keep_cell (cell_over _ c5_1) hB6
  have c6_2 : w6.cell? ⟨w5.heap.size, 0, none⟩ = some (.int .i64 T) := keep_cell (box0 w5 _ _ 0) hB6
  have c6_3 : w6.cell? ⟨w5.heap.size, 1, none⟩ = some (.int .i64 U) := keep_cell (box0 w5 _ _ 1) hB6
  have z6_0 : w2.heap.size < w6.heap.size := cell_lt c6_0
  have z6_1 : w5.heap.size < w6.heap.size := cell_lt c6_2
  clear hB6 c5_0 c5_1 z5_0
  go_wp2_with fail
  go_ret
  exact ⟨rfl, HB6.out⟩
theorem fromLaw (w : World) (a : Int) (wa : (Lit.int .i64 a).wf = true) (n : Int) (wn_ : (Lit.int .i64 n).wf = true) (m : Int) (wm : (Lit.int .i64 m).wf = true) :
    Calls Try.prog 6 #[.int .i64 a, .int .i64 n, .int .i64 m] w fun e w' => e = .returned (.bool true) ∧ Below w.heap.size w w' := by
  by_cases h0 : a < 0
  · exact from_bad0 w a n m h0
  · by_cases h1 : 1099511627776 ≤ a
    · exact from_bad1 w a n m (by omega) h1
    · by_cases h2 : n < 1
      · exact from_bad2 w a n m (by omega) (by omega) h2
      · by_cases hx : plus a n = 1099511627776 ∨ m < 1
        · exact from_end w a n m (by omega) (by omega) (by omega) hx
        · obtain ⟨hma, _, _⟩ := plus_from (a := a) (n := n) (by omega) (by omega) (by omega)
          have := hma.2.2
          exact from_both w a n m (by omega) (by omega) (by omega) (by omega) (by omega)
end Go.Proofs.Ytbmdmhmdjidflaa.TimeLaws2
