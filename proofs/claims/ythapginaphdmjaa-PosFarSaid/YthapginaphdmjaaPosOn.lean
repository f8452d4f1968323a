/- The contracts of pos.Step and of the reference's On: a midplane some steps on. -/
import Derived.Test.YthapginaphdmjaaPosRef
namespace Go.Proofs.Ythapginaphdmjaa.PosOn
open Go.RowKit Go.Shelf PosMath PosCheck PosMany Mem SeqKit PosSeq Round PosAt PosOf PosRef
set_option linter.unusedVariables false

/-- A midplane, some steps on along an axis. -/
def onR (a b c m : Int) : Ax → Int → Int
  | none, k => at_ a b (stp (cx a m) a k) (cy a b m) (cz a b c m)
  | some false, k => at_ a b (cx a m) (stp (cy a b m) b k) (cz a b c m)
  | some true, k => at_ a b (cx a m) (cy a b m) (stp (cz a b c m) c k)
theorem ok_of {a b c m : Int} (h : May a b c) : Ok3 a b c (cx a m) (cy a b m) (cz a b c m) := ⟨cx_range h.1.1, cy_range h.2.1.1, cz_range h.2.2.1⟩
theorem on_range {a b c m : Int} (h : May a b c) (k : Ax) (n : Int) : 0 ≤ onR a b c m k n ∧ onR a b c m k n < num a b c := by
  obtain ⟨hx, hy, hz⟩ := ok_of (m := m) h
  rcases k with _ | _ | _
  · exact at_range h (stp_range h.1.1) hy hz
  · exact at_range h hx (stp_range h.2.1.1) hz
  · exact at_range h hx hy (stp_range h.2.2.1)
theorem round_to (n k r : Int) (hk : 1 ≤ k) (hk' : k ≤ 16) (hr : r = n % k) (w : World) :
    Calls Try.prog 31 #[.int .i64 n, .int .i64 k] w fun e w' => e = .returned (.int .i64 r) ∧ w' = w := by
  subst hr; exact round_any n k hk hk' w
theorem at_ok (a b c x y z : Int) (h : May a b c) (h3 : Ok3 a b c x y z) (w : World) :
    Calls Try.prog 11 #[.agg #[.int .i64 a, .int .i64 b, .int .i64 c], .agg #[.int .i64 x, .int .i64 y, .int .i64 z]] w fun e w' => e = .returned (.tuple #[.int .i64 (at_ a b x y z), .int .i64 0]) ∧ Below w.heap.size w w' := by
  have h := at_may a b c x y z h w
  have e : atR a b c x y z = (at_ a b x y z, 0) := if_pos h3
  rw [e] at h; exact h
set_option maxRecDepth 100000 in
set_option maxHeartbeats 2000000 in
theorem on0 (a b c m by_ : Int) (h : May a b c) (h0 : 0 ≤ m) (h1 : m < num a b c) (w : World) :
    Calls Try.prog 29 #[.agg #[.int .i64 a, .int .i64 b, .int .i64 c], .int .i64 m, .int .i64 0, .int .i64 by_] w fun e w' => e = .returned (.int .i64 (onR a b c m none by_)) ∧ Below w.heap.size w w' := by
  have HH := Lib.hid h
  have h3 : Ok3 a b c (stp (cx a m) a by_) (cy a b m) (cz a b c m) := by
    obtain ⟨hx, hy, hz⟩ := ok_of (m := m) h
    exact ⟨stp_range h.1.1, hy, hz⟩
  have H3 := Lib.hid h3
  have HM := Lib.hid (And.intro h0 h1)
  obtain ⟨⟨q1, q2⟩, ⟨q3, q4⟩, ⟨q5, q6⟩⟩ := ok_of (m := m) h
  obtain ⟨⟨ha, ha'⟩, ⟨hb, hb'⟩, ⟨hc, hc'⟩⟩ := h
  clear h3 h0 h1
  obtain ⟨r, hr⟩ : ∃ r, r = by_ % a := ⟨_, rfl⟩
  have r1 : 0 ≤ r := by rw [hr]; exact Int.emod_nonneg _ (by omega)
  have r2 : r < a := by rw [hr]; exact Int.emod_lt_of_pos _ (by omega)
  have e1 : stp (cx a m) a by_ = (cx a m + r) % a := by rw [hr, Int.add_emod_emod]; rfl
  have HR := Lib.hid hr
  have HE := Lib.hid e1
  clear hr e1
  have f1 : IntKind.i64.wrap (cx a m + r) = cx a m + r := IntWalk.i64_in _ (by omega)
  dsimp only [onR]
  go_enter Try.func29, Try.ntmps29
  go_wp2_with fail
  refine (where_ok a b c m HH.out HM.out.1 HM.out.2 _).mono ?_
  rintro e w1 ⟨rfl, hB1⟩
  have HB1 : Hid (Below w.heap.size w w1) := below_up (below_alloc (Below.refl _ _)) hB1
  have c1_0 : w1.cell? ⟨w.heap.size, 0, none⟩ = some (.int .i64 a) := keep_cell (box0 w 23 #[.int .i64 a, .int .i64 b, .int .i64 c] 0) hB1
  have c1_1 : w1.cell? ⟨w.heap.size, 1, none⟩ = some (.int .i64 b) := keep_cell (box0 w 23 #[.int .i64 a, .int .i64 b, .int .i64 c] 1) hB1
  have c1_2 : w1.cell? ⟨w.heap.size, 2, none⟩ = some (.int .i64 c) := keep_cell (box0 w 23 #[.int .i64 a, .int .i64 b, .int .i64 c] 2) hB1
  have z1_0 : w.heap.size < w1.heap.size := cell_lt c1_0
  clear hB1  
  go_wp2_with fail
  refine still_tail 15 (by kernel_rfl) (by kernel_rfl) ?_
  simp only [List.take_succ_cons, List.take_zero, List.drop_succ_cons, List.drop_zero]
  repeat still_step
  still_call (round_to by_ a r (by omega) (by omega) HR.out _)
  repeat still_step
  still_call (round_to (cx a m + r) a (stp (cx a m) a by_) (by omega) (by omega) HE.out _)
  repeat still_step
  refine wpStill_nil ?_
  go_wp2_with fail
  refine (number_ok a b c (stp (cx a m) a by_) (cy a b m) (cz a b c m) HH.out H3.out _).mono ?_
  rintro e w2 ⟨rfl, hB2⟩
  have HB2 := Lib.hid hB2
  clear hB2
  go_wp2_with fail
  go_ret
  exact ⟨rfl, below_up (below_alloc HB1.out).drew HB2.out⟩
set_option maxRecDepth 100000 in
set_option maxHeartbeats 2000000 in
theorem step0 (a b c m by_ : Int) (h : May a b c) (h0 : 0 ≤ m) (h1 : m < num a b c) (w : World) :
    Calls Try.prog 18 #[.agg #[.int .i64 a, .int .i64 b, .int .i64 c], .int .i64 m, .int .i64 0, .int .i64 by_] w fun e w' => e = .returned (.tuple #[.int .i64 (onR a b c m none by_), .int .i64 0]) ∧ Below w.heap.size w w' := by
  have HH := Lib.hid h
  have h3 : Ok3 a b c (stp (cx a m) a by_) (cy a b m) (cz a b c m) := by
    obtain ⟨hx, hy, hz⟩ := ok_of (m := m) h
    exact ⟨stp_range h.1.1, hy, hz⟩
  have H3 := Lib.hid h3
  have HM := Lib.hid (And.intro h0 h1)
  obtain ⟨⟨q1, q2⟩, ⟨q3, q4⟩, ⟨q5, q6⟩⟩ := ok_of (m := m) h
  obtain ⟨⟨ha, ha'⟩, ⟨hb, hb'⟩, ⟨hc, hc'⟩⟩ := h
  clear h3 h0 h1
  have f0 : ¬ a = 0 := by omega
  obtain ⟨r1, r2⟩ := tmod_range (k := by_) (n := a) (by omega)
  have f1 : IntKind.i64.wrap (cx a m + by_.tmod a) = cx a m + by_.tmod a := IntWalk.i64_in _ (by omega)
  have f2 : IntKind.i64.wrap (cx a m + by_.tmod a + a) = cx a m + by_.tmod a + a := IntWalk.i64_in _ (by omega)
  have f3 : (cx a m + by_.tmod a + a).tmod a = stp (cx a m) a by_ := by rw [Int.tmod_eq_emod_of_nonneg (by omega), tmod_step]
  dsimp only [onR]
  go_enter Try.func18, Try.ntmps18
  go_wp2_with fail
  refine (of_ok a b c m HH.out HM.out.1 HM.out.2 _).mono ?_
  rintro e w1 ⟨rfl, hB1⟩
  have HB1 : Hid (Below w.heap.size w w1) := below_up (below_alloc (Below.refl _ _)) hB1
  have c1_0 : w1.cell? ⟨w.heap.size, 0, none⟩ = some (.int .i64 a) := keep_cell (box0 w 23 #[.int .i64 a, .int .i64 b, .int .i64 c] 0) hB1
  have c1_1 : w1.cell? ⟨w.heap.size, 1, none⟩ = some (.int .i64 b) := keep_cell (box0 w 23 #[.int .i64 a, .int .i64 b, .int .i64 c] 1) hB1
  have c1_2 : w1.cell? ⟨w.heap.size, 2, none⟩ = some (.int .i64 c) := keep_cell (box0 w 23 #[.int .i64 a, .int .i64 b, .int .i64 c] 2) hB1
  have z1_0 : w.heap.size < w1.heap.size := cell_lt c1_0
  clear hB1  
  go_wp2_with fail
  refine still_tail 13 (by kernel_rfl) (by kernel_rfl) ?_
  simp only [List.take_succ_cons, List.take_zero, List.drop_succ_cons, List.drop_zero]
  repeat still_step
  refine wpStill_nil ?_
  go_wp2_with fail
  refine (at_ok a b c (stp (cx a m) a by_) (cy a b m) (cz a b c m) HH.out H3.out _).mono ?_
  rintro e w2 ⟨rfl, hB2⟩
  have HB2 := Lib.hid hB2
  clear hB2
  go_wp2_with fail
  go_ret2
  exact ⟨rfl, below_up (below_alloc HB1.out).drew HB2.out⟩
set_option maxRecDepth 100000 in
set_option maxHeartbeats 2000000 in
theorem on1 (a b c m by_ : Int) (h : May a b c) (h0 : 0 ≤ m) (h1 : m < num a b c) (w : World) :
    Calls Try.prog 29 #[.agg #[.int .i64 a, .int .i64 b, .int .i64 c], .int .i64 m, .int .i64 1, .int .i64 by_] w fun e w' => e = .returned (.int .i64 (onR a b c m (some false) by_)) ∧ Below w.heap.size w w' := by
  have HH := Lib.hid h
  have h3 : Ok3 a b c (cx a m) (stp (cy a b m) b by_) (cz a b c m) := by
    obtain ⟨hx, hy, hz⟩ := ok_of (m := m) h
    exact ⟨hx, stp_range h.2.1.1, hz⟩
  have H3 := Lib.hid h3
  have HM := Lib.hid (And.intro h0 h1)
  obtain ⟨⟨q1, q2⟩, ⟨q3, q4⟩, ⟨q5, q6⟩⟩ := ok_of (m := m) h
  obtain ⟨⟨ha, ha'⟩, ⟨hb, hb'⟩, ⟨hc, hc'⟩⟩ := h
  clear h3 h0 h1
  obtain ⟨r, hr⟩ : ∃ r, r = by_ % b := ⟨_, rfl⟩
  have r1 : 0 ≤ r := by rw [hr]; exact Int.emod_nonneg _ (by omega)
  have r2 : r < b := by rw [hr]; exact Int.emod_lt_of_pos _ (by omega)
  have e1 : stp (cy a b m) b by_ = (cy a b m + r) % b := by rw [hr, Int.add_emod_emod]; rfl
  have HR := Lib.hid hr
  have HE := Lib.hid e1
  clear hr e1
  have f1 : IntKind.i64.wrap (cy a b m + r) = cy a b m + r := IntWalk.i64_in _ (by omega)
  dsimp only [onR]
  go_enter Try.func29, Try.ntmps29
  go_wp2_with fail
  refine (where_ok a b c m HH.out HM.out.1 HM.out.2 _).mono ?_
  rintro e w1 ⟨rfl, hB1⟩
  have HB1 : Hid (Below w.heap.size w w1) := below_up (below_alloc (Below.refl _ _)) hB1
  have c1_0 : w1.cell? ⟨w.heap.size, 0, none⟩ = some (.int .i64 a) := keep_cell (box0 w 23 #[.int .i64 a, .int .i64 b, .int .i64 c] 0) hB1
  have c1_1 : w1.cell? ⟨w.heap.size, 1, none⟩ = some (.int .i64 b) := keep_cell (box0 w 23 #[.int .i64 a, .int .i64 b, .int .i64 c] 1) hB1
  have c1_2 : w1.cell? ⟨w.heap.size, 2, none⟩ = some (.int .i64 c) := keep_cell (box0 w 23 #[.int .i64 a, .int .i64 b, .int .i64 c] 2) hB1
  have z1_0 : w.heap.size < w1.heap.size := cell_lt c1_0
  clear hB1  
  go_wp2_with fail
  refine still_tail 15 (by kernel_rfl) (by kernel_rfl) ?_
  simp only [List.take_succ_cons, List.take_zero, List.drop_succ_cons, List.drop_zero]
  repeat still_step
  still_call (round_to by_ b r (by omega) (by omega) HR.out _)
  repeat still_step
  still_call (round_to (cy a b m + r) b (stp (cy a b m) b by_) (by omega) (by omega) HE.out _)
  repeat still_step
  refine wpStill_nil ?_
  go_wp2_with fail
  refine (number_ok a b c (cx a m) (stp (cy a b m) b by_) (cz a b c m) HH.out H3.out _).mono ?_
  rintro e w2 ⟨rfl, hB2⟩
  have HB2 := Lib.hid hB2
  clear hB2
  go_wp2_with fail
  go_ret
  exact ⟨rfl, below_up (below_alloc HB1.out).drew HB2.out⟩
set_option maxRecDepth 100000 in
set_option maxHeartbeats 2000000 in
theorem step1 (a b c m by_ : Int) (h : May a b c) (h0 : 0 ≤ m) (h1 : m < num a b c) (w : World) :
    Calls Try.prog 18 #[.agg #[.int .i64 a, .int .i64 b, .int .i64 c], .int .i64 m, .int .i64 1, .int .i64 by_] w fun e w' => e = .returned (.tuple #[.int .i64 (onR a b c m (some false) by_), .int .i64 0]) ∧ Below w.heap.size w w' := by
  have HH := Lib.hid h
  have h3 : Ok3 a b c (cx a m) (stp (cy a b m) b by_) (cz a b c m) := by
    obtain ⟨hx, hy, hz⟩ := ok_of (m := m) h
    exact ⟨hx, stp_range h.2.1.1, hz⟩
  have H3 := Lib.hid h3
  have HM := Lib.hid (And.intro h0 h1)
  obtain ⟨⟨q1, q2⟩, ⟨q3, q4⟩, ⟨q5, q6⟩⟩ := ok_of (m := m) h
  obtain ⟨⟨ha, ha'⟩, ⟨hb, hb'⟩, ⟨hc, hc'⟩⟩ := h
  clear h3 h0 h1
  have f0 : ¬ b = 0 := by omega
  obtain ⟨r1, r2⟩ := tmod_range (k := by_) (n := b) (by omega)
  have f1 : IntKind.i64.wrap (cy a b m + by_.tmod b) = cy a b m + by_.tmod b := IntWalk.i64_in _ (by omega)
  have f2 : IntKind.i64.wrap (cy a b m + by_.tmod b + b) = cy a b m + by_.tmod b + b := IntWalk.i64_in _ (by omega)
  have f3 : (cy a b m + by_.tmod b + b).tmod b = stp (cy a b m) b by_ := by rw [Int.tmod_eq_emod_of_nonneg (by omega), tmod_step]
  dsimp only [onR]
  go_enter Try.func18, Try.ntmps18
  go_wp2_with fail
  refine (of_ok a b c m HH.out HM.out.1 HM.out.2 _).mono ?_
  rintro e w1 ⟨rfl, hB1⟩
  have HB1 : Hid (Below w.heap.size w w1) := below_up (below_alloc (Below.refl _ _)) hB1
  have c1_0 : w1.cell? ⟨w.heap.size, 0, none⟩ = some (.int .i64 a) := keep_cell (box0 w 23 #[.int .i64 a, .int .i64 b, .int .i64 c] 0) hB1
  have c1_1 : w1.cell? ⟨w.heap.size, 1, none⟩ = some (.int .i64 b) := keep_cell (box0 w 23 #[.int .i64 a, .int .i64 b, .int .i64 c] 1) hB1
  have c1_2 : w1.cell? ⟨w.heap.size, 2, none⟩ = some (.int .i64 c) := keep_cell (box0 w 23 #[.int .i64 a, .int .i64 b, .int .i64 c] 2) hB1
  have z1_0 : w.heap.size < w1.heap.size := cell_lt c1_0
  clear hB1  
  go_wp2_with fail
  refine still_tail 13 (by kernel_rfl) (by kernel_rfl) ?_
  simp only [List.take_succ_cons, List.take_zero, List.drop_succ_cons, List.drop_zero]
  repeat still_step
  refine wpStill_nil ?_
  go_wp2_with fail
  refine (at_ok a b c (cx a m) (stp (cy a b m) b by_) (cz a b c m) HH.out H3.out _).mono ?_
  rintro e w2 ⟨rfl, hB2⟩
  have HB2 := Lib.hid hB2
  clear hB2
  go_wp2_with fail
  go_ret2
  exact ⟨rfl, below_up (below_alloc HB1.out).drew HB2.out⟩
set_option maxRecDepth 100000 in
set_option maxHeartbeats 2000000 in
theorem on2 (a b c m by_ : Int) (h : May a b c) (h0 : 0 ≤ m) (h1 : m < num a b c) (w : World) :
    Calls Try.prog 29 #[.agg #[.int .i64 a, .int .i64 b, .int .i64 c], .int .i64 m, .int .i64 2, .int .i64 by_] w fun e w' => e = .returned (.int .i64 (onR a b c m (some true) by_)) ∧ Below w.heap.size w w' := by
  have HH := Lib.hid h
  have h3 : Ok3 a b c (cx a m) (cy a b m) (stp (cz a b c m) c by_) := by
    obtain ⟨hx, hy, hz⟩ := ok_of (m := m) h
    exact ⟨hx, hy, stp_range h.2.2.1⟩
  have H3 := Lib.hid h3
  have HM := Lib.hid (And.intro h0 h1)
  obtain ⟨⟨q1, q2⟩, ⟨q3, q4⟩, ⟨q5, q6⟩⟩ := ok_of (m := m) h
  obtain ⟨⟨ha, ha'⟩, ⟨hb, hb'⟩, ⟨hc, hc'⟩⟩ := h
  clear h3 h0 h1
  obtain ⟨r, hr⟩ : ∃ r, r = by_ % c := ⟨_, rfl⟩
  have r1 : 0 ≤ r := by rw [hr]; exact Int.emod_nonneg _ (by omega)
  have r2 : r < c := by rw [hr]; exact Int.emod_lt_of_pos _ (by omega)
  have e1 : stp (cz a b c m) c by_ = (cz a b c m + r) % c := by rw [hr, Int.add_emod_emod]; rfl
  have HR := Lib.hid hr
  have HE := Lib.hid e1
  clear hr e1
  have f1 : IntKind.i64.wrap (cz a b c m + r) = cz a b c m + r := IntWalk.i64_in _ (by omega)
  dsimp only [onR]
  go_enter Try.func29, Try.ntmps29
  go_wp2_with fail
  refine (where_ok a b c m HH.out HM.out.1 HM.out.2 _).mono ?_
  rintro e w1 ⟨rfl, hB1⟩
  have HB1 : Hid (Below w.heap.size w w1) := below_up (below_alloc (Below.refl _ _)) hB1
  have c1_0 : w1.cell? ⟨w.heap.size, 0, none⟩ = some (.int .i64 a) := keep_cell (box0 w 23 #[.int .i64 a, .int .i64 b, .int .i64 c] 0) hB1
  have c1_1 : w1.cell? ⟨w.heap.size, 1, none⟩ = some (.int .i64 b) := keep_cell (box0 w 23 #[.int .i64 a, .int .i64 b, .int .i64 c] 1) hB1
  have c1_2 : w1.cell? ⟨w.heap.size, 2, none⟩ = some (.int .i64 c) := keep_cell (box0 w 23 #[.int .i64 a, .int .i64 b, .int .i64 c] 2) hB1
  have z1_0 : w.heap.size < w1.heap.size := cell_lt c1_0
  clear hB1  
  go_wp2_with fail
  refine still_tail 15 (by kernel_rfl) (by kernel_rfl) ?_
  simp only [List.take_succ_cons, List.take_zero, List.drop_succ_cons, List.drop_zero]
  repeat still_step
  still_call (round_to by_ c r (by omega) (by omega) HR.out _)
  repeat still_step
  still_call (round_to (cz a b c m + r) c (stp (cz a b c m) c by_) (by omega) (by omega) HE.out _)
  repeat still_step
  refine wpStill_nil ?_
  go_wp2_with fail
  refine (number_ok a b c (cx a m) (cy a b m) (stp (cz a b c m) c by_) HH.out H3.out _).mono ?_
  rintro e w2 ⟨rfl, hB2⟩
  have HB2 := Lib.hid hB2
  clear hB2
  go_wp2_with fail
  go_ret
  exact ⟨rfl, below_up (below_alloc HB1.out).drew HB2.out⟩
set_option maxRecDepth 100000 in
set_option maxHeartbeats 2000000 in
theorem step2 (a b c m by_ : Int) (h : May a b c) (h0 : 0 ≤ m) (h1 : m < num a b c) (w : World) :
    Calls Try.prog 18 #[.agg #[.int .i64 a, .int .i64 b, .int .i64 c], .int .i64 m, .int .i64 2, .int .i64 by_] w fun e w' => e = .returned (.tuple #[.int .i64 (onR a b c m (some true) by_), .int .i64 0]) ∧ Below w.heap.size w w' := by
  have HH := Lib.hid h
  have h3 : Ok3 a b c (cx a m) (cy a b m) (stp (cz a b c m) c by_) := by
    obtain ⟨hx, hy, hz⟩ := ok_of (m := m) h
    exact ⟨hx, hy, stp_range h.2.2.1⟩
  have H3 := Lib.hid h3
  have HM := Lib.hid (And.intro h0 h1)
  obtain ⟨⟨q1, q2⟩, ⟨q3, q4⟩, ⟨q5, q6⟩⟩ := ok_of (m := m) h
  obtain ⟨⟨ha, ha'⟩, ⟨hb, hb'⟩, ⟨hc, hc'⟩⟩ := h
  clear h3 h0 h1
  have f0 : ¬ c = 0 := by omega
  obtain ⟨r1, r2⟩ := tmod_range (k := by_) (n := c) (by omega)
  have f1 : IntKind.i64.wrap (cz a b c m + by_.tmod c) = cz a b c m + by_.tmod c := IntWalk.i64_in _ (by omega)
  have f2 : IntKind.i64.wrap (cz a b c m + by_.tmod c + c) = cz a b c m + by_.tmod c + c := IntWalk.i64_in _ (by omega)
  have f3 : (cz a b c m + by_.tmod c + c).tmod c = stp (cz a b c m) c by_ := by rw [Int.tmod_eq_emod_of_nonneg (by omega), tmod_step]
  dsimp only [onR]
  go_enter Try.func18, Try.ntmps18
  go_wp2_with fail
  refine (of_ok a b c m HH.out HM.out.1 HM.out.2 _).mono ?_
  rintro e w1 ⟨rfl, hB1⟩
  have HB1 : Hid (Below w.heap.size w w1) := below_up (below_alloc (Below.refl _ _)) hB1
  have c1_0 : w1.cell? ⟨w.heap.size, 0, none⟩ = some (.int .i64 a) := keep_cell (box0 w 23 #[.int .i64 a, .int .i64 b, .int .i64 c] 0) hB1
  have c1_1 : w1.cell? ⟨w.heap.size, 1, none⟩ = some (.int .i64 b) := keep_cell (box0 w 23 #[.int .i64 a, .int .i64 b, .int .i64 c] 1) hB1
  have c1_2 : w1.cell? ⟨w.heap.size, 2, none⟩ = some (.int .i64 c) := keep_cell (box0 w 23 #[.int .i64 a, .int .i64 b, .int .i64 c] 2) hB1
  have z1_0 : w.heap.size < w1.heap.size := cell_lt c1_0
  clear hB1  
  go_wp2_with fail
  refine still_tail 13 (by kernel_rfl) (by kernel_rfl) ?_
  simp only [List.take_succ_cons, List.take_zero, List.drop_succ_cons, List.drop_zero]
  repeat still_step
  refine wpStill_nil ?_
  go_wp2_with fail
  refine (at_ok a b c (cx a m) (cy a b m) (stp (cz a b c m) c by_) HH.out H3.out _).mono ?_
  rintro e w2 ⟨rfl, hB2⟩
  have HB2 := Lib.hid hB2
  clear hB2
  go_wp2_with fail
  go_ret2
  exact ⟨rfl, below_up (below_alloc HB1.out).drew HB2.out⟩
set_option maxRecDepth 100000 in
set_option maxHeartbeats 2000000 in
theorem step_axis (a b c m ax by_ : Int) (h : May a b c) (h0 : 0 ≤ m) (h1 : m < num a b c) (hx : ax < 0 ∨ 2 < ax) (w : World) :
    Calls Try.prog 18 #[.agg #[.int .i64 a, .int .i64 b, .int .i64 c], .int .i64 m, .int .i64 ax, .int .i64 by_] w fun e w' => e = .returned (.tuple #[.int .i64 0, .int .i64 2]) ∧ Below w.heap.size w w' := by
  have HH := Lib.hid h
  have HM := Lib.hid (And.intro h0 h1)
  clear h h0 h1
  rcases (show ax < 0 ∨ (¬ ax < 0 ∧ 2 < ax) by omega) with h1 | ⟨h1, h2⟩
  · clear hx
    go_enter Try.func18, Try.ntmps18
    go_wp2_with fail
    refine (of_ok a b c m HH.out HM.out.1 HM.out.2 _).mono ?_
    rintro e w1 ⟨rfl, hB1⟩
    have HB1 : Hid (Below w.heap.size w w1) := below_up (below_alloc (Below.refl _ _)) hB1
    have c1_0 : w1.cell? ⟨w.heap.size, 0, none⟩ = some (.int .i64 a) := keep_cell (box0 w 23 #[.int .i64 a, .int .i64 b, .int .i64 c] 0) hB1
    have c1_1 : w1.cell? ⟨w.heap.size, 1, none⟩ = some (.int .i64 b) := keep_cell (box0 w 23 #[.int .i64 a, .int .i64 b, .int .i64 c] 1) hB1
    have c1_2 : w1.cell? ⟨w.heap.size, 2, none⟩ = some (.int .i64 c) := keep_cell (box0 w 23 #[.int .i64 a, .int .i64 b, .int .i64 c] 2) hB1
    have z1_0 : w.heap.size < w1.heap.size := cell_lt c1_0
    clear hB1  
    go_wp2_with fail
    go_ret2
    exact ⟨rfl, below_alloc HB1.out⟩
  · clear hx
    go_enter Try.func18, Try.ntmps18
    go_wp2_with fail
    refine (of_ok a b c m HH.out HM.out.1 HM.out.2 _).mono ?_
    rintro e w1 ⟨rfl, hB1⟩
    have HB1 : Hid (Below w.heap.size w w1) := below_up (below_alloc (Below.refl _ _)) hB1
    have c1_0 : w1.cell? ⟨w.heap.size, 0, none⟩ = some (.int .i64 a) := keep_cell (box0 w 23 #[.int .i64 a, .int .i64 b, .int .i64 c] 0) hB1
    have c1_1 : w1.cell? ⟨w.heap.size, 1, none⟩ = some (.int .i64 b) := keep_cell (box0 w 23 #[.int .i64 a, .int .i64 b, .int .i64 c] 1) hB1
    have c1_2 : w1.cell? ⟨w.heap.size, 2, none⟩ = some (.int .i64 c) := keep_cell (box0 w 23 #[.int .i64 a, .int .i64 b, .int .i64 c] 2) hB1
    have z1_0 : w.heap.size < w1.heap.size := cell_lt c1_0
    clear hB1  
    go_wp2_with fail
    go_ret2
    exact ⟨rfl, below_alloc HB1.out⟩
set_option maxRecDepth 100000 in
set_option maxHeartbeats 2000000 in
theorem step_arg (a b c m ax by_ : Int) (h : May a b c) (hm : ¬ (0 ≤ m ∧ m < num a b c)) (w : World) :
    Calls Try.prog 18 #[.agg #[.int .i64 a, .int .i64 b, .int .i64 c], .int .i64 m, .int .i64 ax, .int .i64 by_] w fun e w' => e = .returned (.tuple #[.int .i64 0, .int .i64 2]) ∧ Below w.heap.size w w' := by
  have HH := Lib.hid h
  have HM := Lib.hid hm
  clear h hm
  go_enter Try.func18, Try.ntmps18
  go_wp2_with fail
  refine (of_arg a b c m HH.out HM.out _).mono ?_
  rintro e w1 ⟨rfl, hB1⟩
  have HB1 : Hid (Below w.heap.size w w1) := below_up (below_alloc (Below.refl _ _)) hB1
  have c1_0 : w1.cell? ⟨w.heap.size, 0, none⟩ = some (.int .i64 a) := keep_cell (box0 w 23 #[.int .i64 a, .int .i64 b, .int .i64 c] 0) hB1
  have c1_1 : w1.cell? ⟨w.heap.size, 1, none⟩ = some (.int .i64 b) := keep_cell (box0 w 23 #[.int .i64 a, .int .i64 b, .int .i64 c] 1) hB1
  have c1_2 : w1.cell? ⟨w.heap.size, 2, none⟩ = some (.int .i64 c) := keep_cell (box0 w 23 #[.int .i64 a, .int .i64 b, .int .i64 c] 2) hB1
  have z1_0 : w.heap.size < w1.heap.size := cell_lt c1_0
  clear hB1  
  go_wp2_with fail
  go_ret2
  exact ⟨rfl, below_alloc HB1.out⟩
set_option maxRecDepth 100000 in
set_option maxHeartbeats 2000000 in
theorem step_bad (a b c m ax by_ : Int) (h : ¬ May a b c) (w : World) :
    Calls Try.prog 18 #[.agg #[.int .i64 a, .int .i64 b, .int .i64 c], .int .i64 m, .int .i64 ax, .int .i64 by_] w fun e w' => e = .returned (.tuple #[.int .i64 0, .int .i64 8]) ∧ Below w.heap.size w w' := by
  have HH := Lib.hid h
  clear h
  go_enter Try.func18, Try.ntmps18
  go_wp2_with fail
  refine (of_bad a b c m HH.out _).mono ?_
  rintro e w1 ⟨rfl, hB1⟩
  have HB1 : Hid (Below w.heap.size w w1) := below_up (below_alloc (Below.refl _ _)) hB1
  have c1_0 : w1.cell? ⟨w.heap.size, 0, none⟩ = some (.int .i64 a) := keep_cell (box0 w 23 #[.int .i64 a, .int .i64 b, .int .i64 c] 0) hB1
  have c1_1 : w1.cell? ⟨w.heap.size, 1, none⟩ = some (.int .i64 b) := keep_cell (box0 w 23 #[.int .i64 a, .int .i64 b, .int .i64 c] 1) hB1
  have c1_2 : w1.cell? ⟨w.heap.size, 2, none⟩ = some (.int .i64 c) := keep_cell (box0 w 23 #[.int .i64 a, .int .i64 b, .int .i64 c] 2) hB1
  have z1_0 : w.heap.size < w1.heap.size := cell_lt c1_0
  clear hB1  
  go_wp2_with fail
  go_ret2
  exact ⟨rfl, below_alloc HB1.out⟩
end Go.Proofs.Ythapginaphdmjaa.PosOn
