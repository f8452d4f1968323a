/- The contracts of pos.At where dimensions may not be, and of the reference's Number, Where, Round, At, Of. -/
import Derived.Test.YthapginaphdmjaaPosOf
import Derived.Deep.QuietTactic
import Derived.BigQuiet
import Derived.Deep.RegionHeld3
namespace Go.Proofs.Ythapginaphdmjaa.PosRef
open Go.RowKit Go.Shelf PosMath PosCheck PosMany Mem SeqKit PosSeq Round PosAt PosOf
set_option linter.unusedVariables false

theorem ret_int {k : IntKind} {a b : Int} (h : a = b) : Ending.returned (.int k a) = .returned (.int k b) := by rw [h]
theorem ret_pair {r : Int × Int} {v u : Int} (h : r = (v, u)) : Ending.returned (.tuple #[.int .i64 v, .int .i64 u]) = .returned (.tuple #[.int .i64 r.1, .int .i64 r.2]) := by rw [h]
/-- The loop over axes. -/
def RelAt (a b c x y z : Int) (i : Value) : Prop := i = .int .i64 0 ∨ (i = .int .i64 1 ∧ (0 ≤ x ∧ x < a)) ∨ (i = .int .i64 2 ∧ (0 ≤ x ∧ x < a) ∧ (0 ≤ y ∧ y < b)) ∨ (i = .int .i64 3 ∧ (0 ≤ x ∧ x < a) ∧ (0 ≤ y ∧ y < b) ∧ (0 ≤ z ∧ z < c))
set_option maxRecDepth 100000 in
set_option maxHeartbeats 2000000 in
theorem at_bad (a b c x y z : Int) (h : ¬ May a b c) (w : World) :
    Calls Try.prog 11 #[.agg #[.int .i64 a, .int .i64 b, .int .i64 c], .agg #[.int .i64 x, .int .i64 y, .int .i64 z]] w fun e w' => e = .returned (.tuple #[.int .i64 0, .int .i64 8]) ∧ Below w.heap.size w w' := by
  have HH := Lib.hid h
  clear h
  go_enter Try.func11, Try.ntmps11
  go_wp2_with fail
  refine (check_bad a b c HH.out _).mono ?_
  rintro e w1 ⟨rfl, hB1⟩
  have k2 : Blk w1 (w.heap.size + 1 + 1) 3 #[.int .i64 0] := ((blk2 w _ _).alloc _).below hB1 (by simp)
  have k3 : Blk w1 (w.heap.size + 1 + 1 + 1) 24 #[.int .i64 0] := (blk3 w _ _).below hB1 (by simp)
  have hb1 : Below w.heap.size w w1 := below_up (below_alloc (below_alloc (below_alloc (below_alloc (Below.refl _ _))))) hB1
  have HB1 := Lib.hid hb1
  have m0 : w1.cell? ⟨w.heap.size + 1 + 1, 0, none⟩ = some (.int .i64 0) := k2.cell 0
  have e0 : w1.cell? ⟨w.heap.size + 1 + 1 + 1, 0, none⟩ = some (.int .i64 0) := k3.cell 0
  have e1 : w1.frozen? ⟨w.heap.size + 1 + 1 + 1, 0, none⟩ = false := k3.frozen 0
  have HK := Lib.hid (And.intro k2 k3)
  clear hB1 hb1 k2 k3
  go_wp2_with fail
  have b2 := HK.out.1.far (p := ⟨w.heap.size + 1 + 1 + 1, 0, none⟩) (by simp) (.int .i64 8)
  have b3 := HK.out.2.set_ 0 (.int .i64 8)
  have c2 := b2.cell 0
  have c3 := b3.cell 0
  simp at c2 c3
  exact bodyPost_ret (v := .tuple #[.int .i64 0, .int .i64 8]) (by simp [results, Try.results11, go_sem, c2, c3]) rfl ⟨rfl, HB1.out.setCell (p := ⟨w.heap.size + 1 + 1 + 1, 0, none⟩) (by simp; omega) _⟩
theorem at_eq (a b x y z : Int) : x + a * (y + b * z) = at_ a b x y z := by
  unfold at_; rw [Int.mul_add, Int.mul_assoc]; omega
theorem number_bounds {a b c x y z : Int} (h : May a b c) (h3 : Ok3 a b c x y z) : (0 ≤ b * z ∧ b * z ≤ 256) ∧ (0 ≤ a * (y + b * z) ∧ a * (y + b * z) ≤ 4352) := by
  obtain ⟨⟨ha, ha'⟩, ⟨hb, hb'⟩, ⟨hc, hc'⟩⟩ := h
  obtain ⟨⟨hx, hx'⟩, ⟨hy, hy'⟩, ⟨hz, hz'⟩⟩ := h3
  have h5 := Int.mul_nonneg (show 0 ≤ b by omega) hz
  have h6 : b * z ≤ 16 * 16 := Int.mul_le_mul (by omega) (by omega) (by omega) (by omega)
  have h7 := Int.mul_nonneg (show 0 ≤ a by omega) (show 0 ≤ y + b * z by omega)
  have h8 : a * (y + b * z) ≤ 16 * 272 := Int.mul_le_mul (by omega) (by omega) (by omega) (by omega)
  omega
set_option maxRecDepth 100000 in
set_option maxHeartbeats 2000000 in
theorem number_ok (a b c x y z : Int) (h : May a b c) (h3 : Ok3 a b c x y z) (w : World) :
    Calls Try.prog 26 #[.agg #[.int .i64 a, .int .i64 b, .int .i64 c], .agg #[.int .i64 x, .int .i64 y, .int .i64 z]] w fun e w' => e = .returned (.int .i64 (at_ a b x y z)) ∧ Below w.heap.size w w' := by
  rw [← at_eq]
  obtain ⟨⟨n1, n2⟩, ⟨n3, n4⟩⟩ := number_bounds h h3
  obtain ⟨⟨ha, ha'⟩, ⟨hb, hb'⟩, ⟨hc, hc'⟩⟩ := h
  obtain ⟨⟨hx, hx'⟩, ⟨hy, hy'⟩, ⟨hz, hz'⟩⟩ := h3
  go_enter Try.func26, Try.ntmps26
  go_wp2_with fail
  go_ret
  exact ⟨rfl, (below_alloc (below_alloc (Below.refl _ _)))⟩
set_option maxRecDepth 100000 in
set_option maxHeartbeats 2000000 in
theorem where_ok (a b c m : Int) (h : May a b c) (h0 : 0 ≤ m) (h1 : m < num a b c) (w : World) :
    Calls Try.prog 27 #[.agg #[.int .i64 a, .int .i64 b, .int .i64 c], .int .i64 m] w fun e w' => e = .returned (.agg #[.int .i64 (cx a m), .int .i64 (cy a b m), .int .i64 (cz a b c m)]) ∧ Below w.heap.size w w' := by
  rw [cz_eq h h0 h1]
  have hn : num a b c ≤ 4096 := (num_bounds h).2.2
  have hm : m < 4096 := by omega
  obtain ⟨⟨ha, ha'⟩, ⟨hb, hb'⟩, ⟨hc, hc'⟩⟩ := h
  obtain ⟨x1, x2⟩ := div_range h0 ha hb
  obtain ⟨x3, x4⟩ := div_range x1 hb hb
  clear h1 hn
  have f0 : ¬ a = 0 := by omega
  have f1 : ¬ b = 0 := by omega
  have f2 : m.tmod a = m % a := Int.tmod_eq_emod_of_nonneg h0
  have f3 : m.tdiv a = m / a := Int.tdiv_eq_ediv_of_nonneg h0
  have f4 : (m / a).tmod b = m / a % b := Int.tmod_eq_emod_of_nonneg x1
  have f5 : (m / a).tdiv b = m / a / b := Int.tdiv_eq_ediv_of_nonneg x1
  have f6 : IntKind.i64.wrap (m / a) = m / a := IntWalk.i64_in _ (by omega)
  have f7 : IntKind.i64.wrap (m / a / b) = m / a / b := IntWalk.i64_in _ (by omega)
  go_enter Try.func27, Try.ntmps27
  go_wp2_with fail
  refine still_tail 10 (by kernel_rfl) (by kernel_rfl) ?_
  simp only [List.take_succ_cons, List.take_zero, List.drop_succ_cons, List.drop_zero]
  repeat still_step
  refine wpStill_nil ?_
  go_wp2
  exact bodyPost_ret (v := .agg #[.int .i64 (m % a), .int .i64 (m / a % b), .int .i64 (m / a / b)]) (by simp [results, Try.results27, go_sem]) rfl ⟨rfl, (below_alloc (below_alloc (Below.refl _ _))).drew⟩
theorem tmod_emod {n k : Int} (hk : 1 ≤ k) : (n.tmod k < 0 → n.tmod k + k = n % k) ∧ (0 ≤ n.tmod k → n.tmod k = n % k) := by
  obtain ⟨r1, r2⟩ := tmod_range (k := n) hk
  have h1 : k * n.tdiv k + n.tmod k = n := Int.mul_tdiv_add_tmod n k
  have h2 : n % k = n.tmod k % k := by conv => lhs; rw [← h1]; rw [Int.add_comm, Int.add_mul_emod_self_left]
  refine ⟨fun h => ?_, fun h => ?_⟩
  · rw [h2, ← Int.add_emod_right, Int.emod_eq_of_lt (by omega) (by omega)]
  · rw [h2, Int.emod_eq_of_lt h r2]
set_option maxHeartbeats 1000000 in
theorem round_any (n k : Int) (hk : 1 ≤ k) (hk' : k ≤ 16) (w : World) :
    Calls Try.prog 31 #[.int .i64 n, .int .i64 k] w fun e w' => e = .returned (.int .i64 (n % k)) ∧ w' = w := by
  obtain ⟨r1, r2⟩ := tmod_range (k := n) hk
  obtain ⟨e1, e2⟩ := tmod_emod (n := n) hk
  have f0 : ¬ k = 0 := by omega
  have E := Lib.hid (And.intro e1 e2)
  clear e1 e2
  by_cases h : n.tmod k < 0
  · go_enter Try.func31, Try.ntmps31
    go_wp2
    go_ret
    exact ⟨ret_int (E.out.1 h), rfl⟩
  · go_enter Try.func31, Try.ntmps31
    go_wp2
    go_ret
    exact ⟨ret_int (E.out.2 (by omega)), rfl⟩
set_option maxRecDepth 100000 in
set_option maxHeartbeats 2000000 in
theorem refat_may (a b c x y z : Int) (h : May a b c) (w : World) :
    Calls Try.prog 12 #[.agg #[.int .i64 a, .int .i64 b, .int .i64 c], .agg #[.int .i64 x, .int .i64 y, .int .i64 z]] w fun e w' => e = .returned (.tuple #[.int .i64 (atR a b c x y z).1, .int .i64 (atR a b c x y z).2]) ∧ Below w.heap.size w w' := by
  have HH := Lib.hid h
  obtain ⟨⟨ha, ha'⟩, ⟨hb, hb'⟩, ⟨hc, hc'⟩⟩ := h
  have HR : Hid ((∀ v, Ok3 a b c x y z → v = at_ a b x y z → atR a b c x y z = (v, 0)) ∧ (¬ Ok3 a b c x y z → atR a b c x y z = (0, 2))) := ⟨fun v h hv => by subst hv; exact if_pos h, fun h => if_neg h⟩
  generalize atR a b c x y z = r at *
  go_enter Try.func12, Try.ntmps12
  go_wp2_with fail
  refine (may_ok a b c HH.out _).mono ?_
  rintro e w1 ⟨rfl, hB1⟩
  have k0 : Blk w1 w.heap.size 23 #[.int .i64 a, .int .i64 b, .int .i64 c] := ((Blk.new w _ _).alloc _).below hB1 (by simp; omega)
  have k1 : Blk w1 (w.heap.size + 1) 22 #[.int .i64 x, .int .i64 y, .int .i64 z] := (blk1 w _ _).below hB1 (by simp)
  have hb1 : Below w.heap.size w w1 := below_up (below_alloc (below_alloc (Below.refl _ _))) hB1
  have HB1 := Lib.hid hb1
  have c0 : w1.cell? ⟨w.heap.size, 0, none⟩ = some (.int .i64 a) := k0.cell 0
  have c1 : w1.cell? ⟨w.heap.size, 1, none⟩ = some (.int .i64 b) := k0.cell 1
  have c2 : w1.cell? ⟨w.heap.size, 2, none⟩ = some (.int .i64 c) := k0.cell 2
  have d0 : w1.cell? ⟨w.heap.size + 1, 0, none⟩ = some (.int .i64 x) := k1.cell 0
  have d1 : w1.cell? ⟨w.heap.size + 1, 1, none⟩ = some (.int .i64 y) := k1.cell 1
  have d2 : w1.cell? ⟨w.heap.size + 1, 2, none⟩ = some (.int .i64 z) := k1.cell 2
  clear hB1 hb1 k0 k1
  go_wp2_with fail
  go_loopw [6] (fun i wr => RelAt a b c x y z i ∧ Hid (Below w.heap.size w wr) ∧ wr.cell? ⟨w.heap.size, 0, none⟩ = some (.int .i64 a) ∧ wr.cell? ⟨w.heap.size, 1, none⟩ = some (.int .i64 b) ∧ wr.cell? ⟨w.heap.size, 2, none⟩ = some (.int .i64 c) ∧ wr.cell? ⟨w.heap.size + 1, 0, none⟩ = some (.int .i64 x) ∧ wr.cell? ⟨w.heap.size + 1, 1, none⟩ = some (.int .i64 y) ∧ wr.cell? ⟨w.heap.size + 1, 2, none⟩ = some (.int .i64 z))
    (fun i _ => 3 - (intOf i).toNat)
  case atStart => exact ⟨.inl rfl, HB1.out, c0, c1, c2, d0, d1, d2⟩
  case round =>
    obtain ⟨hr, hB, p0, p1, p2, q0, q1, q2⟩ := hrel
    clear c0 c1 c2 d0 d1 d2
    rcases hr with rfl | ⟨rfl, hx⟩ | ⟨rfl, hx⟩ | ⟨rfl, hx⟩
    · by_cases h0 : x < 0
      · have t1 : decide (x < 0) = true := by simpa using h0
        have t2 : ¬ Ok3 a b c x y z := fun h => by unfold Ok3 at h; omega
        have T2 := Lib.hid t2
        clear t2
        go_wp2_with fail
        go_quiet (fail)
        go_wp2_with fail
        go_ret2
        exact ⟨ret_pair (HR.out.2 T2.out), below_drewN hB.out _⟩
      · have t1 : decide (x < 0) = false := by simpa using h0
        by_cases h1 : a ≤ x
        · have t3 : decide (a ≤ x) = true := by simpa using h1
          have t2 : ¬ Ok3 a b c x y z := fun h => by unfold Ok3 at h; omega
          have T2 := Lib.hid t2
          clear t2
          go_wp2_with fail
          go_quiet (fail)
          go_wp2_with fail
          go_ret2
          exact ⟨ret_pair (HR.out.2 T2.out), below_drewN hB.out _⟩
        · have t3 : decide (a ≤ x) = false := by simpa using h1
          have hx2 : 0 ≤ x ∧ x < a := ⟨by omega, by omega⟩
          have HX := Lib.hid hx2
          clear hx2
          go_wp2_with fail
          go_quiet (fail)
          go_wp2_with fail
          go_roundw
          case rel => exact ⟨.inr (.inl ⟨rfl, HX.out⟩), below_drewN hB.out _, p0, p1, p2, q0, q1, q2⟩
          case measure => simp [intOf]
    · have H0 := Lib.hid hx; clear hx; by_cases h0 : y < 0
      · have t1 : decide (y < 0) = true := by simpa using h0
        have t2 : ¬ Ok3 a b c x y z := fun h => by unfold Ok3 at h; omega
        have T2 := Lib.hid t2
        clear t2
        go_wp2_with fail
        go_quiet (fail)
        go_wp2_with fail
        go_ret2
        exact ⟨ret_pair (HR.out.2 T2.out), below_drewN hB.out _⟩
      · have t1 : decide (y < 0) = false := by simpa using h0
        by_cases h1 : b ≤ y
        · have t3 : decide (b ≤ y) = true := by simpa using h1
          have t2 : ¬ Ok3 a b c x y z := fun h => by unfold Ok3 at h; omega
          have T2 := Lib.hid t2
          clear t2
          go_wp2_with fail
          go_quiet (fail)
          go_wp2_with fail
          go_ret2
          exact ⟨ret_pair (HR.out.2 T2.out), below_drewN hB.out _⟩
        · have t3 : decide (b ≤ y) = false := by simpa using h1
          have hx2 : (0 ≤ x ∧ x < a) ∧ (0 ≤ y ∧ y < b) := ⟨H0.out, by omega, by omega⟩
          have HX := Lib.hid hx2
          clear hx2
          go_wp2_with fail
          go_quiet (fail)
          go_wp2_with fail
          go_roundw
          case rel => exact ⟨.inr (.inr (.inl ⟨rfl, HX.out⟩)), below_drewN hB.out _, p0, p1, p2, q0, q1, q2⟩
          case measure => simp [intOf]
    · have H0 := Lib.hid hx; clear hx; by_cases h0 : z < 0
      · have t1 : decide (z < 0) = true := by simpa using h0
        have t2 : ¬ Ok3 a b c x y z := fun h => by unfold Ok3 at h; omega
        have T2 := Lib.hid t2
        clear t2
        go_wp2_with fail
        go_quiet (fail)
        go_wp2_with fail
        go_ret2
        exact ⟨ret_pair (HR.out.2 T2.out), below_drewN hB.out _⟩
      · have t1 : decide (z < 0) = false := by simpa using h0
        by_cases h1 : c ≤ z
        · have t3 : decide (c ≤ z) = true := by simpa using h1
          have t2 : ¬ Ok3 a b c x y z := fun h => by unfold Ok3 at h; omega
          have T2 := Lib.hid t2
          clear t2
          go_wp2_with fail
          go_quiet (fail)
          go_wp2_with fail
          go_ret2
          exact ⟨ret_pair (HR.out.2 T2.out), below_drewN hB.out _⟩
        · have t3 : decide (c ≤ z) = false := by simpa using h1
          have hx2 : (0 ≤ x ∧ x < a) ∧ (0 ≤ y ∧ y < b) ∧ (0 ≤ z ∧ z < c) := ⟨H0.out.1, H0.out.2, by omega, by omega⟩
          have HX := Lib.hid hx2
          clear hx2
          go_wp2_with fail
          go_quiet (fail)
          go_wp2_with fail
          go_roundw
          case rel => exact ⟨.inr (.inr (.inr ⟨rfl, HX.out⟩)), below_drewN hB.out _, p0, p1, p2, q0, q1, q2⟩
          case measure => simp [intOf]
    · have H3 := Lib.hid (show Ok3 a b c x y z from hx)
      have hr := HR.out.1 _ H3.out rfl
      have HRR := Lib.hid hr
      clear hr hx
      go_wp2_with fail
      refine (number_ok a b c x y z HH.out H3.out _).mono ?_
      rintro e w2 ⟨rfl, hB2⟩
      have HB2 := Lib.hid hB2
      clear hB2
      go_wp2_with fail
      go_ret2
      exact ⟨ret_pair HRR.out, below_up hB.out HB2.out⟩
set_option maxRecDepth 100000 in
set_option maxHeartbeats 2000000 in
theorem refat_bad (a b c x y z : Int) (h : ¬ May a b c) (w : World) :
    Calls Try.prog 12 #[.agg #[.int .i64 a, .int .i64 b, .int .i64 c], .agg #[.int .i64 x, .int .i64 y, .int .i64 z]] w fun e w' => e = .returned (.tuple #[.int .i64 0, .int .i64 8]) ∧ Below w.heap.size w w' := by
  have HH := Lib.hid h
  clear h
  go_enter Try.func12, Try.ntmps12
  go_wp2_with fail
  refine (may_bad a b c HH.out _).mono ?_
  rintro e w1 ⟨rfl, hB1⟩
  have HB1 : Hid (Below w.heap.size w w1) := below_up (below_alloc (below_alloc (Below.refl _ _))) hB1
  have c1_0 : w1.cell? ⟨w.heap.size, 0, none⟩ = some (.int .i64 a) := keep_cell (cell_over _ (box0 w 23 #[.int .i64 a, .int .i64 b, .int .i64 c] 0)) hB1
  have c1_1 : w1.cell? ⟨w.heap.size, 1, none⟩ = some (.int .i64 b) := keep_cell (cell_over _ (box0 w 23 #[.int .i64 a, .int .i64 b, .int .i64 c] 1)) hB1
  have c1_2 : w1.cell? ⟨w.heap.size, 2, none⟩ = some (.int .i64 c) := keep_cell (cell_over _ (box0 w 23 #[.int .i64 a, .int .i64 b, .int .i64 c] 2)) hB1
  have c1_3 : w1.cell? ⟨w.heap.size + 1, 0, none⟩ = some (.int .i64 x) := keep_cell (box1 w 22 #[.int .i64 x, .int .i64 y, .int .i64 z] 0) hB1
  have c1_4 : w1.cell? ⟨w.heap.size + 1, 1, none⟩ = some (.int .i64 y) := keep_cell (box1 w 22 #[.int .i64 x, .int .i64 y, .int .i64 z] 1) hB1
  have c1_5 : w1.cell? ⟨w.heap.size + 1, 2, none⟩ = some (.int .i64 z) := keep_cell (box1 w 22 #[.int .i64 x, .int .i64 y, .int .i64 z] 2) hB1
  have z1_0 : w.heap.size < w1.heap.size := cell_lt c1_0
  have z1_1 : w.heap.size + 1 < w1.heap.size := cell_lt c1_3
  clear hB1  
  go_wp2_with fail
  go_ret2
  exact ⟨rfl, HB1.out⟩
end Go.Proofs.Ythapginaphdmjaa.PosRef
