/- The chapter's examples, and the walk of TurnNames. -/
import Derived.Lib.QuietBelow
import Derived.Test.YtcapbkihjjhkjaaTurnFitsOf
namespace Go.Proofs.Ytcapbkihjjhkjaa.TurnAlive
open Go.RowKit Go.Sort Mem PosMath PosCheck TurnMath TurnWalks TurnMap TurnSorted TurnAll TurnFitsOf
set_option linter.unusedVariables false
set_option linter.unusedSimpArgs false

theorem shaped_any (a b c : Int) (tn : Bool) (w : World) :
    Calls Try.prog 13 #[.int .i64 a, .int .i64 b, .int .i64 c, .bool tn] w fun e w' => e = .returned (.agg #[.int .i64 a, .int .i64 b, .int .i64 c, .bool false, .bool false, .bool false, .bool tn]) ∧ Below w.heap.size w w' := by
  go_enter Try.func13, Try.ntmps13
  go_wp2_with fail
  exact bodyPost_ret (v := .agg #[.int .i64 a, .int .i64 b, .int .i64 c, .bool false, .bool false, .bool false, .bool tn]) (by simp [results, Try.results13, go_sem]) rfl ⟨rfl, below_alloc (Below.refl _ _)⟩
/-- turn.All of given wants: how many, and the first. -/
theorem all_at (x y : WV) (n : Nat) (hx : WOk x) (hn : (allL x).length = n) (hy : (allL x)[0]? = some y) (w : World) :
    Calls Try.prog 8 #[.agg x.arr] w fun e w' => ∃ g cap, e = .returned (.tuple #[.slice (some ⟨g, 0, none⟩) n cap, .int .i64 0]) ∧ (∀ j u, y.cells[j]? = some u → w'.cell? ⟨g, j, none⟩ = some u) ∧ Below w.heap.size w w' := by
  refine (all_any x w).mono ?_
  rintro e w' ⟨v, m, rfl, hr, hB⟩
  rcases hr with ⟨_, rfl, g, cap, rfl, _, _, _, hc⟩ | ⟨hb, _, _⟩
  · refine ⟨g, cap, by rw [hn], fun j u hu => ?_, hB⟩
    have := hc 0 y hy j u hu
    simpa using this
  · exact absurd hx hb
theorem A1 (w : World) : Calls Try.prog 8 #[.agg #[.int .i64 1, .int .i64 2, .int .i64 3, .bool false, .bool false, .bool false, .bool true]] w fun e w' => ∃ g cap, e = .returned (.tuple #[.slice (some ⟨g, 0, none⟩) 6 cap, .int .i64 0]) ∧ (∀ j u, (⟨1, 2, 3, false, false, false, true⟩ : WV).cells[j]? = some u → w'.cell? ⟨g, j, none⟩ = some u) ∧ Below w.heap.size w w' :=
  all_at (⟨1, 2, 3, false, false, false, true⟩ : WV) (⟨1, 2, 3, false, false, false, true⟩ : WV) 6 (by decide) (by decide +kernel) (by decide +kernel) w
theorem A2 (w : World) : Calls Try.prog 8 #[.agg #[.int .i64 2, .int .i64 2, .int .i64 1, .bool true, .bool false, .bool false, .bool true]] w fun e w' => ∃ g cap, e = .returned (.tuple #[.slice (some ⟨g, 0, none⟩) 6 cap, .int .i64 0]) ∧ (∀ j u, (⟨1, 2, 2, false, false, true, true⟩ : WV).cells[j]? = some u → w'.cell? ⟨g, j, none⟩ = some u) ∧ Below w.heap.size w w' :=
  all_at (⟨2, 2, 1, true, false, false, true⟩ : WV) (⟨1, 2, 2, false, false, true, true⟩ : WV) 6 (by decide) (by decide +kernel) (by decide +kernel) w
theorem A3 (w : World) : Calls Try.prog 8 #[.agg #[.int .i64 2, .int .i64 2, .int .i64 2, .bool false, .bool false, .bool false, .bool true]] w fun e w' => ∃ g cap, e = .returned (.tuple #[.slice (some ⟨g, 0, none⟩) 1 cap, .int .i64 0]) ∧ (∀ j u, (⟨2, 2, 2, false, false, false, true⟩ : WV).cells[j]? = some u → w'.cell? ⟨g, j, none⟩ = some u) ∧ Below w.heap.size w w' :=
  all_at (⟨2, 2, 2, false, false, false, true⟩ : WV) (⟨2, 2, 2, false, false, false, true⟩ : WV) 1 (by decide) (by decide +kernel) (by decide +kernel) w
theorem A4 (w : World) : Calls Try.prog 8 #[.agg #[.int .i64 1, .int .i64 2, .int .i64 3, .bool false, .bool false, .bool false, .bool false]] w fun e w' => ∃ g cap, e = .returned (.tuple #[.slice (some ⟨g, 0, none⟩) 1 cap, .int .i64 0]) ∧ (∀ j u, (⟨1, 2, 3, false, false, false, false⟩ : WV).cells[j]? = some u → w'.cell? ⟨g, j, none⟩ = some u) ∧ Below w.heap.size w w' :=
  all_at (⟨1, 2, 3, false, false, false, false⟩ : WV) (⟨1, 2, 3, false, false, false, false⟩ : WV) 1 (by decide) (by decide +kernel) (by decide +kernel) w
set_option maxRecDepth 100000 in
set_option maxHeartbeats 4000000 in
theorem alive_any (w : World) : Calls Try.prog 7 #[] w fun e w' => e = .returned (.bool true) ∧ Below w.heap.size w w' := by
  have q1 : ∀ w, (Op.equalIn 10000 25 (.agg #[.int .i64 1, .int .i64 2, .int .i64 3, .bool false, .bool false, .bool false, .bool true]) (.agg #[.int .i64 1, .int .i64 2, .int .i64 3, .bool false, .bool false, .bool false, .bool true])).run Try.prog w = .ok true w := fun w => eq_wants (x := (⟨1, 2, 3, false, false, false, true⟩ : WV)) (y := (⟨1, 2, 3, false, false, false, true⟩ : WV)) (wwf_of (by decide)) (wwf_of (by decide)) w
  have q2 : ∀ w, (Op.equalIn 10000 25 (.agg #[.int .i64 1, .int .i64 2, .int .i64 2, .bool false, .bool false, .bool true, .bool true]) (.agg #[.int .i64 1, .int .i64 2, .int .i64 2, .bool false, .bool false, .bool true, .bool true])).run Try.prog w = .ok true w := fun w => eq_wants (x := (⟨1, 2, 2, false, false, true, true⟩ : WV)) (y := (⟨1, 2, 2, false, false, true, true⟩ : WV)) (wwf_of (by decide)) (wwf_of (by decide)) w
  go_enter Try.func7, Try.ntmps7
  go_wp2_with fail
  refine (shaped_any 1 2 3 true _).mono ?_
  rintro e w1 ⟨rfl, hB1⟩
  have HB1 := Lib.hid hB1
  clear hB1
  go_wp2_with fail
  refine (A1 _).mono ?_
  rintro e w2 ⟨g1, cap1, rfl, hc1, hB2⟩
  have a0 : w2.cell? ⟨g1, 0, none⟩ = some (.int .i64 1) := hc1 0 _ rfl
  have a1 : w2.cell? ⟨g1, 1, none⟩ = some (.int .i64 2) := hc1 1 _ rfl
  have a2 : w2.cell? ⟨g1, 2, none⟩ = some (.int .i64 3) := hc1 2 _ rfl
  have a3 : w2.cell? ⟨g1, 3, none⟩ = some (.bool false) := hc1 3 _ rfl
  have a4 : w2.cell? ⟨g1, 4, none⟩ = some (.bool false) := hc1 4 _ rfl
  have a5 : w2.cell? ⟨g1, 5, none⟩ = some (.bool false) := hc1 5 _ rfl
  have a6 : w2.cell? ⟨g1, 6, none⟩ = some (.bool true) := hc1 6 _ rfl
  have HB2 := Lib.hid (below_up HB1.out hB2)
  clear hB2 hc1
  go_wp2_with fail
  refine (shaped_any 2 2 1 true _).mono ?_
  rintro e w3 ⟨rfl, hB3⟩
  have HB3 := Lib.hid (below_up HB2.out hB3)
  have b0 := keep_cell a0 hB3
  have b1 := keep_cell a1 hB3
  have b2 := keep_cell a2 hB3
  have b3 := keep_cell a3 hB3
  have b4 := keep_cell a4 hB3
  have b5 := keep_cell a5 hB3
  have b6 := keep_cell a6 hB3
  clear hB3 a0 a1 a2 a3 a4 a5 a6
  have hgl : g1 < w3.heap.size := cell_lt b0
  go_wp2_with fail
  refine (A2 _).mono ?_
  rintro e w4 ⟨g2, cap2, rfl, hc2, hB4⟩
  have HB4 := Lib.hid (below_up (below_alloc HB3.out) hB4)
  have d0 := keep_cell (cell_over _ b0) hB4
  have d1 := keep_cell (cell_over _ b1) hB4
  have d2 := keep_cell (cell_over _ b2) hB4
  have d3 := keep_cell (cell_over _ b3) hB4
  have d4 := keep_cell (cell_over _ b4) hB4
  have d5 := keep_cell (cell_over _ b5) hB4
  have d6 := keep_cell (cell_over _ b6) hB4
  have e0 : w4.cell? ⟨g2, 0, none⟩ = some (.int .i64 1) := hc2 0 _ rfl
  have e1 : w4.cell? ⟨g2, 1, none⟩ = some (.int .i64 2) := hc2 1 _ rfl
  have e2 : w4.cell? ⟨g2, 2, none⟩ = some (.int .i64 2) := hc2 2 _ rfl
  have e3 : w4.cell? ⟨g2, 3, none⟩ = some (.bool false) := hc2 3 _ rfl
  have e4 : w4.cell? ⟨g2, 4, none⟩ = some (.bool false) := hc2 4 _ rfl
  have e5 : w4.cell? ⟨g2, 5, none⟩ = some (.bool true) := hc2 5 _ rfl
  have e6 : w4.cell? ⟨g2, 6, none⟩ = some (.bool true) := hc2 6 _ rfl
  clear hB4 hc2 b0 b1 b2 b3 b4 b5 b6 hgl
  have k0 := cell_regrown d0
  have m0 := cell_regrown e0
  have k1 := cell_regrown d1
  have m1 := cell_regrown e1
  have k2 := cell_regrown d2
  have m2 := cell_regrown e2
  have k3 := cell_regrown d3
  have m3 := cell_regrown e3
  have k4 := cell_regrown d4
  have m4 := cell_regrown e4
  have k5 := cell_regrown d5
  have m5 := cell_regrown e5
  have k6 := cell_regrown d6
  have m6 := cell_regrown e6
  go_wp2_with fail
  refine wp_region_quiet_below (by kernel_rfl) (by kernel_rfl) ?_
  repeat (go_big_quiet_step (first | exact Calls.regrown_of (shaped_any _ _ _ _ _)))
  refine wpQuiet_nil ?_
  intro _ hw'
  obtain ⟨⟨dq, osq⟩, hw''⟩ := hw'
  subst hw''
  have hB5 := below_regrown w4 dq osq
  go_wp2_with fail
  go_ret
  exact ⟨rfl, below_up HB4.out hB5⟩
theorem F1 (w : World) : Calls Try.prog 14 #[.agg #[.int .i64 3, .int .i64 2, .int .i64 1], .agg #[.int .i64 1, .int .i64 2, .int .i64 3, .bool false, .bool false, .bool false, .bool true]] w fun e w' => e = .returned (.tuple #[.bool true, .int .i64 0]) ∧ Below w.heap.size w w' := by
  have h := fits_any 3 2 1 (⟨1, 2, 3, false, false, false, true⟩ : WV) w
  have e : fitsV 3 2 1 (⟨1, 2, 3, false, false, false, true⟩ : WV) = (true, 0) := by decide +kernel
  rw [e] at h
  exact h
theorem F2 (w : World) : Calls Try.prog 14 #[.agg #[.int .i64 3, .int .i64 2, .int .i64 1], .agg #[.int .i64 1, .int .i64 2, .int .i64 3, .bool false, .bool false, .bool false, .bool false]] w fun e w' => e = .returned (.tuple #[.bool false, .int .i64 0]) ∧ Below w.heap.size w w' := by
  have h := fits_any 3 2 1 (⟨1, 2, 3, false, false, false, false⟩ : WV) w
  have e : fitsV 3 2 1 (⟨1, 2, 3, false, false, false, false⟩ : WV) = (false, 0) := by decide +kernel
  rw [e] at h
  exact h
set_option maxRecDepth 100000 in
set_option maxHeartbeats 4000000 in
theorem namesLaw (w : World) : Calls Try.prog 4 #[] w fun e w' => e = .returned (.bool true) ∧ Below w.heap.size w w' := by
  go_enter Try.func4, Try.ntmps4
  go_wp2_with fail
  refine (shaped_any 2 2 2 true _).mono ?_
  rintro e w1 ⟨rfl, hB1⟩
  have HB1 := Lib.hid (below_up (Below.refl _ w) hB1)
  clear hB1
  go_wp2_with fail
  refine (A3 _).mono ?_
  rintro e w2 ⟨g1, cap1, rfl, _, hB2⟩
  have HB2 := Lib.hid (below_up HB1.out hB2)
  clear hB2
  go_wp2_with fail
  refine (shaped_any 1 2 3 false _).mono ?_
  rintro e w3 ⟨rfl, hB3⟩
  have HB3 := Lib.hid (below_up HB2.out hB3)
  clear hB3
  go_wp2_with fail
  refine (A4 _).mono ?_
  rintro e w4 ⟨g2, cap2, rfl, _, hB4⟩
  have HB4 := Lib.hid (below_up HB3.out hB4)
  clear hB4
  go_wp2_with fail
  refine (shaped_any 1 2 3 true _).mono ?_
  rintro e w5 ⟨rfl, hB5⟩
  have HB5 := Lib.hid (below_up HB4.out hB5)
  clear hB5
  go_wp2_with fail
  refine (F1 _).mono ?_
  rintro e w6 ⟨rfl, hB6⟩
  have HB6 := Lib.hid (below_up HB5.out hB6)
  clear hB6
  go_wp2_with fail
  refine (shaped_any 1 2 3 false _).mono ?_
  rintro e w7 ⟨rfl, hB7⟩
  have HB7 := Lib.hid (below_up HB6.out hB7)
  clear hB7
  go_wp2_with fail
  refine (F2 _).mono ?_
  rintro e w8 ⟨rfl, hB8⟩
  have HB8 := Lib.hid (below_up HB7.out hB8)
  clear hB8
  go_wp2_with fail
  refine (alive_any _).mono ?_
  rintro e w9 ⟨rfl, hB9⟩
  have HB9 := Lib.hid (below_up HB8.out hB9)
  clear hB9
  go_wp2_with fail
  refine (wcheck_bad 0 0 0 false false false false (by decide) _).mono ?_
  rintro e w10 ⟨rfl, hB10⟩
  have HB10 := Lib.hid (below_up HB9.out hB10)
  clear hB10
  go_wp2_with fail
  go_ret
  exact ⟨rfl, HB10.out⟩
end Go.Proofs.Ytcapbkihjjhkjaa.TurnAlive
