/- The example with which layer 20's statements begin. -/
import Derived.BigQuiet
import Derived.Deep.QuietTactic
import Derived.Laws.Rows
import Derived.Test.YtfpljpdjohmbaaaDepsSettle
namespace Go.Proofs.Ytfpljpdjohmbaaa.DepsAlive
open Go.Maps Go.RowKit Mem PosMath PartMath TurnMath TurnMap JobMath JobIndex JobMem JobTable JobTwin DepsStates DepsSettle Lay
set_option linter.unusedVariables false
set_option linter.unusedSimpArgs false

theorem settleC_any (d0 d1 d2 bo fr tr ag : Int) (K : Option Addr) (kc : Nat) (ks : List Cls) (hlk : ks.length ≤ 4611686018427387904) (X : Option Addr) (cap : Nat) (l : List JV) (hl : l.length ≤ 1000) (hla : ∀ j ∈ l, j.af.length ≤ 1000) (hw : ∀ j ∈ l, JWf j) (w : World) (hk : ClsAt w w.heap.size K ks) (hX : JobsAt w X l) :
    Calls Try.prog 43 #[.agg #[.int .i64 d0, .int .i64 d1, .int .i64 d2, .int .i64 bo, .int .i64 fr, .int .i64 tr, .int .i64 ag, .slice K ks.length kc], .slice X l.length cap] w fun e w' => (tableV d0 d1 d2 bo fr tr ag ks l ≠ 0 ∧ e = .returned (.tuple #[.slice none 0 0, .int .i64 (tableV d0 d1 d2 bo fr tr ag ks l)]) ∧ Below w.heap.size w w') ∨
      (tableV d0 d1 d2 bo fr tr ag ks l = 0 ∧ ∃ X' c', e = .returned (.tuple #[.slice X' (settleV l).length c', .int .i64 0]) ∧ (settleV l).length ≤ 1000 ∧ JobsOwn w' w.heap.size X' (settleV l) ∧ Below w.heap.size w w' ∧ (settleV l).length ≤ c') := by
  have hlen : (settleV l).length = l.length := stepS_len l l.length
  by_cases hv : tableV d0 d1 d2 bo fr tr ag ks l = 0
  · refine (settle_okC d0 d1 d2 bo fr tr ag K kc ks hlk X cap l hl hla hw hv w hk hX).mono ?_
    rintro e w1 ⟨X', c', rfl, h1, h2, h3⟩
    exact .inr ⟨hv, X', c', by rw [hlen], by omega, h1, h2, by omega⟩
  · refine (settle_bad d0 d1 d2 bo fr tr ag K kc ks hlk X cap l hl hla hv w hk hX).mono ?_
    rintro e w1 ⟨rfl, h2⟩
    exact .inl ⟨hv, rfl, h2⟩
theorem settle_any (d0 d1 d2 bo fr tr ag : Int) (K : Option Addr) (kc : Nat) (ks : List Cls) (hlk : ks.length ≤ 4611686018427387904) (X : Option Addr) (cap : Nat) (l : List JV) (hl : l.length ≤ 1000) (hla : ∀ j ∈ l, j.af.length ≤ 1000) (hw : ∀ j ∈ l, JWf j) (w : World) (hk : ClsAt w w.heap.size K ks) (hX : JobsAt w X l) :
    Calls Try.prog 43 #[.agg #[.int .i64 d0, .int .i64 d1, .int .i64 d2, .int .i64 bo, .int .i64 fr, .int .i64 tr, .int .i64 ag, .slice K ks.length kc], .slice X l.length cap] w fun e w' => (tableV d0 d1 d2 bo fr tr ag ks l ≠ 0 ∧ e = .returned (.tuple #[.slice none 0 0, .int .i64 (tableV d0 d1 d2 bo fr tr ag ks l)]) ∧ Below w.heap.size w w') ∨
      (tableV d0 d1 d2 bo fr tr ag ks l = 0 ∧ ∃ X' c', e = .returned (.tuple #[.slice X' (settleV l).length c', .int .i64 0]) ∧ (settleV l).length ≤ 1000 ∧ JobsOwn w' w.heap.size X' (settleV l) ∧ Below w.heap.size w w') :=
  (settleC_any d0 d1 d2 bo fr tr ag K kc ks hlk X cap l hl hla hw w hk hX).mono fun _ _ h => h.imp id fun ⟨h0, X', c', h1, h2, h3, h4, _⟩ => ⟨h0, X', c', h1, h2, h3, h4⟩
theorem dplain (w : World) : Calls Try.prog 39 #[] w fun e w' => ∃ g, e = .returned (.agg #[.int .i64 1, .int .i64 1, .int .i64 1, .int .i64 1, .int .i64 1, .int .i64 1, .int .i64 1, .slice (some ⟨g, 0, none⟩) 1 1]) ∧ ClsAt w' w'.heap.size (some ⟨g, 0, none⟩) [(0, 9, 1, 1)] ∧ Below w.heap.size w w' := by
  go_enter Try.func39, Try.ntmps39
  go_wp2_with fail
  refine bodyPost_ret (v := .agg #[.int .i64 1, .int .i64 1, .int .i64 1, .int .i64 1, .int .i64 1, .int .i64 1, .int .i64 1, .slice (some ⟨w.heap.size + 1, 0, none⟩) 1 1]) ?_ rfl ?_
  · exact results_cell_row rfl _ _ w.heap.size 26 #[.int .i64 1, .int .i64 1, .int .i64 1, .int .i64 1, .int .i64 1, .int .i64 1, .int .i64 1, .slice (some ⟨w.heap.size + 1, 0, none⟩) 1 1] (0, 0) _ rfl ((Blk.new w _ _).alloc _) Try.underlying26 rfl (by kernel_rfl)
  · refine ⟨w.heap.size + 1, rfl, fun i k hi => ?_, below_alloc (below_alloc (Below.refl _ _))⟩
    match i, hi with
    | 0, hi =>
      simp at hi
      subst hi
      refine ⟨_, 0, rfl, (blk1 w 56 #[.int .i64 0, .int .i64 9, .int .i64 1, .int .i64 1]).lt, ?_, ?_, ?_, ?_⟩
      · exact (blk1 w _ _).cell 0
      · exact (blk1 w _ _).cell 1
      · exact (blk1 w _ _).cell 2
      · exact (blk1 w _ _).cell 3
    | i + 1, hi => simp at hi
def jb (id st : Int) (af : List Int) : JV := ⟨id, 1, 0, ⟨1, 1, 1, false, false, false, false⟩, 1, 0, false, af, st, 0⟩
theorem one0 (id st : Int) (w : World) : Calls Try.prog 73 #[.int .i64 id, .int .u8 st, .int .i64 0] w fun e w' => e = .returned (.agg #[.int .i64 id, .int .i64 1, .int .i64 0, .int .i64 1, .int .i64 1, .int .i64 1, .bool false, .bool false, .bool false, .bool false, .int .i64 1, .int .i64 0, .bool false, .slice none 0 0, .int .u8 st, .int .i64 0]) ∧ Below w.heap.size w w' := by
  go_enter Try.func73, Try.ntmps73
  go_wp2_with fail
  refine bodyPost_ret (v := .agg #[.int .i64 id, .int .i64 1, .int .i64 0, .int .i64 1, .int .i64 1, .int .i64 1, .bool false, .bool false, .bool false, .bool false, .int .i64 1, .int .i64 0, .bool false, .slice none 0 0, .int .u8 st, .int .i64 0]) ?_ rfl ?_
  · exact results_cell_row rfl _ _ w.heap.size 33 #[.int .i64 id, .int .i64 1, .int .i64 0, .int .i64 1, .int .i64 1, .int .i64 1, .bool false, .bool false, .bool false, .bool false, .int .i64 1, .int .i64 0, .bool false, .slice none 0 0, .int .u8 st, .int .i64 0] (0, 0) _ rfl ((Blk.new w _ _).alloc _) Try.underlying33 rfl (by kernel_rfl)
  · exact ⟨rfl, below_alloc (below_alloc (Below.refl _ _))⟩
theorem one1 (id st af : Int) (h : (0 : Int) < af) (w : World) : Calls Try.prog 73 #[.int .i64 id, .int .u8 st, .int .i64 af] w fun e w' => ∃ Y, e = .returned (.agg #[.int .i64 id, .int .i64 1, .int .i64 0, .int .i64 1, .int .i64 1, .int .i64 1, .bool false, .bool false, .bool false, .bool false, .int .i64 1, .int .i64 0, .bool false, .slice Y 1 1, .int .u8 st, .int .i64 0]) ∧ IntsAt w' Y [af] ∧ Below w.heap.size w w' := by
  go_enter Try.func73, Try.ntmps73
  go_wp2_with fail
  refine bodyPost_ret (v := .agg #[.int .i64 id, .int .i64 1, .int .i64 0, .int .i64 1, .int .i64 1, .int .i64 1, .bool false, .bool false, .bool false, .bool false, .int .i64 1, .int .i64 0, .bool false, .slice (some ⟨w.heap.size + 1 + 1, 0, none⟩) 1 1, .int .u8 st, .int .i64 0]) ?_ rfl ?_
  · exact results_cell_row rfl _ _ w.heap.size 33 #[.int .i64 id, .int .i64 1, .int .i64 0, .int .i64 1, .int .i64 1, .int .i64 1, .bool false, .bool false, .bool false, .bool false, .int .i64 1, .int .i64 0, .bool false, .slice (some ⟨w.heap.size + 1 + 1, 0, none⟩) 1 1, .int .u8 st, .int .i64 0] (0, 0) _ rfl (((Blk.new w _ _).alloc _).alloc _) Try.underlying33 rfl (by kernel_rfl)
  · refine ⟨some ⟨w.heap.size + 1 + 1, 0, none⟩, rfl, fun i v hi => ?_, below_alloc (below_alloc (below_alloc (Below.refl _ _)))⟩
    match i, hi with
    | 0, hi =>
      simp at hi
      subst hi
      refine ⟨_, 0, rfl, (blk2 w 3 #[.int .i64 af]).lt, ?_⟩
      exact (blk2 w _ _).cell 0
    | i + 1, hi => simp at hi
def fourL : List JV := [jb 1 6 [], jb 2 1 [1], jb 3 1 [2], jb 4 1 []]
set_option maxRecDepth 100000 in
set_option maxHeartbeats 4000000 in
theorem four_any (w : World) : Calls Try.prog 40 #[] w fun e w' => ∃ X, e = .returned (.slice X 4 4) ∧ JobsAt w' X fourL ∧ Below w.heap.size w w' := by
  go_enter Try.func40, Try.ntmps40
  go_wp2_with fail
  refine (one0 1 6 _).mono ?_
  rintro e w1 ⟨rfl, hB1⟩
  have HB1 := Lib.hid hB1
  clear hB1
  go_wp2_with fail
  refine (one1 2 1 1 (by omega) _).mono ?_
  rintro e w2 ⟨Y2, rfl, hI2, hB2⟩
  have HB2 := Lib.hid (below_up HB1.out hB2)
  have HI2 := Lib.hid hI2
  clear hB2 hI2
  go_wp2_with fail
  refine (one1 3 1 2 (by omega) _).mono ?_
  rintro e w3 ⟨Y3, rfl, hI3, hB3⟩
  have HB3 := Lib.hid (below_up HB2.out hB3)
  have HI3 := Lib.hid (And.intro (HI2.out.up hB3) hI3)
  clear hB3 hI3
  go_wp2_with fail
  refine (one0 4 1 _).mono ?_
  rintro e w4 ⟨rfl, hB4⟩
  have HB4 := Lib.hid (below_up HB3.out hB4)
  have HI4 := Lib.hid (And.intro (HI3.out.1.up hB4) (HI3.out.2.up hB4))
  clear hB4
  go_wp2_with fail
  go_ret
  have kb : Blk (w4.alloc (.cells #[.int .i64 1, .int .i64 1, .int .i64 0, .int .i64 1, .int .i64 1, .int .i64 1, .bool false, .bool false, .bool false, .bool false, .int .i64 1, .int .i64 0, .bool false, .slice none 0 0, .int .u8 6, .int .i64 0, .int .i64 2, .int .i64 1, .int .i64 0, .int .i64 1, .int .i64 1, .int .i64 1, .bool false, .bool false, .bool false, .bool false, .int .i64 1, .int .i64 0, .bool false, .slice Y2 1 1, .int .u8 1, .int .i64 0, .int .i64 3, .int .i64 1, .int .i64 0, .int .i64 1, .int .i64 1, .int .i64 1, .bool false, .bool false, .bool false, .bool false, .int .i64 1, .int .i64 0, .bool false, .slice Y3 1 1, .int .u8 1, .int .i64 0, .int .i64 4, .int .i64 1, .int .i64 0, .int .i64 1, .int .i64 1, .int .i64 1, .bool false, .bool false, .bool false, .bool false, .int .i64 1, .int .i64 0, .bool false, .slice none 0 0, .int .u8 1, .int .i64 0] 33)) w4.heap.size 33 #[.int .i64 1, .int .i64 1, .int .i64 0, .int .i64 1, .int .i64 1, .int .i64 1, .bool false, .bool false, .bool false, .bool false, .int .i64 1, .int .i64 0, .bool false, .slice none 0 0, .int .u8 6, .int .i64 0, .int .i64 2, .int .i64 1, .int .i64 0, .int .i64 1, .int .i64 1, .int .i64 1, .bool false, .bool false, .bool false, .bool false, .int .i64 1, .int .i64 0, .bool false, .slice Y2 1 1, .int .u8 1, .int .i64 0, .int .i64 3, .int .i64 1, .int .i64 0, .int .i64 1, .int .i64 1, .int .i64 1, .bool false, .bool false, .bool false, .bool false, .int .i64 1, .int .i64 0, .bool false, .slice Y3 1 1, .int .u8 1, .int .i64 0, .int .i64 4, .int .i64 1, .int .i64 0, .int .i64 1, .int .i64 1, .int .i64 1, .bool false, .bool false, .bool false, .bool false, .int .i64 1, .int .i64 0, .bool false, .slice none 0 0, .int .u8 1, .int .i64 0] := Blk.new _ _ _
  have hB5 : Below w4.heap.size w4 (w4.alloc (.cells #[.int .i64 1, .int .i64 1, .int .i64 0, .int .i64 1, .int .i64 1, .int .i64 1, .bool false, .bool false, .bool false, .bool false, .int .i64 1, .int .i64 0, .bool false, .slice none 0 0, .int .u8 6, .int .i64 0, .int .i64 2, .int .i64 1, .int .i64 0, .int .i64 1, .int .i64 1, .int .i64 1, .bool false, .bool false, .bool false, .bool false, .int .i64 1, .int .i64 0, .bool false, .slice Y2 1 1, .int .u8 1, .int .i64 0, .int .i64 3, .int .i64 1, .int .i64 0, .int .i64 1, .int .i64 1, .int .i64 1, .bool false, .bool false, .bool false, .bool false, .int .i64 1, .int .i64 0, .bool false, .slice Y3 1 1, .int .u8 1, .int .i64 0, .int .i64 4, .int .i64 1, .int .i64 0, .int .i64 1, .int .i64 1, .int .i64 1, .bool false, .bool false, .bool false, .bool false, .int .i64 1, .int .i64 0, .bool false, .slice none 0 0, .int .u8 1, .int .i64 0] 33)) := below_alloc (Below.refl _ _)
  refine ⟨_, rfl, fun i j hi => ?_, below_up HB4.out hB5⟩
  match i, hi with
  | 0, hi =>
    simp [fourL] at hi
    subst hi
    exact ⟨_, 0, none, 0, rfl, kb.lt, ⟨kb.cell 0, kb.cell 1, kb.cell 2, kb.cell 3, kb.cell 4, kb.cell 5, kb.cell 6, kb.cell 7, kb.cell 8, kb.cell 9, kb.cell 10, kb.cell 11, kb.cell 12, kb.cell 13, kb.cell 14, kb.cell 15⟩, IntsAt.nil⟩
  | 1, hi =>
    simp [fourL] at hi
    subst hi
    exact ⟨_, 0, Y2, 1, rfl, kb.lt, ⟨kb.cell 16, kb.cell 17, kb.cell 18, kb.cell 19, kb.cell 20, kb.cell 21, kb.cell 22, kb.cell 23, kb.cell 24, kb.cell 25, kb.cell 26, kb.cell 27, kb.cell 28, kb.cell 29, kb.cell 30, kb.cell 31⟩, (HI4.out.1.up hB5)⟩
  | 2, hi =>
    simp [fourL] at hi
    subst hi
    exact ⟨_, 0, Y3, 1, rfl, kb.lt, ⟨kb.cell 32, kb.cell 33, kb.cell 34, kb.cell 35, kb.cell 36, kb.cell 37, kb.cell 38, kb.cell 39, kb.cell 40, kb.cell 41, kb.cell 42, kb.cell 43, kb.cell 44, kb.cell 45, kb.cell 46, kb.cell 47⟩, (HI4.out.2.up hB5)⟩
  | 3, hi =>
    simp [fourL] at hi
    subst hi
    exact ⟨_, 0, none, 0, rfl, kb.lt, ⟨kb.cell 48, kb.cell 49, kb.cell 50, kb.cell 51, kb.cell 52, kb.cell 53, kb.cell 54, kb.cell 55, kb.cell 56, kb.cell 57, kb.cell 58, kb.cell 59, kb.cell 60, kb.cell 61, kb.cell 62, kb.cell 63⟩, IntsAt.nil⟩
  | i + 4, hi => simp [fourL] at hi
def aliveL : List JV := [jb 1 6 [], cancel (jb 2 1 [1]), cancel (jb 3 1 [2]), jb 4 1 []]
theorem four_table : tableV 1 1 1 1 1 1 1 [(0, 9, 1, 1)] fourL = 0 := by decide +kernel
theorem four_settle : settleV fourL = aliveL := by decide +kernel
theorem four_wf : ∀ j ∈ fourL, JWf j := by
  intro j hj
  simp [fourL] at hj
  rcases hj with rfl | rfl | rfl | rfl <;> (unfold JWf WWf jb; decide)
set_option maxRecDepth 100000 in
set_option maxHeartbeats 4000000 in
theorem dalive (w : World) : Calls Try.prog 41 #[] w fun e w' => e = .returned (.bool true) ∧ Below w.heap.size w w' := by
  go_enter Try.func41, Try.ntmps41
  go_wp2_with fail
  refine (dplain _).mono ?_
  rintro e w1 ⟨g, rfl, hk, hB1⟩
  have HK := Lib.hid hk
  have HB1 := Lib.hid hB1
  clear hk hB1
  go_wp2_with fail
  refine (four_any _).mono ?_
  rintro e w2 ⟨X, rfl, hX, hB2⟩
  have HK2 := Lib.hid (HK.out.up hB2)
  have HB2 := Lib.hid (below_up HB1.out hB2)
  have HX := Lib.hid hX
  clear hX hB2 HK HB1
  go_wp2_with fail
  refine (settle_any 1 1 1 1 1 1 1 (some ⟨g, 0, none⟩) 1 [(0, 9, 1, 1)] (by simp) X 4 fourL (by simp [fourL]) (by simp [fourL, jb]) four_wf _ HK2.out HX.out).mono ?_
  rw [four_table, four_settle]
  rintro e w3 (⟨h, _⟩ | ⟨_, X3, c3, rfl, _, hO, hB3⟩)
  · exact absurd rfl h
  have HB3 := Lib.hid (below_up HB2.out hB3)
  obtain ⟨g3, Y0, q0, rfl, _, _, h0, _⟩ := hO 0 (jb 1 6 []) rfl
  obtain ⟨g4, Y1, q1, e1, _, _, h1, _⟩ := hO 1 (cancel (jb 2 1 [1])) rfl
  obtain ⟨g5, Y2, q2, e2, _, _, h2, _⟩ := hO 2 (cancel (jb 3 1 [2])) rfl
  obtain ⟨g6, Y3, q3, e3, _, _, h3, _⟩ := hO 3 (jb 4 1 []) rfl
  have e1' : g4 = g3 := by simp at e1; exact e1.symm
  have e2' : g5 = g3 := by simp at e2; exact e2.symm
  have e3' : g6 = g3 := by simp at e3; exact e3.symm
  rw [e1'] at h1
  rw [e2'] at h2
  rw [e3'] at h3
  have c0 : w3.cell? ⟨g3, 14, none⟩ = some (.int .u8 6) := h0.2.2.2.2.2.2.2.2.2.2.2.2.2.2.1
  have c1 : w3.cell? ⟨g3, 30, none⟩ = some (.int .u8 5) := h1.2.2.2.2.2.2.2.2.2.2.2.2.2.2.1
  have c2 : w3.cell? ⟨g3, 46, none⟩ = some (.int .u8 5) := h2.2.2.2.2.2.2.2.2.2.2.2.2.2.2.1
  have c3' : w3.cell? ⟨g3, 62, none⟩ = some (.int .u8 1) := h3.2.2.2.2.2.2.2.2.2.2.2.2.2.2.1
  have hlen : aliveL.length = 4 := rfl
  rw [hlen]
  clear e1 e2 e3 e1' e2' e3' h0 h1 h2 h3 hO hB3 hlen
  go_wp2_with fail
  go_ret
  exact ⟨rfl, HB3.out⟩
end Go.Proofs.Ytfpljpdjohmbaaa.DepsAlive
