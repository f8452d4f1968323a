/- The reference's Turns, of all wants that may be; its Within; and Fits: for all wants and dimensions. -/
import Derived.BigRegion
import Derived.BigQuiet
import Derived.Lib.QuietBelow
import Derived.Deep.QuietTactic
import Derived.Test.YtaldgmmmcbikgaaTurnTurns
namespace Go.Proofs.Ytaldgmmmcbikgaa.TurnRFits
open Go.Sort (grow)
open Go.RowKit Mem SeqKit PosMath PosCheck TurnMath TurnWalks TurnMap TurnAppend TurnSorted TurnAll TurnFitsV TurnRef TurnPut TurnTurns
set_option linter.unusedVariables false
set_option linter.unusedSimpArgs false

theorem turns_any (x : WV) (h : WOk x) (w : World) : Calls Try.prog 73 #[.agg x.arr] w fun e w' => ∃ X c', e = .returned (.slice X (allL x).length c') ∧ Has w' X (allL x) ∧ Below w.heap.size w w' := by
  obtain ⟨a, b, c, p, q, r, tn⟩ := x
  cases tn
  · have e : allL ⟨a, b, c, p, q, r, false⟩ = [⟨a, b, c, p, q, r, false⟩] := by unfold allL; simp
    rw [e]
    exact turns_one a b c p q r w
  · exact turns_six a b c p q r h w
theorem rwithin (d0 d1 d2 a b c : Int) (z : Bool) (h : (decide (a ≤ d0) && decide (b ≤ d1) && decide (c ≤ d2)) = z) (w : World) :
    Calls Try.prog 74 #[.agg #[.int .i64 d0, .int .i64 d1, .int .i64 d2], .agg #[.int .i64 a, .int .i64 b, .int .i64 c]] w fun e w' => e = .returned (.bool z) ∧ Below w.heap.size w w' := by
  by_cases h0 : a ≤ d0
  · by_cases h1 : b ≤ d1
    · by_cases h2 : c ≤ d2
      · obtain rfl : z = true := by rw [← h]; simp [h0, h1, h2]
        clear h
        go_enter Try.func74, Try.ntmps74
        go_wp2_with fail
        go_ret
        exact ⟨rfl, below_alloc (below_alloc (Below.refl _ _))⟩
      · obtain rfl : z = false := by rw [← h]; simp [h2]
        clear h
        go_enter Try.func74, Try.ntmps74
        go_wp2_with fail
        go_ret
        exact ⟨rfl, below_alloc (below_alloc (Below.refl _ _))⟩
    · obtain rfl : z = false := by rw [← h]; simp [h1]
      clear h
      go_enter Try.func74, Try.ntmps74
      go_wp2_with fail
      go_ret
      exact ⟨rfl, below_alloc (below_alloc (Below.refl _ _))⟩
  · obtain rfl : z = false := by rw [← h]; simp [h0]
    clear h
    go_enter Try.func74, Try.ntmps74
    go_wp2_with fail
    go_ret
    exact ⟨rfl, below_alloc (below_alloc (Below.refl _ _))⟩
theorem rfits_dims (d0 d1 d2 : Int) (x : WV) (h : ¬ May d0 d1 d2) (w : World) :
    Calls Try.prog 59 #[.agg #[.int .i64 d0, .int .i64 d1, .int .i64 d2], .agg x.arr] w fun e w' => e = .returned (.tuple #[.bool false, .int .i64 8]) ∧ Below w.heap.size w w' := by
  have HH := Lib.hid h
  clear h
  unfold WV.arr
  go_enter Try.func59, Try.ntmps59
  go_wp2_with fail
  refine (may_bad d0 d1 d2 HH.out _).mono ?_
  rintro e w1 ⟨rfl, hB1⟩
  have HB1 := Lib.hid (below_up (below_alloc (below_alloc (Below.refl _ w))) hB1)
  clear hB1
  go_wp2_with fail
  go_ret2
  exact ⟨rfl, HB1.out⟩
theorem rfits_bad (d0 d1 d2 : Int) (x : WV) (h : May d0 d1 d2) (h2 : ¬ WOk x) (w : World) :
    Calls Try.prog 59 #[.agg #[.int .i64 d0, .int .i64 d1, .int .i64 d2], .agg x.arr] w fun e w' => e = .returned (.tuple #[.bool false, .int .i64 8]) ∧ Below w.heap.size w w' := by
  have HH := Lib.hid h
  have H2 := Lib.hid h2
  clear h h2
  unfold WV.arr
  go_enter Try.func59, Try.ntmps59
  go_wp2_with fail
  refine (may_ok d0 d1 d2 HH.out _).mono ?_
  rintro e w1 ⟨rfl, hB1⟩
  have kd : Blk w1 w.heap.size 23 #[.int .i64 d0, .int .i64 d1, .int .i64 d2] := ((Blk.new w _ _).alloc _).below hB1 (by simp; omega)
  have kx : Blk w1 (w.heap.size + 1) 30 #[.int .i64 x.a, .int .i64 x.b, .int .i64 x.c, .bool x.p, .bool x.q, .bool x.r, .bool x.tn] := (blk1 w _ _).below hB1 (by simp)
  have x0 : w1.cell? ⟨w.heap.size + 1, 0, none⟩ = some (.int .i64 x.a) := kx.cell 0
  have x1 : w1.cell? ⟨w.heap.size + 1, 1, none⟩ = some (.int .i64 x.b) := kx.cell 1
  have x2 : w1.cell? ⟨w.heap.size + 1, 2, none⟩ = some (.int .i64 x.c) := kx.cell 2
  have x3 : w1.cell? ⟨w.heap.size + 1, 3, none⟩ = some (.bool x.p) := kx.cell 3
  have x4 : w1.cell? ⟨w.heap.size + 1, 4, none⟩ = some (.bool x.q) := kx.cell 4
  have x5 : w1.cell? ⟨w.heap.size + 1, 5, none⟩ = some (.bool x.r) := kx.cell 5
  have x6 : w1.cell? ⟨w.heap.size + 1, 6, none⟩ = some (.bool x.tn) := kx.cell 6
  have HB1 := Lib.hid (below_up (below_alloc (below_alloc (Below.refl _ w))) hB1)
  have KD := Lib.hid kd
  clear kd
  clear hB1 kx
  go_wp2_with fail
  refine (wmay_bad _ _ _ _ _ _ _ H2.out _).mono ?_
  rintro e w2 ⟨rfl, hB2⟩
  have HB2 := Lib.hid (below_up HB1.out hB2)
  clear hB2 x0 x1 x2 x3 x4 x5 x6
  go_wp2_with fail
  go_ret2
  exact ⟨rfl, HB2.out⟩
set_option maxRecDepth 100000 in
set_option maxHeartbeats 4000000 in
theorem rfits_ok (d0 d1 d2 : Int) (x : WV) (h : May d0 d1 d2) (h2 : WOk x) (w : World) :
    Calls Try.prog 59 #[.agg #[.int .i64 d0, .int .i64 d1, .int .i64 d2], .agg x.arr] w fun e w' => e = .returned (.tuple #[.bool ((allL x).any (fitB d0 d1 d2)), .int .i64 0]) ∧ Below w.heap.size w w' := by
  have HH := Lib.hid h
  have H2 := Lib.hid h2
  have HT := Lib.hid (turns_any x h2)
  obtain ⟨V, hV⟩ : ∃ V, V = (allL x).any (fitB d0 d1 d2) := ⟨_, rfl⟩
  rw [← hV]
  have HV := Lib.hid hV
  have hlen := allL_len (x := x)
  clear h h2 hV
  unfold WV.arr at HT ⊢
  go_enter Try.func59, Try.ntmps59
  go_wp2_with fail
  refine (may_ok d0 d1 d2 HH.out _).mono ?_
  rintro e w1 ⟨rfl, hB1⟩
  have kd : Blk w1 w.heap.size 23 #[.int .i64 d0, .int .i64 d1, .int .i64 d2] := ((Blk.new w _ _).alloc _).below hB1 (by simp; omega)
  have kx : Blk w1 (w.heap.size + 1) 30 #[.int .i64 x.a, .int .i64 x.b, .int .i64 x.c, .bool x.p, .bool x.q, .bool x.r, .bool x.tn] := (blk1 w _ _).below hB1 (by simp)
  have x0 : w1.cell? ⟨w.heap.size + 1, 0, none⟩ = some (.int .i64 x.a) := kx.cell 0
  have x1 : w1.cell? ⟨w.heap.size + 1, 1, none⟩ = some (.int .i64 x.b) := kx.cell 1
  have x2 : w1.cell? ⟨w.heap.size + 1, 2, none⟩ = some (.int .i64 x.c) := kx.cell 2
  have x3 : w1.cell? ⟨w.heap.size + 1, 3, none⟩ = some (.bool x.p) := kx.cell 3
  have x4 : w1.cell? ⟨w.heap.size + 1, 4, none⟩ = some (.bool x.q) := kx.cell 4
  have x5 : w1.cell? ⟨w.heap.size + 1, 5, none⟩ = some (.bool x.r) := kx.cell 5
  have x6 : w1.cell? ⟨w.heap.size + 1, 6, none⟩ = some (.bool x.tn) := kx.cell 6
  have HB1 := Lib.hid (below_up (below_alloc (below_alloc (Below.refl _ w))) hB1)
  have KD := Lib.hid kd
  clear kd
  have KX := Lib.hid kx
  clear hB1 kx
  go_wp2_with fail
  refine (wmay_ok _ _ _ _ _ _ _ H2.out _).mono ?_
  rintro e w2 ⟨rfl, hB2⟩
  have x0 := keep_cell x0 hB2
  have x1 := keep_cell x1 hB2
  have x2 := keep_cell x2 hB2
  have x3 := keep_cell x3 hB2
  have x4 := keep_cell x4 hB2
  have x5 := keep_cell x5 hB2
  have x6 := keep_cell x6 hB2
  have HB2 := Lib.hid (below_up HB1.out hB2)
  have KD2 := Lib.hid (KD.out.below hB2 KD.out.lt)
  clear hB2 KD KX HB1
  go_wp2_with fail
  refine (HT.out _).mono ?_
  rintro e w3 ⟨X, c, rfl, hh, hB3⟩
  have HX := Lib.hid hh
  have HB3 := Lib.hid (below_up HB2.out hB3)
  have KD3 := Lib.hid (KD2.out.below hB3 KD2.out.lt)
  clear hB3 hh KD2 HB2 x0 x1 x2 x3 x4 x5 x6 HT
  generalize hl : allL x = l at HX hlen HV
  have HL := Lib.hid hl
  clear hl
  go_wp2_with fail
  go_loopw [7] (fun i wr => ∃ k : Nat, k ≤ l.length ∧ i = .int .i64 k ∧ Hid (∀ j x, j < k → l[j]? = some x → fitB d0 d1 d2 x = false) ∧ Hid (Below w.heap.size w wr) ∧ Hid (Has wr X l) ∧ Hid (Blk wr w.heap.size 23 #[.int .i64 d0, .int .i64 d1, .int .i64 d2]))
    (fun i _ => l.length - (intOf i).toNat)
  case atStart => exact ⟨0, Nat.zero_le _, rfl, fun j x h => by omega, HB3.out, HX.out, KD3.out⟩
  case round =>
    obtain ⟨k, hk, rfl, hP, hB, hX, hD⟩ := hrel
    clear HB3 HX KD3
    by_cases hlt : k < l.length
    · have hg : l[k]? = some l[k] := List.getElem?_eq_getElem hlt
      generalize l[k] = y at hg
      have hki : (k : Int) < (l.length : Int) := by omega
      obtain ⟨b, o, rfl, hb, y0, y1, y2, y3, y4, y5, y6⟩ := hX.out k y hg
      have kd := hD.out
      have d_0 : wr.cell? ⟨w.heap.size, 0, none⟩ = some (.int .i64 d0) := kd.cell 0
      have d_1 : wr.cell? ⟨w.heap.size, 1, none⟩ = some (.int .i64 d1) := kd.cell 1
      have d_2 : wr.cell? ⟨w.heap.size, 2, none⟩ = some (.int .i64 d2) := kd.cell 2
      have k0 := cell_regrown y0
      have k1 := cell_regrown y1
      have k2 := cell_regrown y2
      have k3 := cell_regrown d_0
      have k4 := cell_regrown d_1
      have k5 := cell_regrown d_2
      have HG := Lib.hid hg
      clear hg kd
      cases hf : fitB d0 d1 d2 y
      · have hz : (decide (y.a ≤ d0) && decide (y.b ≤ d1) && decide (y.c ≤ d2)) = false := hf
        have HZ := Lib.hid hz
        clear hf hz
        go_wp2_with fail
        refine wp_region_quiet_below (by kernel_rfl) (by kernel_rfl) ?_
        repeat (go_big_quiet_step (first | exact Calls.regrown_of (rwithin _ _ _ _ _ _ _ HZ.out _)))
        refine wpQuiet_nil ?_
        intro _ hw'
        obtain ⟨⟨dq, osq⟩, hw''⟩ := hw'
        subst hw''
        have hB8 := below_regrown wr dq osq
        have B8 := Lib.hid (below_up hB.out hB8)
        have D8 := Lib.hid (hD.out.below hB8 hD.out.lt)
        have X8 := Lib.hid (hX.out.up hB8)
        generalize grow (redrawn wr dq) osq = w8 at *
        clear hB8 hB hD hX y0 y1 y2 y3 y4 y5 y6 d_0 d_1 d_2 k0 k1 k2 k3 k4 k5
        go_wp2_with fail
        go_roundw
        case rel => exact ⟨k + 1, by omega, by go_num, (fun j z hj hz => by
            rcases Nat.lt_or_ge j k with h | h
            · exact hP.out j z h hz
            · obtain rfl : j = k := by omega
              rw [HG.out] at hz; cases hz; exact HZ.out), B8.out, X8.out, D8.out⟩
        case measure => simp [intOf]; omega
      · have hz : (decide (y.a ≤ d0) && decide (y.b ≤ d1) && decide (y.c ≤ d2)) = true := hf
        have HZ := Lib.hid hz
        clear hf hz
        go_wp2_with fail
        refine wp_region_quiet_below (by kernel_rfl) (by kernel_rfl) ?_
        repeat (go_big_quiet_step (first | exact Calls.regrown_of (rwithin _ _ _ _ _ _ _ HZ.out _)))
        refine wpQuiet_nil ?_
        intro _ hw'
        obtain ⟨⟨dq, osq⟩, hw''⟩ := hw'
        subst hw''
        have hB8 := below_regrown wr dq osq
        have B8 := Lib.hid (below_up hB.out hB8)
        have D8 := Lib.hid (hD.out.below hB8 hD.out.lt)
        have X8 := Lib.hid (hX.out.up hB8)
        generalize grow (redrawn wr dq) osq = w8 at *
        clear hB8 hB hD hX y0 y1 y2 y3 y4 y5 y6 d_0 d_1 d_2 k0 k1 k2 k3 k4 k5
        go_wp2_with fail
        go_ret2
        have ev : V = true := by
          rw [HV.out]
          exact List.any_eq_true.2 ⟨y, List.mem_of_getElem? HG.out, HZ.out⟩
        rw [ev]
        exact ⟨rfl, B8.out⟩
    · obtain rfl : k = l.length := by omega
      go_wp2_with fail
      go_ret2
      have ev : V = false := by
        rw [HV.out, List.any_eq_false]
        intro x hx
        obtain ⟨j, hj, e⟩ := List.mem_iff_getElem.1 hx
        simp [hP.out j x hj (by rw [List.getElem?_eq_getElem hj, e])]
      rw [ev]
      exact ⟨rfl, hB.out⟩
theorem rfits_any (d0 d1 d2 : Int) (x : WV) (w : World) :
    Calls Try.prog 59 #[.agg #[.int .i64 d0, .int .i64 d1, .int .i64 d2], .agg x.arr] w fun e w' => e = .returned (.tuple #[.bool (fitsV d0 d1 d2 x).1, .int .i64 (fitsV d0 d1 d2 x).2]) ∧ Below w.heap.size w w' := by
  by_cases h : May d0 d1 d2
  · by_cases h2 : WOk x
    · have ev : fitsV d0 d1 d2 x = ((allL x).any (fitB d0 d1 d2), 0) := if_pos ⟨h, h2⟩
      rw [ev]
      exact rfits_ok d0 d1 d2 x h h2 w
    · have ev : fitsV d0 d1 d2 x = (false, 8) := if_neg fun h' => h2 h'.2
      rw [ev]
      exact rfits_bad d0 d1 d2 x h h2 w
  · have ev : fitsV d0 d1 d2 x = (false, 8) := if_neg fun h' => h h'.1
    rw [ev]
    exact rfits_dims d0 d1 d2 x h w
end Go.Proofs.Ytaldgmmmcbikgaa.TurnRFits
