/- The reference's less and swapped. -/
import Derived.BigRegion
import Derived.BigQuiet
import Derived.Deep.QuietTactic
import Derived.Deep.DeepCutAuto
import Derived.Test.YtaldgmmmcbikgaaTurnFitsV
namespace Go.Proofs.Ytaldgmmmcbikgaa.TurnRef
open Go.RowKit Mem PosMath PosCheck TurnMath TurnWalks TurnMap TurnSorted TurnAll TurnFitsV
set_option linter.unusedVariables false
set_option linter.unusedSimpArgs false

theorem flag_any (b : Bool) (w : World) : Calls Try.prog 95 #[.bool b] w fun e w' => e = .returned (.int .i64 (bitI b)) ∧ w' = w := by
  cases b
  · go_enter Try.func95, Try.ntmps95
    go_wp2_with fail
    go_ret
    exact ⟨rfl, rfl⟩
  · go_enter Try.func95, Try.ntmps95
    go_wp2_with fail
    go_ret
    exact ⟨rfl, rfl⟩
theorem cmpI_ne {x y : Int} (h : x ≠ y) : cmpI x y ≠ 0 ∧ decide (cmpI x y < 0) = decide (x < y) := by
  rcases cmpI_eq x y with ⟨g, e⟩ | ⟨g, e⟩ | ⟨g, e⟩ <;> rw [e]
  · exact ⟨by decide, by simp [g]⟩
  · exact absurd g h
  · exact ⟨by decide, by simp; omega⟩
theorem cmpI_same {x : Int} : cmpI x x = 0 := by unfold cmpI; simp
set_option maxRecDepth 100000 in
set_option maxHeartbeats 8000000 in
theorem less_any (a1 b1 c1 : Int) (p1 q1 r1 tn1 : Bool) (a2 b2 c2 : Int) (p2 q2 r2 tn2 : Bool) (z : Bool) (hz : decide (cmpW ⟨a1, b1, c1, p1, q1, r1, tn1⟩ ⟨a2, b2, c2, p2, q2, r2, tn2⟩ < 0) = z) (w : World) :
    Calls Try.prog 90 #[.agg #[.int .i64 a1, .int .i64 b1, .int .i64 c1, .bool p1, .bool q1, .bool r1, .bool tn1], .agg #[.int .i64 a2, .int .i64 b2, .int .i64 c2, .bool p2, .bool q2, .bool r2, .bool tn2]] w fun e w' => e = .returned (.bool z) ∧ Below w.heap.size w w' := by
  have HZ := Lib.hid hz
  clear hz
  go_enter Try.func90, Try.ntmps90
  go_wp2_with fail
  have k1 : Blk ((w.alloc (.cells #[.int .i64 a1, .int .i64 b1, .int .i64 c1, .bool p1, .bool q1, .bool r1, .bool tn1] 30)).alloc (.cells #[.int .i64 a2, .int .i64 b2, .int .i64 c2, .bool p2, .bool q2, .bool r2, .bool tn2] 30)) w.heap.size 30 #[.int .i64 a1, .int .i64 b1, .int .i64 c1, .bool p1, .bool q1, .bool r1, .bool tn1] := (Blk.new w _ _).alloc _
  have k2 : Blk ((w.alloc (.cells #[.int .i64 a1, .int .i64 b1, .int .i64 c1, .bool p1, .bool q1, .bool r1, .bool tn1] 30)).alloc (.cells #[.int .i64 a2, .int .i64 b2, .int .i64 c2, .bool p2, .bool q2, .bool r2, .bool tn2] 30)) (w.heap.size + 1) 30 #[.int .i64 a2, .int .i64 b2, .int .i64 c2, .bool p2, .bool q2, .bool r2, .bool tn2] := blk1 w _ _
  have hb0 : Below w.heap.size w ((w.alloc (.cells #[.int .i64 a1, .int .i64 b1, .int .i64 c1, .bool p1, .bool q1, .bool r1, .bool tn1] 30)).alloc (.cells #[.int .i64 a2, .int .i64 b2, .int .i64 c2, .bool p2, .bool q2, .bool r2, .bool tn2] 30)) := below_alloc (below_alloc (Below.refl _ _))
  generalize ((w.alloc (.cells #[.int .i64 a1, .int .i64 b1, .int .i64 c1, .bool p1, .bool q1, .bool r1, .bool tn1] 30)).alloc (.cells #[.int .i64 a2, .int .i64 b2, .int .i64 c2, .bool p2, .bool q2, .bool r2, .bool tn2] 30)) = W0 at *
  have HB0 := Lib.hid hb0
  have K1 := Lib.hid k1
  have K2 := Lib.hid k2
  clear k1 k2 hb0
  go_loopw [5] (fun i wr => ∃ k : Nat, k ≤ 3 ∧ i = .int .i64 k ∧ Hid ((0 < k → a1 = a2) ∧ (1 < k → b1 = b2) ∧ (2 < k → c1 = c2)) ∧ Hid (Below w.heap.size w wr) ∧ Hid (Blk wr w.heap.size 30 #[.int .i64 a1, .int .i64 b1, .int .i64 c1, .bool p1, .bool q1, .bool r1, .bool tn1]) ∧ Hid (Blk wr (w.heap.size + 1) 30 #[.int .i64 a2, .int .i64 b2, .int .i64 c2, .bool p2, .bool q2, .bool r2, .bool tn2]))
    (fun i _ => 3 - (intOf i).toNat)
  case atStart => exact ⟨0, by omega, rfl, ⟨(fun h => by omega), (fun h => by omega), (fun h => by omega)⟩, HB0.out, K1.out, K2.out⟩
  case round =>
    obtain ⟨k, hk, rfl, hp, hB, h1, h2⟩ := hrel
    clear HB0 K1 K2
    have k1 := h1.out
    have k2 := h2.out
    have d0 : wr.cell? ⟨w.heap.size, 0, none⟩ = some (.int .i64 a1) := k1.cell 0
    have e0 : wr.cell? ⟨w.heap.size + 1, 0, none⟩ = some (.int .i64 a2) := k2.cell 0
    have d1 : wr.cell? ⟨w.heap.size, 1, none⟩ = some (.int .i64 b1) := k1.cell 1
    have e1 : wr.cell? ⟨w.heap.size + 1, 1, none⟩ = some (.int .i64 b2) := k2.cell 1
    have d2 : wr.cell? ⟨w.heap.size, 2, none⟩ = some (.int .i64 c1) := k1.cell 2
    have e2 : wr.cell? ⟨w.heap.size + 1, 2, none⟩ = some (.int .i64 c2) := k2.cell 2
    have d3 : wr.cell? ⟨w.heap.size, 3, none⟩ = some (.bool p1) := k1.cell 3
    have e3 : wr.cell? ⟨w.heap.size + 1, 3, none⟩ = some (.bool p2) := k2.cell 3
    have d4 : wr.cell? ⟨w.heap.size, 4, none⟩ = some (.bool q1) := k1.cell 4
    have e4 : wr.cell? ⟨w.heap.size + 1, 4, none⟩ = some (.bool q2) := k2.cell 4
    have d5 : wr.cell? ⟨w.heap.size, 5, none⟩ = some (.bool r1) := k1.cell 5
    have e5 : wr.cell? ⟨w.heap.size + 1, 5, none⟩ = some (.bool r2) := k2.cell 5
    clear k1 k2
    match k, hk with
    | 0, _ =>
      by_cases hv : a1 = a2
      · have HV := Lib.hid hv
        have t0 : (a1 != a2) = false := by rw [hv]; simp
        clear hv
        go_wp2_with fail
        go_quiet (fail)
        go_wp2_with fail
        go_roundw
        case rel => exact ⟨1, by omega, rfl, ⟨(fun _ => HV.out), (fun h => by omega), (fun h => by omega)⟩, below_drewN hB.out _, h1.out.drewN _, h2.out.drewN _⟩
        case measure => simp [intOf]
      · have t0 : (a1 != a2) = true := by simpa using hv
        have HV := Lib.hid hv
        clear hv
        go_wp2_with fail
        go_quiet (fail)
        go_wp2_with fail
        go_quiet (fail)
        go_wp2_with fail
        go_ret
        have ez : z = decide (a1 < a2) := by
          rw [← HZ.out]
          unfold cmpW
          dsimp only
          skip
          rw [if_pos (cmpI_ne HV.out).1, (cmpI_ne HV.out).2]
        rw [ez]
        exact ⟨rfl, below_drewN (below_drewN hB.out _) _⟩
    | 1, _ =>
      by_cases hv : b1 = b2
      · have HV := Lib.hid hv
        have t0 : (b1 != b2) = false := by rw [hv]; simp
        clear hv
        go_wp2_with fail
        go_quiet (fail)
        go_wp2_with fail
        go_roundw
        case rel => exact ⟨2, by omega, rfl, ⟨(fun _ => hp.out.1 (by omega)), (fun _ => HV.out), (fun h => by omega)⟩, below_drewN hB.out _, h1.out.drewN _, h2.out.drewN _⟩
        case measure => simp [intOf]
      · have t0 : (b1 != b2) = true := by simpa using hv
        have HV := Lib.hid hv
        clear hv
        go_wp2_with fail
        go_quiet (fail)
        go_wp2_with fail
        go_quiet (fail)
        go_wp2_with fail
        go_ret
        have ez : z = decide (b1 < b2) := by
          rw [← HZ.out]
          unfold cmpW
          dsimp only
          rw [hp.out.1 (by omega), cmpI_same, if_neg (by simp)]
          rw [if_pos (cmpI_ne HV.out).1, (cmpI_ne HV.out).2]
        rw [ez]
        exact ⟨rfl, below_drewN (below_drewN hB.out _) _⟩
    | 2, _ =>
      by_cases hv : c1 = c2
      · have HV := Lib.hid hv
        have t0 : (c1 != c2) = false := by rw [hv]; simp
        clear hv
        go_wp2_with fail
        go_quiet (fail)
        go_wp2_with fail
        go_roundw
        case rel => exact ⟨3, by omega, rfl, ⟨(fun _ => hp.out.1 (by omega)), (fun _ => hp.out.2.1 (by omega)), (fun _ => HV.out)⟩, below_drewN hB.out _, h1.out.drewN _, h2.out.drewN _⟩
        case measure => simp [intOf]
      · have t0 : (c1 != c2) = true := by simpa using hv
        have HV := Lib.hid hv
        clear hv
        go_wp2_with fail
        go_quiet (fail)
        go_wp2_with fail
        go_quiet (fail)
        go_wp2_with fail
        go_ret
        have ez : z = decide (c1 < c2) := by
          rw [← HZ.out]
          unfold cmpW
          dsimp only
          rw [hp.out.1 (by omega), cmpI_same, if_neg (by simp)]
          rw [hp.out.2.1 (by omega), cmpI_same, if_neg (by simp)]
          rw [if_pos (cmpI_ne HV.out).1, (cmpI_ne HV.out).2]
        rw [ez]
        exact ⟨rfl, below_drewN (below_drewN hB.out _) _⟩
    | 3, _ =>
      go_wp2_with fail
      go_loopw [6] (fun i wi => ∃ k : Nat, k ≤ 3 ∧ i = .int .i64 k ∧ Hid ((0 < k → p1 = p2) ∧ (1 < k → q1 = q2) ∧ (2 < k → r1 = r2)) ∧ Hid (Below w.heap.size w wi) ∧ Hid (Blk wi w.heap.size 30 #[.int .i64 a1, .int .i64 b1, .int .i64 c1, .bool p1, .bool q1, .bool r1, .bool tn1]) ∧ Hid (Blk wi (w.heap.size + 1) 30 #[.int .i64 a2, .int .i64 b2, .int .i64 c2, .bool p2, .bool q2, .bool r2, .bool tn2]))
        (fun i _ => 3 - (intOf i).toNat)
      case atStart => exact ⟨0, by omega, rfl, ⟨(fun h => by omega), (fun h => by omega), (fun h => by omega)⟩, hB.out, h1.out, h2.out⟩
      case round =>
        obtain ⟨k, hk, rfl, hq, hB, h1, h2⟩ := hrel
        clear d0 d1 d2 d3 d4 d5 e0 e1 e2 e3 e4 e5
        have k1 := h1.out
        have k2 := h2.out
        have d0 : wr.cell? ⟨w.heap.size, 0, none⟩ = some (.int .i64 a1) := k1.cell 0
        have e0 : wr.cell? ⟨w.heap.size + 1, 0, none⟩ = some (.int .i64 a2) := k2.cell 0
        have d1 : wr.cell? ⟨w.heap.size, 1, none⟩ = some (.int .i64 b1) := k1.cell 1
        have e1 : wr.cell? ⟨w.heap.size + 1, 1, none⟩ = some (.int .i64 b2) := k2.cell 1
        have d2 : wr.cell? ⟨w.heap.size, 2, none⟩ = some (.int .i64 c1) := k1.cell 2
        have e2 : wr.cell? ⟨w.heap.size + 1, 2, none⟩ = some (.int .i64 c2) := k2.cell 2
        have d3 : wr.cell? ⟨w.heap.size, 3, none⟩ = some (.bool p1) := k1.cell 3
        have e3 : wr.cell? ⟨w.heap.size + 1, 3, none⟩ = some (.bool p2) := k2.cell 3
        have d4 : wr.cell? ⟨w.heap.size, 4, none⟩ = some (.bool q1) := k1.cell 4
        have e4 : wr.cell? ⟨w.heap.size + 1, 4, none⟩ = some (.bool q2) := k2.cell 4
        have d5 : wr.cell? ⟨w.heap.size, 5, none⟩ = some (.bool r1) := k1.cell 5
        have e5 : wr.cell? ⟨w.heap.size + 1, 5, none⟩ = some (.bool r2) := k2.cell 5
        clear k1 k2
        match k, hk with
        | 0, _ =>
          by_cases hv : p1 = p2
          · have HV := Lib.hid hv
            have t0 : (!(p1 == p2)) = false := by rw [hv]; simp
            clear hv
            go_wp2_with fail
            go_quiet (fail)
            go_wp2_with fail
            go_roundw
            case rel => exact ⟨1, by omega, rfl, ⟨(fun _ => HV.out), (fun h => by omega), (fun h => by omega)⟩, below_drewN hB.out _, h1.out.drewN _, h2.out.drewN _⟩
            case measure => simp [intOf]
          · have t0 : (!(p1 == p2)) = true := by simpa using hv
            have hne : bitI p1 ≠ bitI p2 := fun e => hv (bitI_inj e)
            have ez : z = decide (bitI p1 < bitI p2) := by
              rw [← HZ.out]
              unfold cmpW
              dsimp only
              rw [hp.out.1 (by omega), cmpI_same, if_neg (by simp)]
              rw [hp.out.2.1 (by omega), cmpI_same, if_neg (by simp)]
              rw [hp.out.2.2 (by omega), cmpI_same, if_neg (by simp)]
              skip
              rw [if_pos (cmpI_ne hne).1, (cmpI_ne hne).2]
            have HEZ := Lib.hid ez
            clear hv hne ez
            go_wp2_with fail
            go_quiet (fail)
            go_wp2_with fail
            go_quiet (first | exact (flag_any _ _).mono fun _ _ h => ⟨h.1, _, h.2⟩)
            go_wp2_with fail
            go_ret
            rw [HEZ.out]
            exact ⟨rfl, below_drewN (below_drewN hB.out _) _⟩
        | 1, _ =>
          by_cases hv : q1 = q2
          · have HV := Lib.hid hv
            have t0 : (!(q1 == q2)) = false := by rw [hv]; simp
            clear hv
            go_wp2_with fail
            go_quiet (fail)
            go_wp2_with fail
            go_roundw
            case rel => exact ⟨2, by omega, rfl, ⟨(fun _ => hq.out.1 (by omega)), (fun _ => HV.out), (fun h => by omega)⟩, below_drewN hB.out _, h1.out.drewN _, h2.out.drewN _⟩
            case measure => simp [intOf]
          · have t0 : (!(q1 == q2)) = true := by simpa using hv
            have hne : bitI q1 ≠ bitI q2 := fun e => hv (bitI_inj e)
            have ez : z = decide (bitI q1 < bitI q2) := by
              rw [← HZ.out]
              unfold cmpW
              dsimp only
              rw [hp.out.1 (by omega), cmpI_same, if_neg (by simp)]
              rw [hp.out.2.1 (by omega), cmpI_same, if_neg (by simp)]
              rw [hp.out.2.2 (by omega), cmpI_same, if_neg (by simp)]
              rw [hq.out.1 (by omega), cmpI_same, if_neg (by simp)]
              rw [if_pos (cmpI_ne hne).1, (cmpI_ne hne).2]
            have HEZ := Lib.hid ez
            clear hv hne ez
            go_wp2_with fail
            go_quiet (fail)
            go_wp2_with fail
            go_quiet (first | exact (flag_any _ _).mono fun _ _ h => ⟨h.1, _, h.2⟩)
            go_wp2_with fail
            go_ret
            rw [HEZ.out]
            exact ⟨rfl, below_drewN (below_drewN hB.out _) _⟩
        | 2, _ =>
          by_cases hv : r1 = r2
          · have HV := Lib.hid hv
            have t0 : (!(r1 == r2)) = false := by rw [hv]; simp
            clear hv
            go_wp2_with fail
            go_quiet (fail)
            go_wp2_with fail
            go_roundw
            case rel => exact ⟨3, by omega, rfl, ⟨(fun _ => hq.out.1 (by omega)), (fun _ => hq.out.2.1 (by omega)), (fun _ => HV.out)⟩, below_drewN hB.out _, h1.out.drewN _, h2.out.drewN _⟩
            case measure => simp [intOf]
          · have t0 : (!(r1 == r2)) = true := by simpa using hv
            have hne : bitI r1 ≠ bitI r2 := fun e => hv (bitI_inj e)
            have ez : z = decide (bitI r1 < bitI r2) := by
              rw [← HZ.out]
              unfold cmpW
              dsimp only
              rw [hp.out.1 (by omega), cmpI_same, if_neg (by simp)]
              rw [hp.out.2.1 (by omega), cmpI_same, if_neg (by simp)]
              rw [hp.out.2.2 (by omega), cmpI_same, if_neg (by simp)]
              rw [hq.out.1 (by omega), cmpI_same, if_neg (by simp)]
              rw [hq.out.2.1 (by omega), cmpI_same, if_neg (by simp)]
              rw [(cmpI_ne hne).2]
            have HEZ := Lib.hid ez
            clear hv hne ez
            go_wp2_with fail
            go_quiet (fail)
            go_wp2_with fail
            go_quiet (first | exact (flag_any _ _).mono fun _ _ h => ⟨h.1, _, h.2⟩)
            go_wp2_with fail
            go_ret
            rw [HEZ.out]
            exact ⟨rfl, below_drewN (below_drewN hB.out _) _⟩
        | 3, _ =>
          go_wp2_with fail
          go_ret
          have ez : z = false := by
            rw [← HZ.out]
            unfold cmpW
            dsimp only
            rw [hp.out.1 (by omega), cmpI_same, if_neg (by simp)]
            rw [hp.out.2.1 (by omega), cmpI_same, if_neg (by simp)]
            rw [hp.out.2.2 (by omega), cmpI_same, if_neg (by simp)]
            rw [hq.out.1 (by omega), cmpI_same, if_neg (by simp)]
            rw [hq.out.2.1 (by omega), cmpI_same, if_neg (by simp)]
            rw [hq.out.2.2 (by omega), cmpI_same]
            rfl
          rw [ez]
          exact ⟨rfl, hB.out⟩
theorem res_swapped (tmps : Array Value) (W : World) (g : Nat) (v0 v1 v2 v3 v4 v5 v6 : Value) (hc : tmps[6]?.getD undef = .pointer (some ⟨g, 0, none⟩)) (hb : Blk W g 30 #[v0, v1, v2, v3, v4, v5, v6]) :
    (results Try.f83 tmps).run Try.prog W = .ok (.agg #[v0, v1, v2, v3, v4, v5, v6]) W := by
  have c0 := hb.cell 0
  have c1 := hb.cell 1
  have c2 := hb.cell 2
  have c3 := hb.cell 3
  have c4 := hb.cell 4
  have c5 := hb.cell 5
  have c6 := hb.cell 6
  simp at c0 c1 c2 c3 c4 c5 c6
  simp [results, Try.f83, go_sem, hc, c0, c1, c2, c3, c4, c5, c6]
theorem store7 {w W : World} {g : Nat} {t : TypeId} {a0 a1 a2 a3 a4 a5 a6 : Value} (hB : Below w.heap.size w W) (hg : w.heap.size ≤ g) (hb : Blk W g t #[a0, a1, a2, a3, a4, a5, a6]) (v0 v1 v2 v3 v4 v5 v6 : Value) :
    Below w.heap.size w (((((((W.setCell ⟨g, 0, none⟩ v0).setCell ⟨g, 1, none⟩ v1).setCell ⟨g, 2, none⟩ v2).setCell ⟨g, 3, none⟩ v3).setCell ⟨g, 4, none⟩ v4).setCell ⟨g, 5, none⟩ v5).setCell ⟨g, 6, none⟩ v6) ∧
    Blk (((((((W.setCell ⟨g, 0, none⟩ v0).setCell ⟨g, 1, none⟩ v1).setCell ⟨g, 2, none⟩ v2).setCell ⟨g, 3, none⟩ v3).setCell ⟨g, 4, none⟩ v4).setCell ⟨g, 5, none⟩ v5).setCell ⟨g, 6, none⟩ v6) g t #[v0, v1, v2, v3, v4, v5, v6] := by
  refine ⟨((((((hB.setCell (p := ⟨g, 0, none⟩) hg _).setCell (p := ⟨g, 1, none⟩) hg _).setCell (p := ⟨g, 2, none⟩) hg _).setCell (p := ⟨g, 3, none⟩) hg _).setCell (p := ⟨g, 4, none⟩) hg _).setCell (p := ⟨g, 5, none⟩) hg _).setCell (p := ⟨g, 6, none⟩) hg _, ?_⟩
  have h := (((((((hb.set_ 0 v0).set_ 1 v1).set_ 2 v2).set_ 3 v3).set_ 4 v4).set_ 5 v5).set_ 6 v6)
  simpa only [List.setIfInBounds_toArray, List.set_cons_zero, List.set_cons_succ] using h
set_option maxRecDepth 100000 in
set_option maxHeartbeats 4000000 in
theorem swapped01 (a b c : Int) (p q r tn : Bool) (w : World) : Calls Try.prog 83 #[.agg #[.int .i64 a, .int .i64 b, .int .i64 c, .bool p, .bool q, .bool r, .bool tn], .int .i64 0, .int .i64 1] w fun e w' => e = .returned (.agg #[.int .i64 b, .int .i64 a, .int .i64 c, .bool q, .bool p, .bool r, .bool tn]) ∧ Below w.heap.size w w' := by
  go_enter Try.func83, Try.ntmps83
  go_upto_region 1 with fail
  have kx : Blk ((w.alloc (.cells #[.int .i64 a, .int .i64 b, .int .i64 c, .bool p, .bool q, .bool r, .bool tn] 30)).alloc (.cells #[.int .i64 0, .int .i64 0, .int .i64 0, .bool false, .bool false, .bool false, .bool false] 30)) w.heap.size 30 #[.int .i64 a, .int .i64 b, .int .i64 c, .bool p, .bool q, .bool r, .bool tn] := (Blk.new w _ _).alloc _
  have kr : Blk ((w.alloc (.cells #[.int .i64 a, .int .i64 b, .int .i64 c, .bool p, .bool q, .bool r, .bool tn] 30)).alloc (.cells #[.int .i64 0, .int .i64 0, .int .i64 0, .bool false, .bool false, .bool false, .bool false] 30)) (w.heap.size + 1) 30 #[.int .i64 0, .int .i64 0, .int .i64 0, .bool false, .bool false, .bool false, .bool false] := blk1 w _ _
  have hb0 : Below w.heap.size w ((w.alloc (.cells #[.int .i64 a, .int .i64 b, .int .i64 c, .bool p, .bool q, .bool r, .bool tn] 30)).alloc (.cells #[.int .i64 0, .int .i64 0, .int .i64 0, .bool false, .bool false, .bool false, .bool false] 30)) := below_alloc (below_alloc (Below.refl _ _))
  generalize ((w.alloc (.cells #[.int .i64 a, .int .i64 b, .int .i64 c, .bool p, .bool q, .bool r, .bool tn] 30)).alloc (.cells #[.int .i64 0, .int .i64 0, .int .i64 0, .bool false, .bool false, .bool false, .bool false] 30)) = W0 at *
  have HK := Lib.hid (And.intro kx (And.intro kr hb0))
  have x0 : W0.cell? ⟨w.heap.size, 0, none⟩ = some (.int .i64 a) := kx.cell 0
  have f0 : W0.frozen? ⟨w.heap.size, 0, none⟩ = false := kx.frozen 0
  have x1 : W0.cell? ⟨w.heap.size, 1, none⟩ = some (.int .i64 b) := kx.cell 1
  have f1 : W0.frozen? ⟨w.heap.size, 1, none⟩ = false := kx.frozen 1
  have x2 : W0.cell? ⟨w.heap.size, 2, none⟩ = some (.int .i64 c) := kx.cell 2
  have f2 : W0.frozen? ⟨w.heap.size, 2, none⟩ = false := kx.frozen 2
  have x3 : W0.cell? ⟨w.heap.size, 3, none⟩ = some (.bool p) := kx.cell 3
  have f3 : W0.frozen? ⟨w.heap.size, 3, none⟩ = false := kx.frozen 3
  have x4 : W0.cell? ⟨w.heap.size, 4, none⟩ = some (.bool q) := kx.cell 4
  have f4 : W0.frozen? ⟨w.heap.size, 4, none⟩ = false := kx.frozen 4
  have x5 : W0.cell? ⟨w.heap.size, 5, none⟩ = some (.bool r) := kx.cell 5
  have f5 : W0.frozen? ⟨w.heap.size, 5, none⟩ = false := kx.frozen 5
  have x6 : W0.cell? ⟨w.heap.size, 6, none⟩ = some (.bool tn) := kx.cell 6
  have f6 : W0.frozen? ⟨w.heap.size, 6, none⟩ = false := kx.frozen 6
  have m0 : W0.cell? ⟨w.heap.size + 1, 0, none⟩ = some (.int .i64 0) := kr.cell 0
  have n0 : W0.frozen? ⟨w.heap.size + 1, 0, none⟩ = false := kr.frozen 0
  have m1 : W0.cell? ⟨w.heap.size + 1, 1, none⟩ = some (.int .i64 0) := kr.cell 1
  have n1 : W0.frozen? ⟨w.heap.size + 1, 1, none⟩ = false := kr.frozen 1
  have m2 : W0.cell? ⟨w.heap.size + 1, 2, none⟩ = some (.int .i64 0) := kr.cell 2
  have n2 : W0.frozen? ⟨w.heap.size + 1, 2, none⟩ = false := kr.frozen 2
  have m3 : W0.cell? ⟨w.heap.size + 1, 3, none⟩ = some (.bool false) := kr.cell 3
  have n3 : W0.frozen? ⟨w.heap.size + 1, 3, none⟩ = false := kr.frozen 3
  have m4 : W0.cell? ⟨w.heap.size + 1, 4, none⟩ = some (.bool false) := kr.cell 4
  have n4 : W0.frozen? ⟨w.heap.size + 1, 4, none⟩ = false := kr.frozen 4
  have m5 : W0.cell? ⟨w.heap.size + 1, 5, none⟩ = some (.bool false) := kr.cell 5
  have n5 : W0.frozen? ⟨w.heap.size + 1, 5, none⟩ = false := kr.frozen 5
  have m6 : W0.cell? ⟨w.heap.size + 1, 6, none⟩ = some (.bool false) := kr.cell 6
  have n6 : W0.frozen? ⟨w.heap.size + 1, 6, none⟩ = false := kr.frozen 6
  have z0 : w.heap.size < W0.heap.size := kx.lt
  have z1 : w.heap.size + 1 < W0.heap.size := kr.lt
  clear kx kr hb0
  go_wp2_with fail
  go_region
  all_goals
    go_wp2_with fail
    go_region
    all_goals
      go_wp2_with fail
      refine bodyPost_ret (v := .agg #[.int .i64 b, .int .i64 a, .int .i64 c, .bool q, .bool p, .bool r, .bool tn]) ?_ rfl ?_
      · first | exact res_swapped _ _ (w.heap.size + 1) _ _ _ _ _ _ _ rfl ((store7 (g := w.heap.size + 1) ((((HK.out.2.2.setCell (p := ⟨w.heap.size, 0, none⟩) (Nat.le_refl _) (.int .i64 b)).setCell (p := ⟨w.heap.size, 1, none⟩) (Nat.le_refl _) (.int .i64 a)).setCell (p := ⟨w.heap.size, 3, none⟩) (Nat.le_refl _) (.bool q)).setCell (p := ⟨w.heap.size, 4, none⟩) (Nat.le_refl _) (.bool p)) (by omega) ((((HK.out.2.1.far (p := ⟨w.heap.size, 0, none⟩) (by simp) (.int .i64 b)).far (p := ⟨w.heap.size, 1, none⟩) (by simp) (.int .i64 a)).far (p := ⟨w.heap.size, 3, none⟩) (by simp) (.bool q)).far (p := ⟨w.heap.size, 4, none⟩) (by simp) (.bool p)) (.int .i64 b) (.int .i64 a) (.int .i64 c) (.bool q) (.bool p) (.bool r) (.bool tn)).2.drew.drew) | exact res_swapped _ _ (w.heap.size + 1) _ _ _ _ _ _ _ rfl ((store7 (g := w.heap.size + 1) ((((HK.out.2.2.setCell (p := ⟨w.heap.size, 0, none⟩) (Nat.le_refl _) (.int .i64 b)).setCell (p := ⟨w.heap.size, 1, none⟩) (Nat.le_refl _) (.int .i64 a)).setCell (p := ⟨w.heap.size, 4, none⟩) (Nat.le_refl _) (.bool p)).setCell (p := ⟨w.heap.size, 3, none⟩) (Nat.le_refl _) (.bool q)) (by omega) ((((HK.out.2.1.far (p := ⟨w.heap.size, 0, none⟩) (by simp) (.int .i64 b)).far (p := ⟨w.heap.size, 1, none⟩) (by simp) (.int .i64 a)).far (p := ⟨w.heap.size, 4, none⟩) (by simp) (.bool p)).far (p := ⟨w.heap.size, 3, none⟩) (by simp) (.bool q)) (.int .i64 b) (.int .i64 a) (.int .i64 c) (.bool q) (.bool p) (.bool r) (.bool tn)).2.drew.drew) | exact res_swapped _ _ (w.heap.size + 1) _ _ _ _ _ _ _ rfl ((store7 (g := w.heap.size + 1) ((((HK.out.2.2.setCell (p := ⟨w.heap.size, 1, none⟩) (Nat.le_refl _) (.int .i64 a)).setCell (p := ⟨w.heap.size, 0, none⟩) (Nat.le_refl _) (.int .i64 b)).setCell (p := ⟨w.heap.size, 3, none⟩) (Nat.le_refl _) (.bool q)).setCell (p := ⟨w.heap.size, 4, none⟩) (Nat.le_refl _) (.bool p)) (by omega) ((((HK.out.2.1.far (p := ⟨w.heap.size, 1, none⟩) (by simp) (.int .i64 a)).far (p := ⟨w.heap.size, 0, none⟩) (by simp) (.int .i64 b)).far (p := ⟨w.heap.size, 3, none⟩) (by simp) (.bool q)).far (p := ⟨w.heap.size, 4, none⟩) (by simp) (.bool p)) (.int .i64 b) (.int .i64 a) (.int .i64 c) (.bool q) (.bool p) (.bool r) (.bool tn)).2.drew.drew) | exact res_swapped _ _ (w.heap.size + 1) _ _ _ _ _ _ _ rfl ((store7 (g := w.heap.size + 1) ((((HK.out.2.2.setCell (p := ⟨w.heap.size, 1, none⟩) (Nat.le_refl _) (.int .i64 a)).setCell (p := ⟨w.heap.size, 0, none⟩) (Nat.le_refl _) (.int .i64 b)).setCell (p := ⟨w.heap.size, 4, none⟩) (Nat.le_refl _) (.bool p)).setCell (p := ⟨w.heap.size, 3, none⟩) (Nat.le_refl _) (.bool q)) (by omega) ((((HK.out.2.1.far (p := ⟨w.heap.size, 1, none⟩) (by simp) (.int .i64 a)).far (p := ⟨w.heap.size, 0, none⟩) (by simp) (.int .i64 b)).far (p := ⟨w.heap.size, 4, none⟩) (by simp) (.bool p)).far (p := ⟨w.heap.size, 3, none⟩) (by simp) (.bool q)) (.int .i64 b) (.int .i64 a) (.int .i64 c) (.bool q) (.bool p) (.bool r) (.bool tn)).2.drew.drew)
      · first | exact ⟨rfl, (store7 (g := w.heap.size + 1) ((((HK.out.2.2.setCell (p := ⟨w.heap.size, 0, none⟩) (Nat.le_refl _) (.int .i64 b)).setCell (p := ⟨w.heap.size, 1, none⟩) (Nat.le_refl _) (.int .i64 a)).setCell (p := ⟨w.heap.size, 3, none⟩) (Nat.le_refl _) (.bool q)).setCell (p := ⟨w.heap.size, 4, none⟩) (Nat.le_refl _) (.bool p)) (by omega) ((((HK.out.2.1.far (p := ⟨w.heap.size, 0, none⟩) (by simp) (.int .i64 b)).far (p := ⟨w.heap.size, 1, none⟩) (by simp) (.int .i64 a)).far (p := ⟨w.heap.size, 3, none⟩) (by simp) (.bool q)).far (p := ⟨w.heap.size, 4, none⟩) (by simp) (.bool p)) (.int .i64 b) (.int .i64 a) (.int .i64 c) (.bool q) (.bool p) (.bool r) (.bool tn)).1.drew.drew⟩ | exact ⟨rfl, (store7 (g := w.heap.size + 1) ((((HK.out.2.2.setCell (p := ⟨w.heap.size, 0, none⟩) (Nat.le_refl _) (.int .i64 b)).setCell (p := ⟨w.heap.size, 1, none⟩) (Nat.le_refl _) (.int .i64 a)).setCell (p := ⟨w.heap.size, 4, none⟩) (Nat.le_refl _) (.bool p)).setCell (p := ⟨w.heap.size, 3, none⟩) (Nat.le_refl _) (.bool q)) (by omega) ((((HK.out.2.1.far (p := ⟨w.heap.size, 0, none⟩) (by simp) (.int .i64 b)).far (p := ⟨w.heap.size, 1, none⟩) (by simp) (.int .i64 a)).far (p := ⟨w.heap.size, 4, none⟩) (by simp) (.bool p)).far (p := ⟨w.heap.size, 3, none⟩) (by simp) (.bool q)) (.int .i64 b) (.int .i64 a) (.int .i64 c) (.bool q) (.bool p) (.bool r) (.bool tn)).1.drew.drew⟩ | exact ⟨rfl, (store7 (g := w.heap.size + 1) ((((HK.out.2.2.setCell (p := ⟨w.heap.size, 1, none⟩) (Nat.le_refl _) (.int .i64 a)).setCell (p := ⟨w.heap.size, 0, none⟩) (Nat.le_refl _) (.int .i64 b)).setCell (p := ⟨w.heap.size, 3, none⟩) (Nat.le_refl _) (.bool q)).setCell (p := ⟨w.heap.size, 4, none⟩) (Nat.le_refl _) (.bool p)) (by omega) ((((HK.out.2.1.far (p := ⟨w.heap.size, 1, none⟩) (by simp) (.int .i64 a)).far (p := ⟨w.heap.size, 0, none⟩) (by simp) (.int .i64 b)).far (p := ⟨w.heap.size, 3, none⟩) (by simp) (.bool q)).far (p := ⟨w.heap.size, 4, none⟩) (by simp) (.bool p)) (.int .i64 b) (.int .i64 a) (.int .i64 c) (.bool q) (.bool p) (.bool r) (.bool tn)).1.drew.drew⟩ | exact ⟨rfl, (store7 (g := w.heap.size + 1) ((((HK.out.2.2.setCell (p := ⟨w.heap.size, 1, none⟩) (Nat.le_refl _) (.int .i64 a)).setCell (p := ⟨w.heap.size, 0, none⟩) (Nat.le_refl _) (.int .i64 b)).setCell (p := ⟨w.heap.size, 4, none⟩) (Nat.le_refl _) (.bool p)).setCell (p := ⟨w.heap.size, 3, none⟩) (Nat.le_refl _) (.bool q)) (by omega) ((((HK.out.2.1.far (p := ⟨w.heap.size, 1, none⟩) (by simp) (.int .i64 a)).far (p := ⟨w.heap.size, 0, none⟩) (by simp) (.int .i64 b)).far (p := ⟨w.heap.size, 4, none⟩) (by simp) (.bool p)).far (p := ⟨w.heap.size, 3, none⟩) (by simp) (.bool q)) (.int .i64 b) (.int .i64 a) (.int .i64 c) (.bool q) (.bool p) (.bool r) (.bool tn)).1.drew.drew⟩
set_option maxRecDepth 100000 in
set_option maxHeartbeats 4000000 in
theorem swapped02 (a b c : Int) (p q r tn : Bool) (w : World) : Calls Try.prog 83 #[.agg #[.int .i64 a, .int .i64 b, .int .i64 c, .bool p, .bool q, .bool r, .bool tn], .int .i64 0, .int .i64 2] w fun e w' => e = .returned (.agg #[.int .i64 c, .int .i64 b, .int .i64 a, .bool r, .bool q, .bool p, .bool tn]) ∧ Below w.heap.size w w' := by
  go_enter Try.func83, Try.ntmps83
  go_upto_region 1 with fail
  have kx : Blk ((w.alloc (.cells #[.int .i64 a, .int .i64 b, .int .i64 c, .bool p, .bool q, .bool r, .bool tn] 30)).alloc (.cells #[.int .i64 0, .int .i64 0, .int .i64 0, .bool false, .bool false, .bool false, .bool false] 30)) w.heap.size 30 #[.int .i64 a, .int .i64 b, .int .i64 c, .bool p, .bool q, .bool r, .bool tn] := (Blk.new w _ _).alloc _
  have kr : Blk ((w.alloc (.cells #[.int .i64 a, .int .i64 b, .int .i64 c, .bool p, .bool q, .bool r, .bool tn] 30)).alloc (.cells #[.int .i64 0, .int .i64 0, .int .i64 0, .bool false, .bool false, .bool false, .bool false] 30)) (w.heap.size + 1) 30 #[.int .i64 0, .int .i64 0, .int .i64 0, .bool false, .bool false, .bool false, .bool false] := blk1 w _ _
  have hb0 : Below w.heap.size w ((w.alloc (.cells #[.int .i64 a, .int .i64 b, .int .i64 c, .bool p, .bool q, .bool r, .bool tn] 30)).alloc (.cells #[.int .i64 0, .int .i64 0, .int .i64 0, .bool false, .bool false, .bool false, .bool false] 30)) := below_alloc (below_alloc (Below.refl _ _))
  generalize ((w.alloc (.cells #[.int .i64 a, .int .i64 b, .int .i64 c, .bool p, .bool q, .bool r, .bool tn] 30)).alloc (.cells #[.int .i64 0, .int .i64 0, .int .i64 0, .bool false, .bool false, .bool false, .bool false] 30)) = W0 at *
  have HK := Lib.hid (And.intro kx (And.intro kr hb0))
  have x0 : W0.cell? ⟨w.heap.size, 0, none⟩ = some (.int .i64 a) := kx.cell 0
  have f0 : W0.frozen? ⟨w.heap.size, 0, none⟩ = false := kx.frozen 0
  have x1 : W0.cell? ⟨w.heap.size, 1, none⟩ = some (.int .i64 b) := kx.cell 1
  have f1 : W0.frozen? ⟨w.heap.size, 1, none⟩ = false := kx.frozen 1
  have x2 : W0.cell? ⟨w.heap.size, 2, none⟩ = some (.int .i64 c) := kx.cell 2
  have f2 : W0.frozen? ⟨w.heap.size, 2, none⟩ = false := kx.frozen 2
  have x3 : W0.cell? ⟨w.heap.size, 3, none⟩ = some (.bool p) := kx.cell 3
  have f3 : W0.frozen? ⟨w.heap.size, 3, none⟩ = false := kx.frozen 3
  have x4 : W0.cell? ⟨w.heap.size, 4, none⟩ = some (.bool q) := kx.cell 4
  have f4 : W0.frozen? ⟨w.heap.size, 4, none⟩ = false := kx.frozen 4
  have x5 : W0.cell? ⟨w.heap.size, 5, none⟩ = some (.bool r) := kx.cell 5
  have f5 : W0.frozen? ⟨w.heap.size, 5, none⟩ = false := kx.frozen 5
  have x6 : W0.cell? ⟨w.heap.size, 6, none⟩ = some (.bool tn) := kx.cell 6
  have f6 : W0.frozen? ⟨w.heap.size, 6, none⟩ = false := kx.frozen 6
  have m0 : W0.cell? ⟨w.heap.size + 1, 0, none⟩ = some (.int .i64 0) := kr.cell 0
  have n0 : W0.frozen? ⟨w.heap.size + 1, 0, none⟩ = false := kr.frozen 0
  have m1 : W0.cell? ⟨w.heap.size + 1, 1, none⟩ = some (.int .i64 0) := kr.cell 1
  have n1 : W0.frozen? ⟨w.heap.size + 1, 1, none⟩ = false := kr.frozen 1
  have m2 : W0.cell? ⟨w.heap.size + 1, 2, none⟩ = some (.int .i64 0) := kr.cell 2
  have n2 : W0.frozen? ⟨w.heap.size + 1, 2, none⟩ = false := kr.frozen 2
  have m3 : W0.cell? ⟨w.heap.size + 1, 3, none⟩ = some (.bool false) := kr.cell 3
  have n3 : W0.frozen? ⟨w.heap.size + 1, 3, none⟩ = false := kr.frozen 3
  have m4 : W0.cell? ⟨w.heap.size + 1, 4, none⟩ = some (.bool false) := kr.cell 4
  have n4 : W0.frozen? ⟨w.heap.size + 1, 4, none⟩ = false := kr.frozen 4
  have m5 : W0.cell? ⟨w.heap.size + 1, 5, none⟩ = some (.bool false) := kr.cell 5
  have n5 : W0.frozen? ⟨w.heap.size + 1, 5, none⟩ = false := kr.frozen 5
  have m6 : W0.cell? ⟨w.heap.size + 1, 6, none⟩ = some (.bool false) := kr.cell 6
  have n6 : W0.frozen? ⟨w.heap.size + 1, 6, none⟩ = false := kr.frozen 6
  have z0 : w.heap.size < W0.heap.size := kx.lt
  have z1 : w.heap.size + 1 < W0.heap.size := kr.lt
  clear kx kr hb0
  go_wp2_with fail
  go_region
  all_goals
    go_wp2_with fail
    go_region
    all_goals
      go_wp2_with fail
      refine bodyPost_ret (v := .agg #[.int .i64 c, .int .i64 b, .int .i64 a, .bool r, .bool q, .bool p, .bool tn]) ?_ rfl ?_
      · first | exact res_swapped _ _ (w.heap.size + 1) _ _ _ _ _ _ _ rfl ((store7 (g := w.heap.size + 1) ((((HK.out.2.2.setCell (p := ⟨w.heap.size, 0, none⟩) (Nat.le_refl _) (.int .i64 c)).setCell (p := ⟨w.heap.size, 2, none⟩) (Nat.le_refl _) (.int .i64 a)).setCell (p := ⟨w.heap.size, 3, none⟩) (Nat.le_refl _) (.bool r)).setCell (p := ⟨w.heap.size, 5, none⟩) (Nat.le_refl _) (.bool p)) (by omega) ((((HK.out.2.1.far (p := ⟨w.heap.size, 0, none⟩) (by simp) (.int .i64 c)).far (p := ⟨w.heap.size, 2, none⟩) (by simp) (.int .i64 a)).far (p := ⟨w.heap.size, 3, none⟩) (by simp) (.bool r)).far (p := ⟨w.heap.size, 5, none⟩) (by simp) (.bool p)) (.int .i64 c) (.int .i64 b) (.int .i64 a) (.bool r) (.bool q) (.bool p) (.bool tn)).2.drew.drew) | exact res_swapped _ _ (w.heap.size + 1) _ _ _ _ _ _ _ rfl ((store7 (g := w.heap.size + 1) ((((HK.out.2.2.setCell (p := ⟨w.heap.size, 0, none⟩) (Nat.le_refl _) (.int .i64 c)).setCell (p := ⟨w.heap.size, 2, none⟩) (Nat.le_refl _) (.int .i64 a)).setCell (p := ⟨w.heap.size, 5, none⟩) (Nat.le_refl _) (.bool p)).setCell (p := ⟨w.heap.size, 3, none⟩) (Nat.le_refl _) (.bool r)) (by omega) ((((HK.out.2.1.far (p := ⟨w.heap.size, 0, none⟩) (by simp) (.int .i64 c)).far (p := ⟨w.heap.size, 2, none⟩) (by simp) (.int .i64 a)).far (p := ⟨w.heap.size, 5, none⟩) (by simp) (.bool p)).far (p := ⟨w.heap.size, 3, none⟩) (by simp) (.bool r)) (.int .i64 c) (.int .i64 b) (.int .i64 a) (.bool r) (.bool q) (.bool p) (.bool tn)).2.drew.drew) | exact res_swapped _ _ (w.heap.size + 1) _ _ _ _ _ _ _ rfl ((store7 (g := w.heap.size + 1) ((((HK.out.2.2.setCell (p := ⟨w.heap.size, 2, none⟩) (Nat.le_refl _) (.int .i64 a)).setCell (p := ⟨w.heap.size, 0, none⟩) (Nat.le_refl _) (.int .i64 c)).setCell (p := ⟨w.heap.size, 3, none⟩) (Nat.le_refl _) (.bool r)).setCell (p := ⟨w.heap.size, 5, none⟩) (Nat.le_refl _) (.bool p)) (by omega) ((((HK.out.2.1.far (p := ⟨w.heap.size, 2, none⟩) (by simp) (.int .i64 a)).far (p := ⟨w.heap.size, 0, none⟩) (by simp) (.int .i64 c)).far (p := ⟨w.heap.size, 3, none⟩) (by simp) (.bool r)).far (p := ⟨w.heap.size, 5, none⟩) (by simp) (.bool p)) (.int .i64 c) (.int .i64 b) (.int .i64 a) (.bool r) (.bool q) (.bool p) (.bool tn)).2.drew.drew) | exact res_swapped _ _ (w.heap.size + 1) _ _ _ _ _ _ _ rfl ((store7 (g := w.heap.size + 1) ((((HK.out.2.2.setCell (p := ⟨w.heap.size, 2, none⟩) (Nat.le_refl _) (.int .i64 a)).setCell (p := ⟨w.heap.size, 0, none⟩) (Nat.le_refl _) (.int .i64 c)).setCell (p := ⟨w.heap.size, 5, none⟩) (Nat.le_refl _) (.bool p)).setCell (p := ⟨w.heap.size, 3, none⟩) (Nat.le_refl _) (.bool r)) (by omega) ((((HK.out.2.1.far (p := ⟨w.heap.size, 2, none⟩) (by simp) (.int .i64 a)).far (p := ⟨w.heap.size, 0, none⟩) (by simp) (.int .i64 c)).far (p := ⟨w.heap.size, 5, none⟩) (by simp) (.bool p)).far (p := ⟨w.heap.size, 3, none⟩) (by simp) (.bool r)) (.int .i64 c) (.int .i64 b) (.int .i64 a) (.bool r) (.bool q) (.bool p) (.bool tn)).2.drew.drew)
      · first | exact ⟨rfl, (store7 (g := w.heap.size + 1) ((((HK.out.2.2.setCell (p := ⟨w.heap.size, 0, none⟩) (Nat.le_refl _) (.int .i64 c)).setCell (p := ⟨w.heap.size, 2, none⟩) (Nat.le_refl _) (.int .i64 a)).setCell (p := ⟨w.heap.size, 3, none⟩) (Nat.le_refl _) (.bool r)).setCell (p := ⟨w.heap.size, 5, none⟩) (Nat.le_refl _) (.bool p)) (by omega) ((((HK.out.2.1.far (p := ⟨w.heap.size, 0, none⟩) (by simp) (.int .i64 c)).far (p := ⟨w.heap.size, 2, none⟩) (by simp) (.int .i64 a)).far (p := ⟨w.heap.size, 3, none⟩) (by simp) (.bool r)).far (p := ⟨w.heap.size, 5, none⟩) (by simp) (.bool p)) (.int .i64 c) (.int .i64 b) (.int .i64 a) (.bool r) (.bool q) (.bool p) (.bool tn)).1.drew.drew⟩ | exact ⟨rfl, (store7 (g := w.heap.size + 1) ((((HK.out.2.2.setCell (p := ⟨w.heap.size, 0, none⟩) (Nat.le_refl _) (.int .i64 c)).setCell (p := ⟨w.heap.size, 2, none⟩) (Nat.le_refl _) (.int .i64 a)).setCell (p := ⟨w.heap.size, 5, none⟩) (Nat.le_refl _) (.bool p)).setCell (p := ⟨w.heap.size, 3, none⟩) (Nat.le_refl _) (.bool r)) (by omega) ((((HK.out.2.1.far (p := ⟨w.heap.size, 0, none⟩) (by simp) (.int .i64 c)).far (p := ⟨w.heap.size, 2, none⟩) (by simp) (.int .i64 a)).far (p := ⟨w.heap.size, 5, none⟩) (by simp) (.bool p)).far (p := ⟨w.heap.size, 3, none⟩) (by simp) (.bool r)) (.int .i64 c) (.int .i64 b) (.int .i64 a) (.bool r) (.bool q) (.bool p) (.bool tn)).1.drew.drew⟩ | exact ⟨rfl, (store7 (g := w.heap.size + 1) ((((HK.out.2.2.setCell (p := ⟨w.heap.size, 2, none⟩) (Nat.le_refl _) (.int .i64 a)).setCell (p := ⟨w.heap.size, 0, none⟩) (Nat.le_refl _) (.int .i64 c)).setCell (p := ⟨w.heap.size, 3, none⟩) (Nat.le_refl _) (.bool r)).setCell (p := ⟨w.heap.size, 5, none⟩) (Nat.le_refl _) (.bool p)) (by omega) ((((HK.out.2.1.far (p := ⟨w.heap.size, 2, none⟩) (by simp) (.int .i64 a)).far (p := ⟨w.heap.size, 0, none⟩) (by simp) (.int .i64 c)).far (p := ⟨w.heap.size, 3, none⟩) (by simp) (.bool r)).far (p := ⟨w.heap.size, 5, none⟩) (by simp) (.bool p)) (.int .i64 c) (.int .i64 b) (.int .i64 a) (.bool r) (.bool q) (.bool p) (.bool tn)).1.drew.drew⟩ | exact ⟨rfl, (store7 (g := w.heap.size + 1) ((((HK.out.2.2.setCell (p := ⟨w.heap.size, 2, none⟩) (Nat.le_refl _) (.int .i64 a)).setCell (p := ⟨w.heap.size, 0, none⟩) (Nat.le_refl _) (.int .i64 c)).setCell (p := ⟨w.heap.size, 5, none⟩) (Nat.le_refl _) (.bool p)).setCell (p := ⟨w.heap.size, 3, none⟩) (Nat.le_refl _) (.bool r)) (by omega) ((((HK.out.2.1.far (p := ⟨w.heap.size, 2, none⟩) (by simp) (.int .i64 a)).far (p := ⟨w.heap.size, 0, none⟩) (by simp) (.int .i64 c)).far (p := ⟨w.heap.size, 5, none⟩) (by simp) (.bool p)).far (p := ⟨w.heap.size, 3, none⟩) (by simp) (.bool r)) (.int .i64 c) (.int .i64 b) (.int .i64 a) (.bool r) (.bool q) (.bool p) (.bool tn)).1.drew.drew⟩
set_option maxRecDepth 100000 in
set_option maxHeartbeats 4000000 in
theorem swapped12 (a b c : Int) (p q r tn : Bool) (w : World) : Calls Try.prog 83 #[.agg #[.int .i64 a, .int .i64 b, .int .i64 c, .bool p, .bool q, .bool r, .bool tn], .int .i64 1, .int .i64 2] w fun e w' => e = .returned (.agg #[.int .i64 a, .int .i64 c, .int .i64 b, .bool p, .bool r, .bool q, .bool tn]) ∧ Below w.heap.size w w' := by
  go_enter Try.func83, Try.ntmps83
  go_upto_region 1 with fail
  have kx : Blk ((w.alloc (.cells #[.int .i64 a, .int .i64 b, .int .i64 c, .bool p, .bool q, .bool r, .bool tn] 30)).alloc (.cells #[.int .i64 0, .int .i64 0, .int .i64 0, .bool false, .bool false, .bool false, .bool false] 30)) w.heap.size 30 #[.int .i64 a, .int .i64 b, .int .i64 c, .bool p, .bool q, .bool r, .bool tn] := (Blk.new w _ _).alloc _
  have kr : Blk ((w.alloc (.cells #[.int .i64 a, .int .i64 b, .int .i64 c, .bool p, .bool q, .bool r, .bool tn] 30)).alloc (.cells #[.int .i64 0, .int .i64 0, .int .i64 0, .bool false, .bool false, .bool false, .bool false] 30)) (w.heap.size + 1) 30 #[.int .i64 0, .int .i64 0, .int .i64 0, .bool false, .bool false, .bool false, .bool false] := blk1 w _ _
  have hb0 : Below w.heap.size w ((w.alloc (.cells #[.int .i64 a, .int .i64 b, .int .i64 c, .bool p, .bool q, .bool r, .bool tn] 30)).alloc (.cells #[.int .i64 0, .int .i64 0, .int .i64 0, .bool false, .bool false, .bool false, .bool false] 30)) := below_alloc (below_alloc (Below.refl _ _))
  generalize ((w.alloc (.cells #[.int .i64 a, .int .i64 b, .int .i64 c, .bool p, .bool q, .bool r, .bool tn] 30)).alloc (.cells #[.int .i64 0, .int .i64 0, .int .i64 0, .bool false, .bool false, .bool false, .bool false] 30)) = W0 at *
  have HK := Lib.hid (And.intro kx (And.intro kr hb0))
  have x0 : W0.cell? ⟨w.heap.size, 0, none⟩ = some (.int .i64 a) := kx.cell 0
  have f0 : W0.frozen? ⟨w.heap.size, 0, none⟩ = false := kx.frozen 0
  have x1 : W0.cell? ⟨w.heap.size, 1, none⟩ = some (.int .i64 b) := kx.cell 1
  have f1 : W0.frozen? ⟨w.heap.size, 1, none⟩ = false := kx.frozen 1
  have x2 : W0.cell? ⟨w.heap.size, 2, none⟩ = some (.int .i64 c) := kx.cell 2
  have f2 : W0.frozen? ⟨w.heap.size, 2, none⟩ = false := kx.frozen 2
  have x3 : W0.cell? ⟨w.heap.size, 3, none⟩ = some (.bool p) := kx.cell 3
  have f3 : W0.frozen? ⟨w.heap.size, 3, none⟩ = false := kx.frozen 3
  have x4 : W0.cell? ⟨w.heap.size, 4, none⟩ = some (.bool q) := kx.cell 4
  have f4 : W0.frozen? ⟨w.heap.size, 4, none⟩ = false := kx.frozen 4
  have x5 : W0.cell? ⟨w.heap.size, 5, none⟩ = some (.bool r) := kx.cell 5
  have f5 : W0.frozen? ⟨w.heap.size, 5, none⟩ = false := kx.frozen 5
  have x6 : W0.cell? ⟨w.heap.size, 6, none⟩ = some (.bool tn) := kx.cell 6
  have f6 : W0.frozen? ⟨w.heap.size, 6, none⟩ = false := kx.frozen 6
  have m0 : W0.cell? ⟨w.heap.size + 1, 0, none⟩ = some (.int .i64 0) := kr.cell 0
  have n0 : W0.frozen? ⟨w.heap.size + 1, 0, none⟩ = false := kr.frozen 0
  have m1 : W0.cell? ⟨w.heap.size + 1, 1, none⟩ = some (.int .i64 0) := kr.cell 1
  have n1 : W0.frozen? ⟨w.heap.size + 1, 1, none⟩ = false := kr.frozen 1
  have m2 : W0.cell? ⟨w.heap.size + 1, 2, none⟩ = some (.int .i64 0) := kr.cell 2
  have n2 : W0.frozen? ⟨w.heap.size + 1, 2, none⟩ = false := kr.frozen 2
  have m3 : W0.cell? ⟨w.heap.size + 1, 3, none⟩ = some (.bool false) := kr.cell 3
  have n3 : W0.frozen? ⟨w.heap.size + 1, 3, none⟩ = false := kr.frozen 3
  have m4 : W0.cell? ⟨w.heap.size + 1, 4, none⟩ = some (.bool false) := kr.cell 4
  have n4 : W0.frozen? ⟨w.heap.size + 1, 4, none⟩ = false := kr.frozen 4
  have m5 : W0.cell? ⟨w.heap.size + 1, 5, none⟩ = some (.bool false) := kr.cell 5
  have n5 : W0.frozen? ⟨w.heap.size + 1, 5, none⟩ = false := kr.frozen 5
  have m6 : W0.cell? ⟨w.heap.size + 1, 6, none⟩ = some (.bool false) := kr.cell 6
  have n6 : W0.frozen? ⟨w.heap.size + 1, 6, none⟩ = false := kr.frozen 6
  have z0 : w.heap.size < W0.heap.size := kx.lt
  have z1 : w.heap.size + 1 < W0.heap.size := kr.lt
  clear kx kr hb0
  go_wp2_with fail
  go_region
  all_goals
    go_wp2_with fail
    go_region
    all_goals
      go_wp2_with fail
      refine bodyPost_ret (v := .agg #[.int .i64 a, .int .i64 c, .int .i64 b, .bool p, .bool r, .bool q, .bool tn]) ?_ rfl ?_
      · first | exact res_swapped _ _ (w.heap.size + 1) _ _ _ _ _ _ _ rfl ((store7 (g := w.heap.size + 1) ((((HK.out.2.2.setCell (p := ⟨w.heap.size, 1, none⟩) (Nat.le_refl _) (.int .i64 c)).setCell (p := ⟨w.heap.size, 2, none⟩) (Nat.le_refl _) (.int .i64 b)).setCell (p := ⟨w.heap.size, 4, none⟩) (Nat.le_refl _) (.bool r)).setCell (p := ⟨w.heap.size, 5, none⟩) (Nat.le_refl _) (.bool q)) (by omega) ((((HK.out.2.1.far (p := ⟨w.heap.size, 1, none⟩) (by simp) (.int .i64 c)).far (p := ⟨w.heap.size, 2, none⟩) (by simp) (.int .i64 b)).far (p := ⟨w.heap.size, 4, none⟩) (by simp) (.bool r)).far (p := ⟨w.heap.size, 5, none⟩) (by simp) (.bool q)) (.int .i64 a) (.int .i64 c) (.int .i64 b) (.bool p) (.bool r) (.bool q) (.bool tn)).2.drew.drew) | exact res_swapped _ _ (w.heap.size + 1) _ _ _ _ _ _ _ rfl ((store7 (g := w.heap.size + 1) ((((HK.out.2.2.setCell (p := ⟨w.heap.size, 1, none⟩) (Nat.le_refl _) (.int .i64 c)).setCell (p := ⟨w.heap.size, 2, none⟩) (Nat.le_refl _) (.int .i64 b)).setCell (p := ⟨w.heap.size, 5, none⟩) (Nat.le_refl _) (.bool q)).setCell (p := ⟨w.heap.size, 4, none⟩) (Nat.le_refl _) (.bool r)) (by omega) ((((HK.out.2.1.far (p := ⟨w.heap.size, 1, none⟩) (by simp) (.int .i64 c)).far (p := ⟨w.heap.size, 2, none⟩) (by simp) (.int .i64 b)).far (p := ⟨w.heap.size, 5, none⟩) (by simp) (.bool q)).far (p := ⟨w.heap.size, 4, none⟩) (by simp) (.bool r)) (.int .i64 a) (.int .i64 c) (.int .i64 b) (.bool p) (.bool r) (.bool q) (.bool tn)).2.drew.drew) | exact res_swapped _ _ (w.heap.size + 1) _ _ _ _ _ _ _ rfl ((store7 (g := w.heap.size + 1) ((((HK.out.2.2.setCell (p := ⟨w.heap.size, 2, none⟩) (Nat.le_refl _) (.int .i64 b)).setCell (p := ⟨w.heap.size, 1, none⟩) (Nat.le_refl _) (.int .i64 c)).setCell (p := ⟨w.heap.size, 4, none⟩) (Nat.le_refl _) (.bool r)).setCell (p := ⟨w.heap.size, 5, none⟩) (Nat.le_refl _) (.bool q)) (by omega) ((((HK.out.2.1.far (p := ⟨w.heap.size, 2, none⟩) (by simp) (.int .i64 b)).far (p := ⟨w.heap.size, 1, none⟩) (by simp) (.int .i64 c)).far (p := ⟨w.heap.size, 4, none⟩) (by simp) (.bool r)).far (p := ⟨w.heap.size, 5, none⟩) (by simp) (.bool q)) (.int .i64 a) (.int .i64 c) (.int .i64 b) (.bool p) (.bool r) (.bool q) (.bool tn)).2.drew.drew) | exact res_swapped _ _ (w.heap.size + 1) _ _ _ _ _ _ _ rfl ((store7 (g := w.heap.size + 1) ((((HK.out.2.2.setCell (p := ⟨w.heap.size, 2, none⟩) (Nat.le_refl _) (.int .i64 b)).setCell (p := ⟨w.heap.size, 1, none⟩) (Nat.le_refl _) (.int .i64 c)).setCell (p := ⟨w.heap.size, 5, none⟩) (Nat.le_refl _) (.bool q)).setCell (p := ⟨w.heap.size, 4, none⟩) (Nat.le_refl _) (.bool r)) (by omega) ((((HK.out.2.1.far (p := ⟨w.heap.size, 2, none⟩) (by simp) (.int .i64 b)).far (p := ⟨w.heap.size, 1, none⟩) (by simp) (.int .i64 c)).far (p := ⟨w.heap.size, 5, none⟩) (by simp) (.bool q)).far (p := ⟨w.heap.size, 4, none⟩) (by simp) (.bool r)) (.int .i64 a) (.int .i64 c) (.int .i64 b) (.bool p) (.bool r) (.bool q) (.bool tn)).2.drew.drew)
      · first | exact ⟨rfl, (store7 (g := w.heap.size + 1) ((((HK.out.2.2.setCell (p := ⟨w.heap.size, 1, none⟩) (Nat.le_refl _) (.int .i64 c)).setCell (p := ⟨w.heap.size, 2, none⟩) (Nat.le_refl _) (.int .i64 b)).setCell (p := ⟨w.heap.size, 4, none⟩) (Nat.le_refl _) (.bool r)).setCell (p := ⟨w.heap.size, 5, none⟩) (Nat.le_refl _) (.bool q)) (by omega) ((((HK.out.2.1.far (p := ⟨w.heap.size, 1, none⟩) (by simp) (.int .i64 c)).far (p := ⟨w.heap.size, 2, none⟩) (by simp) (.int .i64 b)).far (p := ⟨w.heap.size, 4, none⟩) (by simp) (.bool r)).far (p := ⟨w.heap.size, 5, none⟩) (by simp) (.bool q)) (.int .i64 a) (.int .i64 c) (.int .i64 b) (.bool p) (.bool r) (.bool q) (.bool tn)).1.drew.drew⟩ | exact ⟨rfl, (store7 (g := w.heap.size + 1) ((((HK.out.2.2.setCell (p := ⟨w.heap.size, 1, none⟩) (Nat.le_refl _) (.int .i64 c)).setCell (p := ⟨w.heap.size, 2, none⟩) (Nat.le_refl _) (.int .i64 b)).setCell (p := ⟨w.heap.size, 5, none⟩) (Nat.le_refl _) (.bool q)).setCell (p := ⟨w.heap.size, 4, none⟩) (Nat.le_refl _) (.bool r)) (by omega) ((((HK.out.2.1.far (p := ⟨w.heap.size, 1, none⟩) (by simp) (.int .i64 c)).far (p := ⟨w.heap.size, 2, none⟩) (by simp) (.int .i64 b)).far (p := ⟨w.heap.size, 5, none⟩) (by simp) (.bool q)).far (p := ⟨w.heap.size, 4, none⟩) (by simp) (.bool r)) (.int .i64 a) (.int .i64 c) (.int .i64 b) (.bool p) (.bool r) (.bool q) (.bool tn)).1.drew.drew⟩ | exact ⟨rfl, (store7 (g := w.heap.size + 1) ((((HK.out.2.2.setCell (p := ⟨w.heap.size, 2, none⟩) (Nat.le_refl _) (.int .i64 b)).setCell (p := ⟨w.heap.size, 1, none⟩) (Nat.le_refl _) (.int .i64 c)).setCell (p := ⟨w.heap.size, 4, none⟩) (Nat.le_refl _) (.bool r)).setCell (p := ⟨w.heap.size, 5, none⟩) (Nat.le_refl _) (.bool q)) (by omega) ((((HK.out.2.1.far (p := ⟨w.heap.size, 2, none⟩) (by simp) (.int .i64 b)).far (p := ⟨w.heap.size, 1, none⟩) (by simp) (.int .i64 c)).far (p := ⟨w.heap.size, 4, none⟩) (by simp) (.bool r)).far (p := ⟨w.heap.size, 5, none⟩) (by simp) (.bool q)) (.int .i64 a) (.int .i64 c) (.int .i64 b) (.bool p) (.bool r) (.bool q) (.bool tn)).1.drew.drew⟩ | exact ⟨rfl, (store7 (g := w.heap.size + 1) ((((HK.out.2.2.setCell (p := ⟨w.heap.size, 2, none⟩) (Nat.le_refl _) (.int .i64 b)).setCell (p := ⟨w.heap.size, 1, none⟩) (Nat.le_refl _) (.int .i64 c)).setCell (p := ⟨w.heap.size, 5, none⟩) (Nat.le_refl _) (.bool q)).setCell (p := ⟨w.heap.size, 4, none⟩) (Nat.le_refl _) (.bool r)) (by omega) ((((HK.out.2.1.far (p := ⟨w.heap.size, 2, none⟩) (by simp) (.int .i64 b)).far (p := ⟨w.heap.size, 1, none⟩) (by simp) (.int .i64 c)).far (p := ⟨w.heap.size, 5, none⟩) (by simp) (.bool q)).far (p := ⟨w.heap.size, 4, none⟩) (by simp) (.bool r)) (.int .i64 a) (.int .i64 c) (.int .i64 b) (.bool p) (.bool r) (.bool q) (.bool tn)).1.drew.drew⟩
end Go.Proofs.Ytaldgmmmcbikgaa.TurnRef
