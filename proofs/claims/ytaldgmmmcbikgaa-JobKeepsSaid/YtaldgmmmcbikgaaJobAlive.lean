/- The example with which layer 18's statements begin; JobNames' walk. -/
import Derived.BigRegion
import Derived.BigQuiet
import Derived.Deep.QuietTactic
import Derived.Deep.DeepCutAuto
import Derived.Deep.RegionHeld3
import Derived.Deep.MidRow
import Derived.Laws.Rows
import Derived.Test.YtaldgmmmcbikgaaJobAdd
namespace Go.Proofs.Ytaldgmmmcbikgaa.JobAlive
open Go.Sort (grow)
open Go.RowKit Mem PosMath PartMath PartClass PartCheck TurnMath TurnWalks TurnFitsV JobMath JobIndex JobPlain JobAfter JobCheck JobFind JobTable JobMem JobTwin JobRow JobAdd
set_option linter.unusedVariables false
set_option linter.unusedSimpArgs false

theorem jplain (w : World) : Calls Try.prog 23 #[] w fun e w' => ∃ g, e = .returned (.agg #[.int .i64 2, .int .i64 2, .int .i64 2, .int .i64 1, .int .i64 1, .int .i64 1, .int .i64 1, .slice (some ⟨g, 0, none⟩) 1 1]) ∧ ClsAt w' w'.heap.size (some ⟨g, 0, none⟩) [(0, 100, 8, 1)] ∧ Below w.heap.size w w' := by
  go_enter Try.func23, Try.ntmps23
  go_wp2_with fail
  refine bodyPost_ret (v := .agg #[.int .i64 2, .int .i64 2, .int .i64 2, .int .i64 1, .int .i64 1, .int .i64 1, .int .i64 1, .slice (some ⟨w.heap.size + 1, 0, none⟩) 1 1]) ?_ rfl ?_
  · exact results_cell_row rfl _ _ w.heap.size 26 #[.int .i64 2, .int .i64 2, .int .i64 2, .int .i64 1, .int .i64 1, .int .i64 1, .int .i64 1, .slice (some ⟨w.heap.size + 1, 0, none⟩) 1 1] (0, 0) _ rfl ((Blk.new w _ _).alloc _) Try.underlying26 rfl (by kernel_rfl)
  · refine ⟨w.heap.size + 1, rfl, fun i k hi => ?_, below_alloc (below_alloc (Below.refl _ _))⟩
    match i, hi with
    | 0, hi =>
      simp at hi
      subst hi
      refine ⟨_, 0, rfl, (blk1 w 56 #[.int .i64 0, .int .i64 100, .int .i64 8, .int .i64 1]).lt, ?_, ?_, ?_, ?_⟩
      · exact (blk1 w _ _).cell 0
      · exact (blk1 w _ _).cell 1
      · exact (blk1 w _ _).cell 2
      · exact (blk1 w _ _).cell 3
    | i + 1, hi => simp at hi
def ab (id wa x y z : Int) : JV := ⟨id, 1, 0, ⟨x, y, z, false, false, false, false⟩, wa, 0, false, [], 1, 0⟩
theorem jone (id wa wide : Int) (w : World) : Calls Try.prog 21 #[.int .i64 id, .int .i64 wa, .int .i64 wide] w fun e w' => e = .returned (.agg #[.int .i64 id, .int .i64 1, .int .i64 0, .int .i64 wide, .int .i64 2, .int .i64 2, .bool false, .bool false, .bool false, .bool false, .int .i64 wa, .int .i64 0, .bool false, .slice none 0 0, .int .u8 1, .int .i64 0]) ∧ Below w.heap.size w w' := by
  go_enter Try.func21, Try.ntmps21
  go_wp2_with fail
  refine bodyPost_ret (v := .agg #[.int .i64 id, .int .i64 1, .int .i64 0, .int .i64 wide, .int .i64 2, .int .i64 2, .bool false, .bool false, .bool false, .bool false, .int .i64 wa, .int .i64 0, .bool false, .slice none 0 0, .int .u8 1, .int .i64 0]) ?_ rfl ?_
  · exact results_cell_row rfl _ _ w.heap.size 33 #[.int .i64 id, .int .i64 1, .int .i64 0, .int .i64 wide, .int .i64 2, .int .i64 2, .bool false, .bool false, .bool false, .bool false, .int .i64 wa, .int .i64 0, .bool false, .slice none 0 0, .int .u8 1, .int .i64 0] (0, 0) _ rfl (Blk.new w _ _) Try.underlying33 rfl (by kernel_rfl)
  · exact ⟨rfl, below_alloc (Below.refl _ _)⟩
theorem a_table : tableV 2 2 2 1 1 1 1 [(0, 100, 8, 1)] [] = 0 := by decide +kernel
theorem a_check : checkV 2 2 2 [(0, 100, 8, 1)] (asked (ab 1 100 2 2 2)) = 0 := by decide +kernel
theorem c_ok : CheckV 2 2 2 1 1 1 1 [(0, 100, 8, 1)] (ab 1 100 2 2 2) = 0 := by decide +kernel
theorem c_limit : CheckV 2 2 2 1 1 1 1 [(0, 100, 8, 1)] (ab 1 101 2 2 2) = 181 := by decide +kernel
theorem c_shape : CheckV 2 2 2 1 1 1 1 [(0, 100, 8, 1)] (ab 1 100 3 1 1) = 180 := by decide +kernel
set_option maxRecDepth 100000 in
set_option maxHeartbeats 4000000 in
theorem jalive (w : World) : Calls Try.prog 22 #[] w fun e w' => e = .returned (.bool true) ∧ Below w.heap.size w w' := by
  have HA := Lib.hid (fun g w hk => add_room 2 2 2 1 1 1 1 (some ⟨g, 0, none⟩) 1 [(0, 100, 8, 1)] (by simp) none 0 [] (by simp) (by simp) none 0 [] (ab 1 100 2 2 2) none 0 (by simp [ab]) a_table a_check (fun x h => by simp at h) rfl (by simp) w hk JobsAt.nil IntsAt.nil IntsAt.nil)
  have HF := Lib.hid (fun X c w hX => find_any X c [asked (ab 1 100 2 2 2)] 1 (by simp) w hX)
  rw [show findV [asked (ab 1 100 2 2 2)] 1 = (0, 0) from rfl] at HF
  go_enter Try.func22, Try.ntmps22
  go_wp2_with fail
  refine (jplain _).mono ?_
  rintro e w1 ⟨g, rfl, hk, hB1⟩
  have HK := Lib.hid hk
  have HB1 := Lib.hid hB1
  clear hk hB1
  go_wp2_with fail
  refine (jone 1 100 2 _).mono ?_
  rintro e w2 ⟨rfl, hB2⟩
  have HK2 := Lib.hid (HK.out.up hB2)
  have HB2 := Lib.hid (below_up HB1.out hB2)
  clear hB2 HK HB1
  go_wp2_with fail
  refine (HA.out g _ HK2.out).mono ?_
  rintro e w3 ⟨X3, c3, rfl, hO, hB3⟩
  have HB3 := Lib.hid (below_up HB2.out hB3)
  have HO := Lib.hid (JobsOwn.jobs hO)
  clear hO hB3 HA HK2 HB2
  go_wp2_with fail
  refine (HF.out X3 c3 _ HO.out).mono ?_
  rintro e w4 ⟨rfl, hB4⟩
  have HB4 := Lib.hid (below_up HB3.out hB4)
  obtain ⟨b, o, Y, c, rfl, _, hJ, _⟩ := HO.out.up hB4 0 _ rfl
  have y14 : w4.cell? ⟨b, o + 14, none⟩ = some (.int .u8 1) := by
    have := hJ.2.2.2.2.2.2.2.2.2.2.2.2.2.2.1
    simpa [asked] using this
  clear hB4 hJ HF HB3 HO
  go_wp2_with fail
  go_ret
  exact ⟨rfl, HB4.out⟩
set_option maxRecDepth 100000 in
set_option maxHeartbeats 8000000 in
theorem namesLaw (w : World) : Calls Try.prog 5 #[] w fun e w' => e = .returned (.bool true) ∧ Below w.heap.size w w' := by
  have Hc_ok := Lib.hid (fun g w hk => jCheck 2 2 2 1 1 1 1 (some ⟨g, 0, none⟩) 1 [(0, 100, 8, 1)] (ab 1 100 2 2 2) none 0 (by simp) (by simp [ab]) w hk IntsAt.nil)
  rw [c_ok] at Hc_ok
  have Hc_limit := Lib.hid (fun g w hk => jCheck 2 2 2 1 1 1 1 (some ⟨g, 0, none⟩) 1 [(0, 100, 8, 1)] (ab 1 101 2 2 2) none 0 (by simp) (by simp [ab]) w hk IntsAt.nil)
  rw [c_limit] at Hc_limit
  have Hc_shape := Lib.hid (fun g w hk => jCheck 2 2 2 1 1 1 1 (some ⟨g, 0, none⟩) 1 [(0, 100, 8, 1)] (ab 1 100 3 1 1) none 0 (by simp) (by simp [ab]) w hk IntsAt.nil)
  rw [c_shape] at Hc_shape
  have HF := Lib.hid (fun w => find_any none 0 [] 1 (by simp) w JobsAt.nil)
  rw [show findV [] 1 = (0, 6) from rfl] at HF
  go_enter Try.func5, Try.ntmps5
  go_wp2_with fail
  refine (HF.out _).mono ?_
  rintro e w1 ⟨rfl, hB1⟩
  have HB1 := Lib.hid hB1
  clear hB1 HF
  go_wp2_with fail
  refine (jone 1 100 3 _).mono ?_
  rintro e w2 ⟨rfl, hB2⟩
  have HB2 := Lib.hid (below_up HB1.out hB2)
  clear hB2 HB1
  go_upto_region 4 with fail
  have kw : Blk (w2.alloc (.cells #[.int .i64 1, .int .i64 1, .int .i64 0, .int .i64 3, .int .i64 1, .int .i64 1, .bool false, .bool false, .bool false, .bool false, .int .i64 100, .int .i64 0, .bool false, .slice none 0 0, .int .u8 1, .int .i64 0] 33)) w2.heap.size 33 #[.int .i64 1, .int .i64 1, .int .i64 0, .int .i64 3, .int .i64 1, .int .i64 1, .bool false, .bool false, .bool false, .bool false, .int .i64 100, .int .i64 0, .bool false, .slice none 0 0, .int .u8 1, .int .i64 0] := Blk.new w2 _ _
  have hb4 : Below w2.heap.size w2 (w2.alloc (.cells #[.int .i64 1, .int .i64 1, .int .i64 0, .int .i64 3, .int .i64 1, .int .i64 1, .bool false, .bool false, .bool false, .bool false, .int .i64 100, .int .i64 0, .bool false, .slice none 0 0, .int .u8 1, .int .i64 0] 33)) := below_alloc (Below.refl _ _)
  generalize (w2.alloc (.cells #[.int .i64 1, .int .i64 1, .int .i64 0, .int .i64 3, .int .i64 1, .int .i64 1, .bool false, .bool false, .bool false, .bool false, .int .i64 100, .int .i64 0, .bool false, .slice none 0 0, .int .u8 1, .int .i64 0] 33)) = w4 at *
  have HR4 := Lib.hid (range_of kw)
  have HB4 := Lib.hid (below_up HB2.out hb4)
  clear kw hb4 HB2
  refine wp_region_held_drew (S := (fun W => Below w4.heap.size w4 W)) (by kernel_rfl) ?_ (fun hHeld => ?_)
  · exact (Below.refl _ _).drew
  refine wpAnyH_ready (rs := [0]) (by kernel_rfl) (by simp) ?_
  refine AllReadyH.cons (i := 0) rfl (fun K hK => ?_) ?_
  · go_simp
    refine hK.out _ _ ?_ (fun hHeld => ?_)
    · exact (Below.refl _ _).drew
    clear hK K
    (try simp only [Act.put, List.setIfInBounds_toArray, List.set_cons_zero, List.set_cons_succ])
    refine wpAnyH_ready (rs := [1]) (by kernel_rfl) (by simp) ?_
    refine AllReadyH.cons (i := 1) rfl (fun K hK => ?_) ?_
    · go_simp
      refine (jalive _).mono ?_
      rintro e w5 ⟨rfl, hB⟩
      have KB5 := Lib.hid (below_up (Below.refl _ _).drew hB)
      clear hB
      (try dsimp only)
      refine hK.out _ _ ?_ (fun hHeld => ?_)
      · exact KB5.out
      clear hK K
      (try simp only [Act.put, List.setIfInBounds_toArray, List.set_cons_zero, List.set_cons_succ])
      refine wpAnyH_ready (rs := [2]) (by kernel_rfl) (by simp) ?_
      refine AllReadyH.cons (i := 2) rfl (fun K hK => ?_) ?_
      · go_simp
        refine hK.out _ _ ?_ (fun hHeld => ?_)
        · exact KB5.out
        clear hK K
        (try simp only [Act.put, List.setIfInBounds_toArray, List.set_cons_zero, List.set_cons_succ])
        refine wpAnyH_ready (rs := [3]) (by kernel_rfl) (by simp) ?_
        refine AllReadyH.cons (i := 3) rfl (fun K hK => ?_) ?_
        · go_simp
          refine hK.out _ _ ?_ (fun hHeld => ?_)
          · exact KB5.out
          clear hK K
          (try simp only [Act.put, List.setIfInBounds_toArray, List.set_cons_zero, List.set_cons_succ])
          refine wpAnyH_ready (rs := [4]) (by kernel_rfl) (by simp) ?_
          refine AllReadyH.cons (i := 4) rfl (fun K hK => ?_) ?_
          · go_simp
            refine (jplain _).mono ?_
            rintro e w6 ⟨g1, rfl, hk, hB⟩
            have KB6 := Lib.hid (below_up KB5.out hB)
            have HK6 := Lib.hid hk
            clear hB hk
            (try dsimp only)
            refine hK.out _ _ ?_ (fun hHeld => ?_)
            · exact KB6.out
            clear hK K
            (try simp only [Act.put, List.setIfInBounds_toArray, List.set_cons_zero, List.set_cons_succ])
            refine wpAnyH_ready (rs := [5]) (by kernel_rfl) (by simp) ?_
            refine AllReadyH.cons (i := 5) rfl (fun K hK => ?_) ?_
            · go_simp
              refine (jone 1 100 2 _).mono ?_
              rintro e w7 ⟨rfl, hB⟩
              have KB7 := Lib.hid (below_up KB6.out hB)
              have HK7 := Lib.hid (HK6.out.up hB)
              clear hB
              (try dsimp only)
              refine hK.out _ _ ?_ (fun hHeld => ?_)
              · exact KB7.out
              clear hK K
              (try simp only [Act.put, List.setIfInBounds_toArray, List.set_cons_zero, List.set_cons_succ])
              refine wpAnyH_ready (rs := [6]) (by kernel_rfl) (by simp) ?_
              refine AllReadyH.cons (i := 6) rfl (fun K hK => ?_) ?_
              · go_simp
                refine (Hc_ok.out g1 _ HK7.out).mono ?_
                rintro e w8 ⟨rfl, hB⟩
                have KB8 := Lib.hid (below_up KB7.out hB)
                clear hB
                (try dsimp only)
                refine hK.out _ _ ?_ (fun hHeld => ?_)
                · exact KB8.out
                clear hK K
                (try simp only [Act.put, List.setIfInBounds_toArray, List.set_cons_zero, List.set_cons_succ])
                refine wpAnyH_ready (rs := [7]) (by kernel_rfl) (by simp) ?_
                refine AllReadyH.cons (i := 7) rfl (fun K hK => ?_) ?_
                · go_simp
                  refine hK.out _ _ ?_ (fun hHeld => ?_)
                  · exact KB8.out
                  clear hK K
                  (try simp only [Act.put, List.setIfInBounds_toArray, List.set_cons_zero, List.set_cons_succ])
                  refine wpAnyH_ready (rs := [8]) (by kernel_rfl) (by simp) ?_
                  refine AllReadyH.cons (i := 8) rfl (fun K hK => ?_) ?_
                  · go_simp
                    refine hK.out _ _ ?_ (fun hHeld => ?_)
                    · exact KB8.out
                    clear hK K
                    (try simp only [Act.put, List.setIfInBounds_toArray, List.set_cons_zero, List.set_cons_succ])
                    refine wpAnyH_ready (rs := [9]) (by kernel_rfl) (by simp) ?_
                    refine AllReadyH.cons (i := 9) rfl (fun K hK => ?_) ?_
                    · go_simp
                      refine hK.out _ _ ?_ (fun hHeld => ?_)
                      · exact KB8.out
                      clear hK K
                      (try simp only [Act.put, List.setIfInBounds_toArray, List.set_cons_zero, List.set_cons_succ])
                      refine wpAnyH_ready (rs := [10]) (by kernel_rfl) (by simp) ?_
                      refine AllReadyH.cons (i := 10) rfl (fun K hK => ?_) ?_
                      · go_simp
                        refine (jplain _).mono ?_
                        rintro e w9 ⟨g2, rfl, hk, hB⟩
                        have KB9 := Lib.hid (below_up KB8.out hB)
                        have HK9 := Lib.hid hk
                        clear hB hk
                        (try dsimp only)
                        refine hK.out _ _ ?_ (fun hHeld => ?_)
                        · exact KB9.out
                        clear hK K
                        (try simp only [Act.put, List.setIfInBounds_toArray, List.set_cons_zero, List.set_cons_succ])
                        refine wpAnyH_ready (rs := [11]) (by kernel_rfl) (by simp) ?_
                        refine AllReadyH.cons (i := 11) rfl (fun K hK => ?_) ?_
                        · go_simp
                          refine (jone 1 101 2 _).mono ?_
                          rintro e w10 ⟨rfl, hB⟩
                          have KB10 := Lib.hid (below_up KB9.out hB)
                          have HK10 := Lib.hid (HK9.out.up hB)
                          clear hB
                          (try dsimp only)
                          refine hK.out _ _ ?_ (fun hHeld => ?_)
                          · exact KB10.out
                          clear hK K
                          (try simp only [Act.put, List.setIfInBounds_toArray, List.set_cons_zero, List.set_cons_succ])
                          refine wpAnyH_ready (rs := [12]) (by kernel_rfl) (by simp) ?_
                          refine AllReadyH.cons (i := 12) rfl (fun K hK => ?_) ?_
                          · go_simp
                            refine (Hc_limit.out g2 _ HK10.out).mono ?_
                            rintro e w11 ⟨rfl, hB⟩
                            have KB11 := Lib.hid (below_up KB10.out hB)
                            clear hB
                            (try dsimp only)
                            refine hK.out _ _ ?_ (fun hHeld => ?_)
                            · exact KB11.out
                            clear hK K
                            (try simp only [Act.put, List.setIfInBounds_toArray, List.set_cons_zero, List.set_cons_succ])
                            refine wpAnyH_ready (rs := [13]) (by kernel_rfl) (by simp) ?_
                            refine AllReadyH.cons (i := 13) rfl (fun K hK => ?_) ?_
                            · go_simp
                              refine hK.out _ _ ?_ (fun hHeld => ?_)
                              · exact KB11.out
                              clear hK K
                              (try simp only [Act.put, List.setIfInBounds_toArray, List.set_cons_zero, List.set_cons_succ])
                              refine wpAnyH_ready (rs := [14]) (by kernel_rfl) (by simp) ?_
                              refine AllReadyH.cons (i := 14) rfl (fun K hK => ?_) ?_
                              · go_simp
                                refine hK.out _ _ ?_ (fun hHeld => ?_)
                                · exact KB11.out
                                clear hK K
                                (try simp only [Act.put, List.setIfInBounds_toArray, List.set_cons_zero, List.set_cons_succ])
                                refine wpAnyH_ready (rs := [15]) (by kernel_rfl) (by simp) ?_
                                refine AllReadyH.cons (i := 15) rfl (fun K hK => ?_) ?_
                                · go_simp
                                  refine hK.out _ _ ?_ (fun hHeld => ?_)
                                  · exact KB11.out
                                  clear hK K
                                  (try simp only [Act.put, List.setIfInBounds_toArray, List.set_cons_zero, List.set_cons_succ])
                                  refine' wpAnyH_take (i := 17) (v := _) rfl (by kernel_rfl) (by kernel_rfl) (by kernel_rfl) (fun _ _ _ h => h) (yieldsIf_load_mid (by rfl) _ _ rfl _ _ rfl [.int .i64 1, .int .i64 1, .int .i64 0, .int .i64 3, .int .i64 1, .int .i64 1, .bool false, .bool false, .bool false, .bool false, .int .i64 100, .int .i64 0, .bool false, .slice none 0 0, .int .u8 1, .int .i64 0] _ (fun W hW => range_up HR4.out hW) Try.underlying33 rfl (by kernel_rfl)) (by assumption) ?r1
                                  (try simp only [Act.put, List.setIfInBounds_toArray, List.set_cons_zero, List.set_cons_succ])
                                  refine wpAnyH_ready (rs := [16]) (by kernel_rfl) (by simp) ?_
                                  refine AllReadyH.cons (i := 16) rfl (fun K hK => ?_) ?_
                                  · go_simp
                                    refine (jplain _).mono ?_
                                    rintro e w12 ⟨g3, rfl, hk, hB⟩
                                    have KB12 := Lib.hid (below_up KB11.out hB)
                                    have HK12 := Lib.hid hk
                                    clear hB hk
                                    (try dsimp only)
                                    refine hK.out _ _ ?_ (fun hHeld => ?_)
                                    · exact KB12.out
                                    clear hK K
                                    (try simp only [Act.put, List.setIfInBounds_toArray, List.set_cons_zero, List.set_cons_succ])
                                    refine wpAnyH_ready (rs := [18]) (by kernel_rfl) (by simp) ?_
                                    refine AllReadyH.cons (i := 18) rfl (fun K hK => ?_) ?_
                                    · go_simp
                                      refine (Hc_shape.out g3 _ HK12.out).mono ?_
                                      rintro e w13 ⟨rfl, hB⟩
                                      have KB13 := Lib.hid (below_up KB12.out hB)
                                      clear hB
                                      (try dsimp only)
                                      refine hK.out _ _ ?_ (fun hHeld => ?_)
                                      · exact KB13.out
                                      clear hK K
                                      (try simp only [Act.put, List.setIfInBounds_toArray, List.set_cons_zero, List.set_cons_succ])
                                      refine wpAnyH_ready (rs := [19]) (by kernel_rfl) (by simp) ?_
                                      refine AllReadyH.cons (i := 19) rfl (fun K hK => ?_) ?_
                                      · go_simp
                                        refine hK.out _ _ ?_ (fun hHeld => ?_)
                                        · exact KB13.out
                                        clear hK K
                                        (try simp only [Act.put, List.setIfInBounds_toArray, List.set_cons_zero, List.set_cons_succ])
                                        refine wpAnyH_ready (rs := [20]) (by kernel_rfl) (by simp) ?_
                                        refine AllReadyH.cons (i := 20) rfl (fun K hK => ?_) ?_
                                        · go_simp
                                          refine hK.out _ _ ?_ (fun hHeld => ?_)
                                          · exact KB13.out
                                          clear hK K
                                          (try simp only [Act.put, List.setIfInBounds_toArray, List.set_cons_zero, List.set_cons_succ])
                                          refine wpAnyH_ready (rs := [21]) (by kernel_rfl) (by simp) ?_
                                          refine AllReadyH.cons (i := 21) rfl (fun K hK => ?_) ?_
                                          · go_simp
                                            refine hK.out _ _ ?_ (fun hHeld => ?_)
                                            · exact KB13.out
                                            clear hK K
                                            (try simp only [Act.put, List.setIfInBounds_toArray, List.set_cons_zero, List.set_cons_succ])
                                            refine wpAnyH_ready (rs := [22]) (by kernel_rfl) (by simp) ?_
                                            refine AllReadyH.cons (i := 22) rfl (fun K hK => ?_) ?_
                                            · go_simp
                                              refine hK.out _ _ ?_ (fun hHeld => ?_)
                                              · exact KB13.out
                                              clear hK K
                                              (try simp only [Act.put, List.setIfInBounds_toArray, List.set_cons_zero, List.set_cons_succ])
                                              refine wpAnyH_ready (rs := [23]) (by kernel_rfl) (by simp) ?_
                                              refine AllReadyH.cons (i := 23) rfl (fun K hK => ?_) ?_
                                              · go_simp
                                                refine hK.out _ _ ?_ (fun hHeld => ?_)
                                                · exact KB13.out
                                                clear hK K
                                                (try simp only [Act.put, List.setIfInBounds_toArray, List.set_cons_zero, List.set_cons_succ])
                                                refine wpAnyH_ready (rs := [24]) (by kernel_rfl) (by simp) ?_
                                                refine AllReadyH.cons (i := 24) rfl (fun K hK => ?_) ?_
                                                · go_simp
                                                  refine hK.out _ _ ?_ (fun hHeld => ?_)
                                                  · exact KB13.out
                                                  clear hK K
                                                  (try simp only [Act.put, List.setIfInBounds_toArray, List.set_cons_zero, List.set_cons_succ])
                                                  refine wpAnyH_ready (rs := [25]) (by kernel_rfl) (by simp) ?_
                                                  refine AllReadyH.cons (i := 25) rfl (fun K hK => ?_) ?_
                                                  · go_simp
                                                    refine hK.out _ _ ?_ (fun hHeld => ?_)
                                                    · exact KB13.out
                                                    clear hK K
                                                    (try simp only [Act.put, List.setIfInBounds_toArray, List.set_cons_zero, List.set_cons_succ])
                                                    refine wpAnyH_done (by kernel_rfl) ?_ _
                                                    go_wp2_with fail
                                                    go_ret
                                                    exact ⟨rfl, below_up HB4.out KB13.out⟩
                                                  exact AllReadyH.nil
                                                exact AllReadyH.nil
                                              exact AllReadyH.nil
                                            exact AllReadyH.nil
                                          exact AllReadyH.nil
                                        exact AllReadyH.nil
                                      exact AllReadyH.nil
                                    exact AllReadyH.nil
                                  exact AllReadyH.nil
                                exact AllReadyH.nil
                              exact AllReadyH.nil
                            exact AllReadyH.nil
                          exact AllReadyH.nil
                        exact AllReadyH.nil
                      exact AllReadyH.nil
                    exact AllReadyH.nil
                  exact AllReadyH.nil
                exact AllReadyH.nil
              exact AllReadyH.nil
            exact AllReadyH.nil
          exact AllReadyH.nil
        exact AllReadyH.nil
      exact AllReadyH.nil
    exact AllReadyH.nil
  exact AllReadyH.nil
end Go.Proofs.Ytaldgmmmcbikgaa.JobAlive
