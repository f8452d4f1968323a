/- The example with which layer 19's statements begin; RankNames' walk. -/
import Derived.BigQuiet
import Derived.Deep.QuietTactic
import Derived.Laws.Rows
import Derived.Test.YtfpljpdjohmbaaaRankOrd
namespace Go.Proofs.Ytfpljpdjohmbaaa.RankAlive
open Go.RowKit Mem PosMath PartMath TurnMath TurnMap TurnFitsV JobMath JobCheck JobIndex JobMem JobTable JobTwin JobRTwin DepsMath RankMath RankKey RankSort RankOrd Lay
set_option linter.unusedVariables false
set_option linter.unusedSimpArgs false

def orderR (V : Int) (ks : List Cls) (ag : Int) (l : List JV) : List Int := if V = 0 then orderV ks ag l else []
theorem order_all (d0 d1 d2 bo fr tr ag : Int) (K : Option Addr) (kc : Nat) (ks : List Cls) (hlk : ks.length ≤ 4611686018427387904) (X : Option Addr) (cap : Nat) (l : List JV) (hl : l.length ≤ 1000) (hla : ∀ j ∈ l, j.af.length ≤ 1000) (w : World) (hk : ClsAt w w.heap.size K ks) (hX : JobsAt w X l) :
    Calls Try.prog 37 #[.agg #[.int .i64 d0, .int .i64 d1, .int .i64 d2, .int .i64 bo, .int .i64 fr, .int .i64 tr, .int .i64 ag, .slice K ks.length kc], .slice X l.length cap] w fun e w' => ∃ X' c', e = .returned (.tuple #[.slice X' (orderR (tableV d0 d1 d2 bo fr tr ag ks l) ks ag l).length c', .int .i64 (tableV d0 d1 d2 bo fr tr ag ks l)]) ∧ IntsAt w' X' (orderR (tableV d0 d1 d2 bo fr tr ag ks l) ks ag l) ∧ Below w.heap.size w w' := by
  by_cases hv : tableV d0 d1 d2 bo fr tr ag ks l = 0
  · have e : orderR (tableV d0 d1 d2 bo fr tr ag ks l) ks ag l = orderV ks ag l := if_pos hv
    rw [e, hv]
    exact order_ok d0 d1 d2 bo fr tr ag K kc ks hlk X cap l hl hla hv w hk hX
  · have e : orderR (tableV d0 d1 d2 bo fr tr ag ks l) ks ag l = [] := if_neg hv
    rw [e]
    refine (order_bad d0 d1 d2 bo fr tr ag K kc ks hlk X cap l hl hla hv w hk hX).mono ?_
    rintro e w' ⟨rfl, hB⟩
    exact ⟨none, 0, rfl, IntsAt.nil, hB⟩
theorem rplain (w : World) : Calls Try.prog 34 #[] w fun e w' => ∃ g, e = .returned (.agg #[.int .i64 1, .int .i64 1, .int .i64 1, .int .i64 1, .int .i64 1, .int .i64 1, .int .i64 10, .slice (some ⟨g, 0, none⟩) 1 1]) ∧ ClsAt w' w'.heap.size (some ⟨g, 0, none⟩) [(0, 9, 1, 1)] ∧ Below w.heap.size w w' := by
  go_enter Try.func34, Try.ntmps34
  go_wp2_with fail
  refine bodyPost_ret (v := .agg #[.int .i64 1, .int .i64 1, .int .i64 1, .int .i64 1, .int .i64 1, .int .i64 1, .int .i64 10, .slice (some ⟨w.heap.size + 1, 0, none⟩) 1 1]) ?_ rfl ?_
  · exact results_cell_row rfl _ _ w.heap.size 26 #[.int .i64 1, .int .i64 1, .int .i64 1, .int .i64 1, .int .i64 1, .int .i64 1, .int .i64 10, .slice (some ⟨w.heap.size + 1, 0, none⟩) 1 1] (0, 0) _ rfl ((Blk.new w _ _).alloc _) Try.underlying26 rfl (by kernel_rfl)
  · refine ⟨w.heap.size + 1, rfl, fun i k hi => ?_, below_alloc (below_alloc (Below.refl _ _))⟩
    match i, hi with
    | 0, hi =>
      simp at hi
      subst hi
      refine ⟨_, 0, rfl, (blk1 w 56 #[.int .i64 0, .int .i64 9, .int .i64 1, .int .i64 1]).lt, ?_, ?_, ?_, ?_⟩
      · exact (blk1 w _ _).cell 0
      · exact (blk1 w _ _).cell 1
      · exact (blk1 w _ _).cell 2
      · exact (blk1 w _ _).cell 3
    | i + 1, hi => simp at hi
def rb (id pr ca : Int) : JV := ⟨id, 1, 0, ⟨1, 1, 1, false, false, false, false⟩, 1, pr, false, [], 1, ca⟩
theorem rone (id pr ca : Int) (w : World) : Calls Try.prog 35 #[.int .i64 id, .int .i64 pr, .int .i64 ca] w fun e w' => e = .returned (.agg #[.int .i64 id, .int .i64 1, .int .i64 0, .int .i64 1, .int .i64 1, .int .i64 1, .bool false, .bool false, .bool false, .bool false, .int .i64 1, .int .i64 pr, .bool false, .slice none 0 0, .int .u8 1, .int .i64 ca]) ∧ Below w.heap.size w w' := by
  go_enter Try.func35, Try.ntmps35
  go_wp2_with fail
  refine bodyPost_ret (v := .agg #[.int .i64 id, .int .i64 1, .int .i64 0, .int .i64 1, .int .i64 1, .int .i64 1, .bool false, .bool false, .bool false, .bool false, .int .i64 1, .int .i64 pr, .bool false, .slice none 0 0, .int .u8 1, .int .i64 ca]) ?_ rfl ?_
  · exact results_cell_row rfl _ _ w.heap.size 33 #[.int .i64 id, .int .i64 1, .int .i64 0, .int .i64 1, .int .i64 1, .int .i64 1, .bool false, .bool false, .bool false, .bool false, .int .i64 1, .int .i64 pr, .bool false, .slice none 0 0, .int .u8 1, .int .i64 ca] (0, 0) _ rfl (Blk.new w _ _) Try.underlying33 rfl (by kernel_rfl)
  · exact ⟨rfl, below_alloc (Below.refl _ _)⟩
def threeL : List JV := [rb 1 0 0, rb 2 1 10, rb 3 1 9]
theorem three_table : tableV 1 1 1 1 1 1 10 [(0, 9, 1, 1)] threeL = 0 := by decide +kernel
theorem three_order : orderV [(0, 9, 1, 1)] 10 threeL = [3, 1, 2] := by
  unfold orderV
  rw [← ord_uniq (l := pairs [(0, 9, 1, 1)] 10 threeL) (m := [(-1, 3), (0, 1), (0, 2)]) (by decide +kernel) (by decide +kernel)]
  rfl
theorem three_r : orderR (tableV 1 1 1 1 1 1 10 [(0, 9, 1, 1)] threeL) [(0, 9, 1, 1)] 10 threeL = [3, 1, 2] := by
  rw [three_table]
  exact three_order
set_option maxRecDepth 100000 in
set_option maxHeartbeats 4000000 in
theorem ralive (w : World) : Calls Try.prog 36 #[] w fun e w' => e = .returned (.bool true) ∧ Below w.heap.size w w' := by
  have HO := Lib.hid (fun g X w hk hX => order_all 1 1 1 1 1 1 10 (some ⟨g, 0, none⟩) 1 [(0, 9, 1, 1)] (by simp) X 3 threeL (by simp [threeL]) (by simp [threeL, rb]) w hk hX)
  rw [three_r, three_table] at HO
  go_enter Try.func36, Try.ntmps36
  go_wp2_with fail
  refine (rplain _).mono ?_
  rintro e w1 ⟨g, rfl, hk, hB1⟩
  have HK := Lib.hid hk
  have HB1 := Lib.hid hB1
  clear hk hB1
  go_wp2_with fail
  refine (rone 1 0 0 _).mono ?_
  rintro e w2 ⟨rfl, hB⟩
  have HK2 := Lib.hid (HK.out.up hB)
  have HB2 := Lib.hid (below_up HB1.out hB)
  clear hB HK HB1
  go_wp2_with fail
  refine (rone 2 1 10 _).mono ?_
  rintro e w3 ⟨rfl, hB⟩
  have HK3 := Lib.hid (HK2.out.up hB)
  have HB3 := Lib.hid (below_up HB2.out hB)
  clear hB HK2 HB2
  go_wp2_with fail
  refine (rone 3 1 9 _).mono ?_
  rintro e w4 ⟨rfl, hB⟩
  have HK4 := Lib.hid (HK3.out.up hB)
  have HB4 := Lib.hid (below_up HB3.out hB)
  clear hB HK3 HB3
  go_wp2_with fail
  have kb : Blk (w4.alloc (.cells #[.int .i64 1, .int .i64 1, .int .i64 0, .int .i64 1, .int .i64 1, .int .i64 1, .bool false, .bool false, .bool false, .bool false, .int .i64 1, .int .i64 0, .bool false, .slice none 0 0, .int .u8 1, .int .i64 0, .int .i64 2, .int .i64 1, .int .i64 0, .int .i64 1, .int .i64 1, .int .i64 1, .bool false, .bool false, .bool false, .bool false, .int .i64 1, .int .i64 1, .bool false, .slice none 0 0, .int .u8 1, .int .i64 10, .int .i64 3, .int .i64 1, .int .i64 0, .int .i64 1, .int .i64 1, .int .i64 1, .bool false, .bool false, .bool false, .bool false, .int .i64 1, .int .i64 1, .bool false, .slice none 0 0, .int .u8 1, .int .i64 9] 33)) w4.heap.size 33 #[.int .i64 1, .int .i64 1, .int .i64 0, .int .i64 1, .int .i64 1, .int .i64 1, .bool false, .bool false, .bool false, .bool false, .int .i64 1, .int .i64 0, .bool false, .slice none 0 0, .int .u8 1, .int .i64 0, .int .i64 2, .int .i64 1, .int .i64 0, .int .i64 1, .int .i64 1, .int .i64 1, .bool false, .bool false, .bool false, .bool false, .int .i64 1, .int .i64 1, .bool false, .slice none 0 0, .int .u8 1, .int .i64 10, .int .i64 3, .int .i64 1, .int .i64 0, .int .i64 1, .int .i64 1, .int .i64 1, .bool false, .bool false, .bool false, .bool false, .int .i64 1, .int .i64 1, .bool false, .slice none 0 0, .int .u8 1, .int .i64 9] := Blk.new _ _ _
  have hX : JobsAt (w4.alloc (.cells #[.int .i64 1, .int .i64 1, .int .i64 0, .int .i64 1, .int .i64 1, .int .i64 1, .bool false, .bool false, .bool false, .bool false, .int .i64 1, .int .i64 0, .bool false, .slice none 0 0, .int .u8 1, .int .i64 0, .int .i64 2, .int .i64 1, .int .i64 0, .int .i64 1, .int .i64 1, .int .i64 1, .bool false, .bool false, .bool false, .bool false, .int .i64 1, .int .i64 1, .bool false, .slice none 0 0, .int .u8 1, .int .i64 10, .int .i64 3, .int .i64 1, .int .i64 0, .int .i64 1, .int .i64 1, .int .i64 1, .bool false, .bool false, .bool false, .bool false, .int .i64 1, .int .i64 1, .bool false, .slice none 0 0, .int .u8 1, .int .i64 9] 33)) (some ⟨w4.heap.size, 0, none⟩) threeL := fun i j hi => by
    match i, hi with
    | 0, hi =>
      simp [threeL] at hi
      subst hi
      exact ⟨_, 0, none, 0, rfl, kb.lt, ⟨kb.cell 0, kb.cell 1, kb.cell 2, kb.cell 3, kb.cell 4, kb.cell 5, kb.cell 6, kb.cell 7, kb.cell 8, kb.cell 9, kb.cell 10, kb.cell 11, kb.cell 12, kb.cell 13, kb.cell 14, kb.cell 15⟩, IntsAt.nil⟩
    | 1, hi =>
      simp [threeL] at hi
      subst hi
      exact ⟨_, 0, none, 0, rfl, kb.lt, ⟨kb.cell 16, kb.cell 17, kb.cell 18, kb.cell 19, kb.cell 20, kb.cell 21, kb.cell 22, kb.cell 23, kb.cell 24, kb.cell 25, kb.cell 26, kb.cell 27, kb.cell 28, kb.cell 29, kb.cell 30, kb.cell 31⟩, IntsAt.nil⟩
    | 2, hi =>
      simp [threeL] at hi
      subst hi
      exact ⟨_, 0, none, 0, rfl, kb.lt, ⟨kb.cell 32, kb.cell 33, kb.cell 34, kb.cell 35, kb.cell 36, kb.cell 37, kb.cell 38, kb.cell 39, kb.cell 40, kb.cell 41, kb.cell 42, kb.cell 43, kb.cell 44, kb.cell 45, kb.cell 46, kb.cell 47⟩, IntsAt.nil⟩
    | i + 3, hi => simp [threeL] at hi
  have HX := Lib.hid hX
  have HBz := Lib.hid (below_alloc (o := .cells #[.int .i64 1, .int .i64 1, .int .i64 0, .int .i64 1, .int .i64 1, .int .i64 1, .bool false, .bool false, .bool false, .bool false, .int .i64 1, .int .i64 0, .bool false, .slice none 0 0, .int .u8 1, .int .i64 0, .int .i64 2, .int .i64 1, .int .i64 0, .int .i64 1, .int .i64 1, .int .i64 1, .bool false, .bool false, .bool false, .bool false, .int .i64 1, .int .i64 1, .bool false, .slice none 0 0, .int .u8 1, .int .i64 10, .int .i64 3, .int .i64 1, .int .i64 0, .int .i64 1, .int .i64 1, .int .i64 1, .bool false, .bool false, .bool false, .bool false, .int .i64 1, .int .i64 1, .bool false, .slice none 0 0, .int .u8 1, .int .i64 9] 33) (Below.refl w4.heap.size w4))
  clear kb hX
  refine (HO.out g _ _ (HK4.out.up HBz.out) HX.out).mono ?_
  rintro e w5 ⟨X5, c5, rfl, hI, hB5⟩
  have HB5 := Lib.hid (below_up (below_up HB4.out HBz.out) hB5)
  obtain ⟨b, o, rfl, hb, y0⟩ := hI 0 3 rfl
  obtain ⟨b1, o1, e1, _, y1⟩ := hI 1 1 rfl
  obtain ⟨b2, o2, e2, _, y2⟩ := hI 2 2 rfl
  have e1' : b1 = b ∧ o1 = o := by simp at e1; exact ⟨e1.1.symm, e1.2.symm⟩
  have e2' : b2 = b ∧ o2 = o := by simp at e2; exact ⟨e2.1.symm, e2.2.symm⟩
  rw [e1'.1, e1'.2] at y1
  rw [e2'.1, e2'.2] at y2
  rw [Nat.add_zero] at y0
  clear e1 e2 e1' e2' hI hB5 hb
  go_wp2_with fail
  go_ret
  exact ⟨rfl, HB5.out⟩
theorem names_check : CheckV 1 1 1 1 1 1 10 [(0, 9, 1, 1)] (rb 1 2 5) = 0 := by decide +kernel
theorem names_key : keyV [(0, 9, 1, 1)] 10 (rb 1 2 5) = 15 := by decide +kernel
set_option maxRecDepth 100000 in
set_option maxHeartbeats 4000000 in
theorem namesLaw (w : World) : Calls Try.prog 8 #[] w fun e w' => e = .returned (.bool true) ∧ Below w.heap.size w w' := by
  have HKY := Lib.hid (fun g w hk => rKey_any 1 1 1 1 1 1 10 (some ⟨g, 0, none⟩) 1 [(0, 9, 1, 1)] (rb 1 2 5) none 0 (by simp) (by simp [rb]) w hk IntsAt.nil)
  rw [names_check, names_key, if_pos rfl] at HKY
  go_enter Try.func8, Try.ntmps8
  go_wp2_with fail
  refine (rplain _).mono ?_
  rintro e w1 ⟨g, rfl, hk, hB1⟩
  have HK := Lib.hid hk
  have HB1 := Lib.hid hB1
  clear hk hB1
  go_wp2_with fail
  refine (rone 1 2 5 _).mono ?_
  rintro e w2 ⟨rfl, hB2⟩
  have HK2 := Lib.hid (HK.out.up hB2)
  have HB2 := Lib.hid (below_up HB1.out hB2)
  clear hB2
  go_wp2_with fail
  refine (HKY.out g _ HK2.out).mono ?_
  rintro e w3 ⟨rfl, hB3⟩
  have HB3 := Lib.hid (below_up HB2.out hB3)
  clear hB3
  go_wp2_with fail
  refine (ralive _).mono ?_
  rintro e w4 ⟨rfl, hB4⟩
  have HB4 := Lib.hid (below_up HB3.out hB4)
  clear hB4
  go_wp2_with fail
  go_ret
  exact ⟨rfl, HB4.out⟩
end Go.Proofs.Ytfpljpdjohmbaaa.RankAlive
