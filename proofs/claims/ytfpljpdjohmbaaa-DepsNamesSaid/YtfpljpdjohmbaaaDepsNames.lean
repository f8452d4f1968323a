/- DepsNames: the walk. -/
import Derived.BigQuiet
import Derived.Deep.QuietTactic
import Derived.Test.YtfpljpdjohmbaaaDepsAlive
import Derived.Test.YtfpljpdjohmbaaaDepsDo
namespace Go.Proofs.Ytfpljpdjohmbaaa.DepsNames
open Go.RowKit Mem PosMath PartMath TurnMath TurnMap JobMath JobIndex JobMem DepsStates DepsSettle DepsMath DepsMath2 DepsAlive DepsDo Lay
set_option linter.unusedVariables false
set_option linter.unusedSimpArgs false

theorem r4 : readyR 0 fourL 4 = (true, 0) := by decide +kernel
theorem r2 : readyR 0 fourL 2 = (false, 0) := by decide +kernel
theorem r9 : readyR 0 fourL 9 = (false, 6) := by decide +kernel
theorem four_ready (n : Int) (b : Bool) (v : Int) (h : readyR 0 fourL n = (b, v)) (g : Nat) (X : Option Addr) (w : World) (hk : ClsAt w w.heap.size (some ⟨g, 0, none⟩) [(0, 9, 1, 1)]) (hX : JobsAt w X fourL) :
    Calls Try.prog 38 #[.agg #[.int .i64 1, .int .i64 1, .int .i64 1, .int .i64 1, .int .i64 1, .int .i64 1, .int .i64 1, .slice (some ⟨g, 0, none⟩) 1 1], .slice X 4 4, .int .i64 n] w fun e w' => e = .returned (.tuple #[.bool b, .int .i64 v]) ∧ Below w.heap.size w w' := by
  have h1 := ready_all 1 1 1 1 1 1 1 (some ⟨g, 0, none⟩) 1 [(0, 9, 1, 1)] (by simp) X 4 fourL (by simp [fourL]) (by simp [fourL, jb]) four_wf n w hk hX
  rw [four_table, h] at h1
  exact h1
set_option maxRecDepth 100000 in
set_option maxHeartbeats 4000000 in
theorem namesLaw (w : World) : Calls Try.prog 12 #[] w fun e w' => e = .returned (.bool true) ∧ Below w.heap.size w w' := by
  go_enter Try.func12, Try.ntmps12
  go_wp2_with fail
  refine (dplain _).mono ?_
  rintro e w1 ⟨g1, rfl, hk, hB⟩
  have HK := Lib.hid hk
  have HB1 := Lib.hid (hB)
  clear hk hB
  go_wp2_with fail
  refine (four_any _).mono ?_
  rintro e w2 ⟨X2, rfl, hX, hB⟩
  have HK2 := Lib.hid (HK.out.up hB)
  have HB2 := Lib.hid (below_up HB1.out hB)
  have HX := Lib.hid hX
  clear hX hB HK HB1
  go_wp2_with fail
  refine (four_ready 4 true 0 r4 g1 X2 _ HK2.out HX.out).mono ?_
  rintro e w3 ⟨rfl, hB⟩
  have HB3 := Lib.hid (below_up HB2.out hB)
  clear hB HB2 HK2 HX
  go_wp2_with fail
  refine (dplain _).mono ?_
  rintro e w4 ⟨g4, rfl, hk, hB⟩
  have HK := Lib.hid hk
  have HB4 := Lib.hid (below_up HB3.out hB)
  clear hk hB
  go_wp2_with fail
  refine (four_any _).mono ?_
  rintro e w5 ⟨X5, rfl, hX, hB⟩
  have HK2 := Lib.hid (HK.out.up hB)
  have HB5 := Lib.hid (below_up HB4.out hB)
  have HX := Lib.hid hX
  clear hX hB HK HB4 HB3
  go_wp2_with fail
  refine (four_ready 2 false 0 r2 g4 X5 _ HK2.out HX.out).mono ?_
  rintro e w6 ⟨rfl, hB⟩
  have HB6 := Lib.hid (below_up HB5.out hB)
  clear hB HB5 HK2 HX
  go_wp2_with fail
  refine (dplain _).mono ?_
  rintro e w7 ⟨g7, rfl, hk, hB⟩
  have HK := Lib.hid hk
  have HB7 := Lib.hid (below_up HB6.out hB)
  clear hk hB
  go_wp2_with fail
  refine (four_any _).mono ?_
  rintro e w8 ⟨X8, rfl, hX, hB⟩
  have HK2 := Lib.hid (HK.out.up hB)
  have HB8 := Lib.hid (below_up HB7.out hB)
  have HX := Lib.hid hX
  clear hX hB HK HB7 HB6
  go_wp2_with fail
  refine (four_ready 9 false 6 r9 g7 X8 _ HK2.out HX.out).mono ?_
  rintro e w9 ⟨rfl, hB⟩
  have HB9 := Lib.hid (below_up HB8.out hB)
  clear hB HB8 HK2 HX
  go_wp2_with fail
  refine (dalive _).mono ?_
  rintro e w10 ⟨rfl, hB⟩
  have HB10 := Lib.hid (below_up HB9.out hB)
  clear hB
  go_wp2_with fail
  go_ret
  exact ⟨rfl, HB10.out⟩
end Go.Proofs.Ytfpljpdjohmbaaa.DepsNames
