/- The walk of TurnGroup. -/
import Derived.Deep.DeepCutAuto
import Derived.Test.YtcapbkihjjhkjaaTurnGroupA
import Derived.Test.YtcapbkihjjhkjaaTurnGroupB
import Derived.Test.YtcapbkihjjhkjaaTurnGroupC
import Derived.Test.YtcapbkihjjhkjaaTurnGroupD
import Derived.Test.YtcapbkihjjhkjaaTurnGroupE
namespace Go.Proofs.Ytcapbkihjjhkjaa.TurnGroupLaw
open Go.RowKit Go.Sort Mem PosMath PosCheck TurnMath TurnWalks TurnMap TurnSorted TurnAll TurnFitsOf TurnAlive TurnGroupA
set_option linter.unusedVariables false
set_option linter.unusedSimpArgs false

set_option maxRecDepth 100000 in
set_option maxHeartbeats 4000000 in
theorem grp_bad (a b c : Int) (p q r tn : Bool) (h : ¬ WOk ⟨a, b, c, p, q, r, tn⟩) (w : World) :
    Calls Try.prog 3 #[.agg #[.int .i64 a, .int .i64 b, .int .i64 c, .bool p, .bool q, .bool r, .bool tn]] w fun e w' => e = .returned (.bool true) ∧ Below w.heap.size w w' := by
  have HH := Lib.hid h
  clear h
  go_enter Try.func3, Try.ntmps3
  go_wp2_with fail
  refine (alive_any _).mono ?_
  rintro e w1 ⟨rfl, hB1⟩
  have kx : Blk w1 w.heap.size 25 #[.int .i64 a, .int .i64 b, .int .i64 c, .bool p, .bool q, .bool r, .bool tn] := (Blk.new w _ _).below hB1 (by simp)
  have HB1 := Lib.hid (below_up (below_alloc (Below.refl _ w)) hB1)
  have K1 := Lib.hid kx
  have x0 : w1.cell? ⟨w.heap.size, 0, none⟩ = some (.int .i64 a) := K1.out.cell 0
  have x1 : w1.cell? ⟨w.heap.size, 1, none⟩ = some (.int .i64 b) := K1.out.cell 1
  have x2 : w1.cell? ⟨w.heap.size, 2, none⟩ = some (.int .i64 c) := K1.out.cell 2
  have x3 : w1.cell? ⟨w.heap.size, 3, none⟩ = some (.bool p) := K1.out.cell 3
  have x4 : w1.cell? ⟨w.heap.size, 4, none⟩ = some (.bool q) := K1.out.cell 4
  have x5 : w1.cell? ⟨w.heap.size, 5, none⟩ = some (.bool r) := K1.out.cell 5
  have x6 : w1.cell? ⟨w.heap.size, 6, none⟩ = some (.bool tn) := K1.out.cell 6
  clear hB1 kx
  go_wp2_with fail
  refine (all_bad a b c p q r tn HH.out _).mono ?_
  rintro e w2 ⟨rfl, hB2⟩
  have HB2 := Lib.hid (below_up HB1.out hB2)
  have K2 := Lib.hid (K1.out.below hB2 K1.out.lt)
  clear hB2 x0 x1 x2 x3 x4 x5 x6
  have x0 : w2.cell? ⟨w.heap.size, 0, none⟩ = some (.int .i64 a) := K2.out.cell 0
  have x1 : w2.cell? ⟨w.heap.size, 1, none⟩ = some (.int .i64 b) := K2.out.cell 1
  have x2 : w2.cell? ⟨w.heap.size, 2, none⟩ = some (.int .i64 c) := K2.out.cell 2
  have x3 : w2.cell? ⟨w.heap.size, 3, none⟩ = some (.bool p) := K2.out.cell 3
  have x4 : w2.cell? ⟨w.heap.size, 4, none⟩ = some (.bool q) := K2.out.cell 4
  have x5 : w2.cell? ⟨w.heap.size, 5, none⟩ = some (.bool r) := K2.out.cell 5
  have x6 : w2.cell? ⟨w.heap.size, 6, none⟩ = some (.bool tn) := K2.out.cell 6
  go_wp2_with fail
  refine (wcheck_bad a b c p q r tn HH.out _).mono ?_
  rintro e w3 ⟨rfl, hB3⟩
  have HB3 := Lib.hid (below_up HB2.out hB3)
  clear hB3
  go_wp2_with fail
  go_ret
  exact ⟨rfl, HB3.out⟩
theorem groupLaw (w : World) (x : WV) (wa : (Lit.int .i64 x.a).wf = true) (wb : (Lit.int .i64 x.b).wf = true) (wc : (Lit.int .i64 x.c).wf = true) :
    Calls Try.prog 3 #[.agg x.arr] w fun e w' => e = .returned (.bool true) ∧ Below w.heap.size w w' := by
  obtain ⟨a, b, c, p, q, r, tn⟩ := x
  by_cases h : WOk ⟨a, b, c, p, q, r, tn⟩
  · cases tn
    · exact TurnGroupE.grp_false1 a b c p q r h _ rfl (by simp [allL]) w
    · rcases many _ h rfl with hn | hn | hn
      · exact TurnGroupB.grp_true1 a b c p q r h _ rfl hn w
      · exact TurnGroupC.grp_true3 a b c p q r h _ rfl hn w
      · exact TurnGroupD.grp_true6 a b c p q r h _ rfl hn w
  · exact grp_bad a b c p q r tn h w
end Go.Proofs.Ytcapbkihjjhkjaa.TurnGroupLaw
