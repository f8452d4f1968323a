/- Layer 28's first examples. No conditions. -/
import Derived.BigQuiet
import Derived.Test.YtfdldbfjeamlcaaLogMath
import Derived.Test.YtfdldbfjeamlcaaRecWrite
namespace Go.Proofs.Ytfdldbfjeamlcaa.RecAlive
open Go.RowKit Mem RecMem RecByte RecNum RecEach RecMath RecPort RecCmd RecCommand RecCmdJ RecEq RecJobs RecSame RecWr0 RecWrite LogMath
set_option linter.unusedVariables false
set_option linter.unusedSimpArgs false

def cTick : CV := { CV.z with kd := 7, n := 5 }
def cBoot : CV := { CV.z with kd := 8, ci := 1, we := true }
theorem tick_wf : CWf cTick := ⟨by decide, by decide⟩
theorem boot_wf : CWf cBoot := ⟨by decide, by decide⟩
theorem tick_ok : okW cTick = true := by decide
theorem boot_ok : okW cBoot = true := by decide
theorem tick_bytes : nB 0 ++ cmdB cTick = [0, 0, 0, 0, 0, 0, 0, 0, 7, 5, 0, 0, 0, 0, 0, 0, 0] := by decide
theorem boot_bytes : nB 0 ++ cmdB cBoot = [0, 0, 0, 0, 0, 0, 0, 0, 8, 1, 0, 0, 0, 0, 0, 0, 0, 1] := by decide
/-- A record of the clock's command. -/
theorem wtick (w : World) : Calls Try.prog 17 #[.agg (recA cTick none 0)] w fun e w' => (∃ X cc, e = .returned (.tuple #[.slice X 17 cc, .int .i64 0]) ∧ BytesAt w' X [0, 0, 0, 0, 0, 0, 0, 0, 7, 5, 0, 0, 0, 0, 0, 0, 0]) ∧ Below w.heap.size w w' := by
  refine (wwrite cTick none 0 tick_wf (by decide) w IntsAt.nil).mono ?_
  rintro e w' ⟨⟨_, X, n, cc, rfl, hn, hX⟩ | ⟨h, _⟩, hB⟩
  · rw [tick_bytes] at hn hX
    subst hn
    exact ⟨⟨X, cc, rfl, hX⟩, hB⟩
  · rw [tick_ok] at h; cases h
theorem wboot (w : World) : Calls Try.prog 17 #[.agg (recA cBoot none 0)] w fun e w' => (∃ X cc, e = .returned (.tuple #[.slice X 18 cc, .int .i64 0]) ∧ BytesAt w' X [0, 0, 0, 0, 0, 0, 0, 0, 8, 1, 0, 0, 0, 0, 0, 0, 0, 1]) ∧ Below w.heap.size w w' := by
  refine (wwrite cBoot none 0 boot_wf (by decide) w IntsAt.nil).mono ?_
  rintro e w' ⟨⟨_, X, n, cc, rfl, hn, hX⟩ | ⟨h, _⟩, hB⟩
  · rw [boot_bytes] at hn hX
    subst hn
    exact ⟨⟨X, cc, rfl, hX⟩, hB⟩
  · rw [boot_ok] at h; cases h
set_option maxRecDepth 100000 in
set_option maxHeartbeats 2000000 in
theorem alive28 (w : World) : Calls Try.prog 15 #[] w fun e w' => e = .returned (.bool true) ∧ Below w.heap.size w w' := by
  go_enter Try.func15, Try.ntmps15
  go_wp2_with fail
  refine (wtick w).mono ?_
  rintro e w1 ⟨⟨X, cx, rfl, hX⟩, hB1⟩
  have H1 := Lib.hid (And.intro hX hB1)
  clear hX hB1
  go_wp2_with fail
  refine (wboot w1).mono ?_
  rintro e w2 ⟨⟨Y, cy, rfl, hY⟩, hB2⟩
  have k1 := run_strOf (n := 17) (c := cx) (H1.out.1.up hB2)
  have k2 := run_strOf (n := 18) (c := cy) hY
  rw [show strOf [0, 0, 0, 0, 0, 0, 0, 0, 7, 5, 0, 0, 0, 0, 0, 0, 0] = ⟨#[0, 0, 0, 0, 0, 0, 0, 0, 7, 5, 0, 0, 0, 0, 0, 0, 0]⟩ from rfl] at k1
  rw [show strOf [0, 0, 0, 0, 0, 0, 0, 0, 8, 1, 0, 0, 0, 0, 0, 0, 0, 1] = ⟨#[0, 0, 0, 0, 0, 0, 0, 0, 8, 1, 0, 0, 0, 0, 0, 0, 0, 1]⟩ from rfl] at k2
  have e1 : (([0, 0, 0, 0, 0, 0, 0, 0, 7, 5, 0, 0, 0, 0, 0, 0, 0] : List UInt8) == ((⟨#[0, 0, 0, 0, 0, 0, 0]⟩ : ByteArray) ++ ⟨#[0, 7, 5]⟩ ++ ⟨#[0, 0, 0, 0, 0, 0, 0]⟩).toList) = true := by decide +kernel
  have e2 : (([0, 0, 0, 0, 0, 0, 0, 0, 8, 1, 0, 0, 0, 0, 0, 0, 0, 1] : List UInt8) == ((⟨#[0, 0, 0, 0, 0, 0, 0]⟩ : ByteArray) ++ ⟨#[0, 8, 1]⟩ ++ ⟨#[0, 0, 0, 0, 0, 0, 0]⟩ ++ ⟨#[1]⟩).toList) = true := by decide +kernel
  have H2 := Lib.hid (below_up H1.out.2 hB2)
  clear hY hB2 H1
  go_wp2_with fail
  go_ret
  exact ⟨rfl, H2.out⟩
end Go.Proofs.Ytfdldbfjeamlcaa.RecAlive
