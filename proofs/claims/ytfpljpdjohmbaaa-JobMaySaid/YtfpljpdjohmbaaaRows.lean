/-
  No cell of these rows narrows 'for every input' (looked for: loops, veiled, ifaces, maps, wideKeys, modest, calm, conditions, laid).
  DERIVED. THE GIVEN ROWS OF THIS SEAT. 14 by the template 'for every input the law returns true; each argument reads behind the call as it read before'; 0 by the template 'total and deterministic' (their statements: YtfpljpdjohmbaaaTotals.lean).
  GIVEN WITH THE SEED: the statements are not yours to turn. If you find one false, say at which input.
  Laid BY PROGRAM, IN A SANDBOX (cutbox-rows.mjs): the forced cells as the released guide's own fill.sh prints them over the translation 9a609203ec4ffa19… (all of the seat's roots in one cut). By AI agents, Wed Nov 11 2026. No macro, syntax, notation, axiom, sorry.
-/
import Derived.Test.YtfpljpdjohmbaaaChecked
import GoSem.Claim
import GoSem.ClaimJoined
import GoSem.ClaimMapViews
import Derived.JoinedTies
import Derived.KernelRfl
namespace Go.Proofs.Ytfpljpdjohmbaaa
/- THE CELL 'sum', in the pinned program and in every row, IS THE sha256 OF THE DUMP (.gsa) THAT YtfpljpdjohmbaaaProg.lean LOADS. Nothing in Lean hashes anything: it is a label: what it is worth is what the hold of that sum in a sandbox is worth. -/
noncomputable def Try.pinned : Pinned := { name := "ytfpljpdjohmbaaa", sum := "9a609203ec4ffa191f75507414e88b54f013c01e1e5c1ce8f57e20bedfdb675f", checked := Try.checked }
namespace Rows
def none {H : Type} : Left H := { results := [], args := [] }

/-- 'tidehalllaw18.JobTables': WHATEVER THE INPUT: true; the input reads as it did. -/
def jobTablesSpec : ChangeSpec := { name := "jobTables", fn := fun _ => fun
  | [d1, d2, d3, d4, d5] => { results := [.lit (.bool true)], args := [d1, d2, d3, d4, d5] }
  | _ => none }
def jobTablesRow : OpenClaim := { program := "ytfpljpdjohmbaaa", sum := "9a609203ec4ffa191f75507414e88b54f013c01e1e5c1ce8f57e20bedfdb675f", func := "tidehall/tidehalllaw18.JobTables", spec := "jobTables", unfollowed := true, recurses := true, plainKeys := false, apart := false }
def JobTablesSaid : Prop := jobTablesRow.holds Try.pinned (OpenSpec.ofChange jobTablesSpec)

/-- ITS FALSE NEIGHBOUR: 'it returns false'. Refute it at one input. -/
def jobTablesWrong : ChangeSpec := { name := "jobTables", fn := fun _ => fun
  | [d1, d2, d3, d4, d5] => { results := [.lit (.bool false)], args := [d1, d2, d3, d4, d5] }
  | _ => none }
def JobTablesWrongFalsely : Prop := jobTablesRow.holds Try.pinned (OpenSpec.ofChange jobTablesWrong)

/-- 'tidehalllaw18.JobAdds': WHATEVER THE INPUT: true; the input reads as it did. -/
def jobAddsSpec : ChangeSpec := { name := "jobAdds", fn := fun _ => fun
  | [d1, d2, d3, d4] => { results := [.lit (.bool true)], args := [d1, d2, d3, d4] }
  | _ => none }
def jobAddsRow : OpenClaim := { program := "ytfpljpdjohmbaaa", sum := "9a609203ec4ffa191f75507414e88b54f013c01e1e5c1ce8f57e20bedfdb675f", func := "tidehall/tidehalllaw18.JobAdds", spec := "jobAdds", unfollowed := true, recurses := true, plainKeys := false, apart := false }
def JobAddsSaid : Prop := jobAddsRow.holds Try.pinned (OpenSpec.ofChange jobAddsSpec)

/-- ITS FALSE NEIGHBOUR: 'it returns false'. Refute it at one input. -/
def jobAddsWrong : ChangeSpec := { name := "jobAdds", fn := fun _ => fun
  | [d1, d2, d3, d4] => { results := [.lit (.bool false)], args := [d1, d2, d3, d4] }
  | _ => none }
def JobAddsWrongFalsely : Prop := jobAddsRow.holds Try.pinned (OpenSpec.ofChange jobAddsWrong)

/-- 'tidehalllaw18.JobNames': WHATEVER THE INPUT: true; the input reads as it did. -/
def jobNamesSpec : ChangeSpec := { name := "jobNames", fn := fun _ => fun
  | [] => { results := [.lit (.bool true)], args := [] }
  | _ => none }
def jobNamesRow : OpenClaim := { program := "ytfpljpdjohmbaaa", sum := "9a609203ec4ffa191f75507414e88b54f013c01e1e5c1ce8f57e20bedfdb675f", func := "tidehall/tidehalllaw18.JobNames", spec := "jobNames", unfollowed := true, recurses := true, plainKeys := false, apart := false }
def JobNamesSaid : Prop := jobNamesRow.holds Try.pinned (OpenSpec.ofChange jobNamesSpec)

/-- ITS FALSE NEIGHBOUR: 'it returns false'. Refute it at one input. -/
def jobNamesWrong : ChangeSpec := { name := "jobNames", fn := fun _ => fun
  | [] => { results := [.lit (.bool false)], args := [] }
  | _ => none }
def JobNamesWrongFalsely : Prop := jobNamesRow.holds Try.pinned (OpenSpec.ofChange jobNamesWrong)

/-- 'tidehalllaw18.JobMay': WHATEVER THE INPUT: true; the input reads as it did. -/
def jobMaySpec : ChangeSpec := { name := "jobMay", fn := fun _ => fun
  | [d1, d2] => { results := [.lit (.bool true)], args := [d1, d2] }
  | _ => none }
def jobMayRow : OpenClaim := { program := "ytfpljpdjohmbaaa", sum := "9a609203ec4ffa191f75507414e88b54f013c01e1e5c1ce8f57e20bedfdb675f", func := "tidehall/tidehalllaw18.JobMay", spec := "jobMay", unfollowed := true, recurses := true, plainKeys := false, apart := false }
def JobMaySaid : Prop := jobMayRow.holds Try.pinned (OpenSpec.ofChange jobMaySpec)

/-- ITS FALSE NEIGHBOUR: 'it returns false'. Refute it at one input. -/
def jobMayWrong : ChangeSpec := { name := "jobMay", fn := fun _ => fun
  | [d1, d2] => { results := [.lit (.bool false)], args := [d1, d2] }
  | _ => none }
def JobMayWrongFalsely : Prop := jobMayRow.holds Try.pinned (OpenSpec.ofChange jobMayWrong)

/-- 'tidehalllaw18.JobKeeps': WHATEVER THE INPUT: true; the input reads as it did. -/
def jobKeepsSpec : ChangeSpec := { name := "jobKeeps", fn := fun _ => fun
  | [d1, d2, d3, d4] => { results := [.lit (.bool true)], args := [d1, d2, d3, d4] }
  | _ => none }
def jobKeepsRow : OpenClaim := { program := "ytfpljpdjohmbaaa", sum := "9a609203ec4ffa191f75507414e88b54f013c01e1e5c1ce8f57e20bedfdb675f", func := "tidehall/tidehalllaw18.JobKeeps", spec := "jobKeeps", unfollowed := true, recurses := true, plainKeys := false, apart := false }
def JobKeepsSaid : Prop := jobKeepsRow.holds Try.pinned (OpenSpec.ofChange jobKeepsSpec)

/-- ITS FALSE NEIGHBOUR: 'it returns false'. Refute it at one input. -/
def jobKeepsWrong : ChangeSpec := { name := "jobKeeps", fn := fun _ => fun
  | [d1, d2, d3, d4] => { results := [.lit (.bool false)], args := [d1, d2, d3, d4] }
  | _ => none }
def JobKeepsWrongFalsely : Prop := jobKeepsRow.holds Try.pinned (OpenSpec.ofChange jobKeepsWrong)

/-- 'tidehalllaw19.RankNames': WHATEVER THE INPUT: true; the input reads as it did. -/
def rankNamesSpec : ChangeSpec := { name := "rankNames", fn := fun _ => fun
  | [] => { results := [.lit (.bool true)], args := [] }
  | _ => none }
def rankNamesRow : OpenClaim := { program := "ytfpljpdjohmbaaa", sum := "9a609203ec4ffa191f75507414e88b54f013c01e1e5c1ce8f57e20bedfdb675f", func := "tidehall/tidehalllaw19.RankNames", spec := "rankNames", unfollowed := true, recurses := true, plainKeys := false, apart := false }
def RankNamesSaid : Prop := rankNamesRow.holds Try.pinned (OpenSpec.ofChange rankNamesSpec)

/-- ITS FALSE NEIGHBOUR: 'it returns false'. Refute it at one input. -/
def rankNamesWrong : ChangeSpec := { name := "rankNames", fn := fun _ => fun
  | [] => { results := [.lit (.bool false)], args := [] }
  | _ => none }
def RankNamesWrongFalsely : Prop := rankNamesRow.holds Try.pinned (OpenSpec.ofChange rankNamesWrong)

/-- 'tidehalllaw19.RankOrder': WHATEVER THE INPUT: true; the input reads as it did. -/
def rankOrderSpec : ChangeSpec := { name := "rankOrder", fn := fun _ => fun
  | [d1, d2] => { results := [.lit (.bool true)], args := [d1, d2] }
  | _ => none }
def rankOrderRow : OpenClaim := { program := "ytfpljpdjohmbaaa", sum := "9a609203ec4ffa191f75507414e88b54f013c01e1e5c1ce8f57e20bedfdb675f", func := "tidehall/tidehalllaw19.RankOrder", spec := "rankOrder", unfollowed := true, recurses := true, plainKeys := false, apart := false }
def RankOrderSaid : Prop := rankOrderRow.holds Try.pinned (OpenSpec.ofChange rankOrderSpec)

/-- ITS FALSE NEIGHBOUR: 'it returns false'. Refute it at one input. -/
def rankOrderWrong : ChangeSpec := { name := "rankOrder", fn := fun _ => fun
  | [d1, d2] => { results := [.lit (.bool false)], args := [d1, d2] }
  | _ => none }
def RankOrderWrongFalsely : Prop := rankOrderRow.holds Try.pinned (OpenSpec.ofChange rankOrderWrong)

/-- 'tidehalllaw19.RankShift': WHATEVER THE INPUT: true; the input reads as it did. -/
def rankShiftSpec : ChangeSpec := { name := "rankShift", fn := fun _ => fun
  | [d1, d2, d3] => { results := [.lit (.bool true)], args := [d1, d2, d3] }
  | _ => none }
def rankShiftRow : OpenClaim := { program := "ytfpljpdjohmbaaa", sum := "9a609203ec4ffa191f75507414e88b54f013c01e1e5c1ce8f57e20bedfdb675f", func := "tidehall/tidehalllaw19.RankShift", spec := "rankShift", unfollowed := true, recurses := true, plainKeys := false, apart := false }
def RankShiftSaid : Prop := rankShiftRow.holds Try.pinned (OpenSpec.ofChange rankShiftSpec)

/-- ITS FALSE NEIGHBOUR: 'it returns false'. Refute it at one input. -/
def rankShiftWrong : ChangeSpec := { name := "rankShift", fn := fun _ => fun
  | [d1, d2, d3] => { results := [.lit (.bool false)], args := [d1, d2, d3] }
  | _ => none }
def RankShiftWrongFalsely : Prop := rankShiftRow.holds Try.pinned (OpenSpec.ofChange rankShiftWrong)

/-- 'tidehalllaw19.RankSteady': WHATEVER THE INPUT: true; the input reads as it did. -/
def rankSteadySpec : ChangeSpec := { name := "rankSteady", fn := fun _ => fun
  | [d1, d2, d3] => { results := [.lit (.bool true)], args := [d1, d2, d3] }
  | _ => none }
def rankSteadyRow : OpenClaim := { program := "ytfpljpdjohmbaaa", sum := "9a609203ec4ffa191f75507414e88b54f013c01e1e5c1ce8f57e20bedfdb675f", func := "tidehall/tidehalllaw19.RankSteady", spec := "rankSteady", unfollowed := true, recurses := true, plainKeys := false, apart := false }
def RankSteadySaid : Prop := rankSteadyRow.holds Try.pinned (OpenSpec.ofChange rankSteadySpec)

/-- ITS FALSE NEIGHBOUR: 'it returns false'. Refute it at one input. -/
def rankSteadyWrong : ChangeSpec := { name := "rankSteady", fn := fun _ => fun
  | [d1, d2, d3] => { results := [.lit (.bool false)], args := [d1, d2, d3] }
  | _ => none }
def RankSteadyWrongFalsely : Prop := rankSteadyRow.holds Try.pinned (OpenSpec.ofChange rankSteadyWrong)

/-- 'tidehalllaw20.DepsNames': WHATEVER THE INPUT: true; the input reads as it did. -/
def depsNamesSpec : ChangeSpec := { name := "depsNames", fn := fun _ => fun
  | [] => { results := [.lit (.bool true)], args := [] }
  | _ => none }
def depsNamesRow : OpenClaim := { program := "ytfpljpdjohmbaaa", sum := "9a609203ec4ffa191f75507414e88b54f013c01e1e5c1ce8f57e20bedfdb675f", func := "tidehall/tidehalllaw20.DepsNames", spec := "depsNames", unfollowed := true, recurses := true, plainKeys := false, apart := false }
def DepsNamesSaid : Prop := depsNamesRow.holds Try.pinned (OpenSpec.ofChange depsNamesSpec)

/-- ITS FALSE NEIGHBOUR: 'it returns false'. Refute it at one input. -/
def depsNamesWrong : ChangeSpec := { name := "depsNames", fn := fun _ => fun
  | [] => { results := [.lit (.bool false)], args := [] }
  | _ => none }
def DepsNamesWrongFalsely : Prop := depsNamesRow.holds Try.pinned (OpenSpec.ofChange depsNamesWrong)

/-- 'tidehalllaw20.DepsDo': WHATEVER THE INPUT: true; the input reads as it did. -/
def depsDoSpec : ChangeSpec := { name := "depsDo", fn := fun _ => fun
  | [d1, d2, d3] => { results := [.lit (.bool true)], args := [d1, d2, d3] }
  | _ => none }
def depsDoRow : OpenClaim := { program := "ytfpljpdjohmbaaa", sum := "9a609203ec4ffa191f75507414e88b54f013c01e1e5c1ce8f57e20bedfdb675f", func := "tidehall/tidehalllaw20.DepsDo", spec := "depsDo", unfollowed := true, recurses := true, plainKeys := false, apart := false }
def DepsDoSaid : Prop := depsDoRow.holds Try.pinned (OpenSpec.ofChange depsDoSpec)

/-- ITS FALSE NEIGHBOUR: 'it returns false'. Refute it at one input. -/
def depsDoWrong : ChangeSpec := { name := "depsDo", fn := fun _ => fun
  | [d1, d2, d3] => { results := [.lit (.bool false)], args := [d1, d2, d3] }
  | _ => none }
def DepsDoWrongFalsely : Prop := depsDoRow.holds Try.pinned (OpenSpec.ofChange depsDoWrong)

/-- 'tidehalllaw20.DepsReady': WHATEVER THE INPUT: true; the input reads as it did. -/
def depsReadySpec : ChangeSpec := { name := "depsReady", fn := fun _ => fun
  | [d1, d2, d3] => { results := [.lit (.bool true)], args := [d1, d2, d3] }
  | _ => none }
def depsReadyRow : OpenClaim := { program := "ytfpljpdjohmbaaa", sum := "9a609203ec4ffa191f75507414e88b54f013c01e1e5c1ce8f57e20bedfdb675f", func := "tidehall/tidehalllaw20.DepsReady", spec := "depsReady", unfollowed := true, recurses := true, plainKeys := false, apart := false }
def DepsReadySaid : Prop := depsReadyRow.holds Try.pinned (OpenSpec.ofChange depsReadySpec)

/-- ITS FALSE NEIGHBOUR: 'it returns false'. Refute it at one input. -/
def depsReadyWrong : ChangeSpec := { name := "depsReady", fn := fun _ => fun
  | [d1, d2, d3] => { results := [.lit (.bool false)], args := [d1, d2, d3] }
  | _ => none }
def DepsReadyWrongFalsely : Prop := depsReadyRow.holds Try.pinned (OpenSpec.ofChange depsReadyWrong)

/-- 'tidehalllaw20.DepsSettles': WHATEVER THE INPUT: true; the input reads as it did. -/
def depsSettlesSpec : ChangeSpec := { name := "depsSettles", fn := fun _ => fun
  | [d1, d2] => { results := [.lit (.bool true)], args := [d1, d2] }
  | _ => none }
def depsSettlesRow : OpenClaim := { program := "ytfpljpdjohmbaaa", sum := "9a609203ec4ffa191f75507414e88b54f013c01e1e5c1ce8f57e20bedfdb675f", func := "tidehall/tidehalllaw20.DepsSettles", spec := "depsSettles", unfollowed := true, recurses := true, plainKeys := false, apart := false }
def DepsSettlesSaid : Prop := depsSettlesRow.holds Try.pinned (OpenSpec.ofChange depsSettlesSpec)

/-- ITS FALSE NEIGHBOUR: 'it returns false'. Refute it at one input. -/
def depsSettlesWrong : ChangeSpec := { name := "depsSettles", fn := fun _ => fun
  | [d1, d2] => { results := [.lit (.bool false)], args := [d1, d2] }
  | _ => none }
def DepsSettlesWrongFalsely : Prop := depsSettlesRow.holds Try.pinned (OpenSpec.ofChange depsSettlesWrong)

/-- 'tidehalllaw20.DepsIdle': WHATEVER THE INPUT: true; the input reads as it did. -/
def depsIdleSpec : ChangeSpec := { name := "depsIdle", fn := fun _ => fun
  | [d1, d2, d3] => { results := [.lit (.bool true)], args := [d1, d2, d3] }
  | _ => none }
def depsIdleRow : OpenClaim := { program := "ytfpljpdjohmbaaa", sum := "9a609203ec4ffa191f75507414e88b54f013c01e1e5c1ce8f57e20bedfdb675f", func := "tidehall/tidehalllaw20.DepsIdle", spec := "depsIdle", unfollowed := true, recurses := true, plainKeys := false, apart := false }
def DepsIdleSaid : Prop := depsIdleRow.holds Try.pinned (OpenSpec.ofChange depsIdleSpec)

/-- ITS FALSE NEIGHBOUR: 'it returns false'. Refute it at one input. -/
def depsIdleWrong : ChangeSpec := { name := "depsIdle", fn := fun _ => fun
  | [d1, d2, d3] => { results := [.lit (.bool false)], args := [d1, d2, d3] }
  | _ => none }
def DepsIdleWrongFalsely : Prop := depsIdleRow.holds Try.pinned (OpenSpec.ofChange depsIdleWrong)

/- THE SECOND FORM. 'bulk': how many values and letters a reading holds, each counted each time it is reached (what is shared counts as often as it is met; a slice's spare places count too). A statement '..UptoSaid' is the law's where the arguments, and the package variables that the reading takes, are together of bulk at most 1048576: NARROWER than '..Said'. Prove '..Said' where nothing that the law and all that it calls make is longer than what came in: it says more and counts as full. Else prove '..UptoSaid'. A law counts once. -/
mutual
def uptoBulk {H : Type} : DataW H → Nat
  | .lit (.string bytes) => bytes.length + 1
  | .lit _ => 1
  | .nil => 1
  | .ptr d => uptoBulk d + 1
  | .slice elems spare => uptoBulkAll elems + uptoBulkAll spare + 1
  | .agg parts => uptoBulkAll parts + 1
  | .iface _ d => uptoBulk d + 1
  | .map entries => uptoBulkEntries entries + 1
  | .held _ => 1
def uptoBulkAll {H : Type} : List (DataW H) → Nat
  | [] => 0
  | d :: r => uptoBulk d + uptoBulkAll r
def uptoBulkEntries {H : Type} : List (Lit × DataW H) → Nat
  | [] => 0
  | x :: r => uptoBulkEntry x + uptoBulkEntries r
def uptoBulkEntry {H : Type} : Lit × DataW H → Nat
  | (.string bytes, d) => bytes.length + uptoBulk d + 1
  | (_, d) => uptoBulk d + 1
 end
def uptoSmall : (H : Type) → List (DataW H) → Bool := fun _ ds => decide (uptoBulkAll ds ≤ 1048576)
def OpenSpec.upto (s : _root_.Go.ChangeSpec) : _root_.Go.OpenSpec := { _root_.Go.OpenSpec.ofChange s with cond := some uptoSmall }

/-- 'tidehalllaw18.JobTables', WHERE WHAT IT READS IS OF BULK AT MOST 1048576: true; the input reads as it did. -/
def jobTablesUptoRow : OpenClaim := { program := "ytfpljpdjohmbaaa", sum := "9a609203ec4ffa191f75507414e88b54f013c01e1e5c1ce8f57e20bedfdb675f", func := "tidehall/tidehalllaw18.JobTables", spec := "jobTables", unfollowed := true, recurses := true, plainKeys := false, apart := false, narrowed := true }
def JobTablesUptoSaid : Prop := jobTablesUptoRow.holds Try.pinned (OpenSpec.upto jobTablesSpec)

/-- 'tidehalllaw18.JobAdds', WHERE WHAT IT READS IS OF BULK AT MOST 1048576: true; the input reads as it did. -/
def jobAddsUptoRow : OpenClaim := { program := "ytfpljpdjohmbaaa", sum := "9a609203ec4ffa191f75507414e88b54f013c01e1e5c1ce8f57e20bedfdb675f", func := "tidehall/tidehalllaw18.JobAdds", spec := "jobAdds", unfollowed := true, recurses := true, plainKeys := false, apart := false, narrowed := true }
def JobAddsUptoSaid : Prop := jobAddsUptoRow.holds Try.pinned (OpenSpec.upto jobAddsSpec)

/-- 'tidehalllaw18.JobNames', WHERE WHAT IT READS IS OF BULK AT MOST 1048576: true; the input reads as it did. -/
def jobNamesUptoRow : OpenClaim := { program := "ytfpljpdjohmbaaa", sum := "9a609203ec4ffa191f75507414e88b54f013c01e1e5c1ce8f57e20bedfdb675f", func := "tidehall/tidehalllaw18.JobNames", spec := "jobNames", unfollowed := true, recurses := true, plainKeys := false, apart := false, narrowed := true }
def JobNamesUptoSaid : Prop := jobNamesUptoRow.holds Try.pinned (OpenSpec.upto jobNamesSpec)

/-- 'tidehalllaw18.JobMay', WHERE WHAT IT READS IS OF BULK AT MOST 1048576: true; the input reads as it did. -/
def jobMayUptoRow : OpenClaim := { program := "ytfpljpdjohmbaaa", sum := "9a609203ec4ffa191f75507414e88b54f013c01e1e5c1ce8f57e20bedfdb675f", func := "tidehall/tidehalllaw18.JobMay", spec := "jobMay", unfollowed := true, recurses := true, plainKeys := false, apart := false, narrowed := true }
def JobMayUptoSaid : Prop := jobMayUptoRow.holds Try.pinned (OpenSpec.upto jobMaySpec)

/-- 'tidehalllaw18.JobKeeps', WHERE WHAT IT READS IS OF BULK AT MOST 1048576: true; the input reads as it did. -/
def jobKeepsUptoRow : OpenClaim := { program := "ytfpljpdjohmbaaa", sum := "9a609203ec4ffa191f75507414e88b54f013c01e1e5c1ce8f57e20bedfdb675f", func := "tidehall/tidehalllaw18.JobKeeps", spec := "jobKeeps", unfollowed := true, recurses := true, plainKeys := false, apart := false, narrowed := true }
def JobKeepsUptoSaid : Prop := jobKeepsUptoRow.holds Try.pinned (OpenSpec.upto jobKeepsSpec)

/-- 'tidehalllaw19.RankNames', WHERE WHAT IT READS IS OF BULK AT MOST 1048576: true; the input reads as it did. -/
def rankNamesUptoRow : OpenClaim := { program := "ytfpljpdjohmbaaa", sum := "9a609203ec4ffa191f75507414e88b54f013c01e1e5c1ce8f57e20bedfdb675f", func := "tidehall/tidehalllaw19.RankNames", spec := "rankNames", unfollowed := true, recurses := true, plainKeys := false, apart := false, narrowed := true }
def RankNamesUptoSaid : Prop := rankNamesUptoRow.holds Try.pinned (OpenSpec.upto rankNamesSpec)

/-- 'tidehalllaw19.RankOrder', WHERE WHAT IT READS IS OF BULK AT MOST 1048576: true; the input reads as it did. -/
def rankOrderUptoRow : OpenClaim := { program := "ytfpljpdjohmbaaa", sum := "9a609203ec4ffa191f75507414e88b54f013c01e1e5c1ce8f57e20bedfdb675f", func := "tidehall/tidehalllaw19.RankOrder", spec := "rankOrder", unfollowed := true, recurses := true, plainKeys := false, apart := false, narrowed := true }
def RankOrderUptoSaid : Prop := rankOrderUptoRow.holds Try.pinned (OpenSpec.upto rankOrderSpec)

/-- 'tidehalllaw19.RankShift', WHERE WHAT IT READS IS OF BULK AT MOST 1048576: true; the input reads as it did. -/
def rankShiftUptoRow : OpenClaim := { program := "ytfpljpdjohmbaaa", sum := "9a609203ec4ffa191f75507414e88b54f013c01e1e5c1ce8f57e20bedfdb675f", func := "tidehall/tidehalllaw19.RankShift", spec := "rankShift", unfollowed := true, recurses := true, plainKeys := false, apart := false, narrowed := true }
def RankShiftUptoSaid : Prop := rankShiftUptoRow.holds Try.pinned (OpenSpec.upto rankShiftSpec)

/-- 'tidehalllaw19.RankSteady', WHERE WHAT IT READS IS OF BULK AT MOST 1048576: true; the input reads as it did. -/
def rankSteadyUptoRow : OpenClaim := { program := "ytfpljpdjohmbaaa", sum := "9a609203ec4ffa191f75507414e88b54f013c01e1e5c1ce8f57e20bedfdb675f", func := "tidehall/tidehalllaw19.RankSteady", spec := "rankSteady", unfollowed := true, recurses := true, plainKeys := false, apart := false, narrowed := true }
def RankSteadyUptoSaid : Prop := rankSteadyUptoRow.holds Try.pinned (OpenSpec.upto rankSteadySpec)

/-- 'tidehalllaw20.DepsNames', WHERE WHAT IT READS IS OF BULK AT MOST 1048576: true; the input reads as it did. -/
def depsNamesUptoRow : OpenClaim := { program := "ytfpljpdjohmbaaa", sum := "9a609203ec4ffa191f75507414e88b54f013c01e1e5c1ce8f57e20bedfdb675f", func := "tidehall/tidehalllaw20.DepsNames", spec := "depsNames", unfollowed := true, recurses := true, plainKeys := false, apart := false, narrowed := true }
def DepsNamesUptoSaid : Prop := depsNamesUptoRow.holds Try.pinned (OpenSpec.upto depsNamesSpec)

/-- 'tidehalllaw20.DepsDo', WHERE WHAT IT READS IS OF BULK AT MOST 1048576: true; the input reads as it did. -/
def depsDoUptoRow : OpenClaim := { program := "ytfpljpdjohmbaaa", sum := "9a609203ec4ffa191f75507414e88b54f013c01e1e5c1ce8f57e20bedfdb675f", func := "tidehall/tidehalllaw20.DepsDo", spec := "depsDo", unfollowed := true, recurses := true, plainKeys := false, apart := false, narrowed := true }
def DepsDoUptoSaid : Prop := depsDoUptoRow.holds Try.pinned (OpenSpec.upto depsDoSpec)

/-- 'tidehalllaw20.DepsReady', WHERE WHAT IT READS IS OF BULK AT MOST 1048576: true; the input reads as it did. -/
def depsReadyUptoRow : OpenClaim := { program := "ytfpljpdjohmbaaa", sum := "9a609203ec4ffa191f75507414e88b54f013c01e1e5c1ce8f57e20bedfdb675f", func := "tidehall/tidehalllaw20.DepsReady", spec := "depsReady", unfollowed := true, recurses := true, plainKeys := false, apart := false, narrowed := true }
def DepsReadyUptoSaid : Prop := depsReadyUptoRow.holds Try.pinned (OpenSpec.upto depsReadySpec)

/-- 'tidehalllaw20.DepsSettles', WHERE WHAT IT READS IS OF BULK AT MOST 1048576: true; the input reads as it did. -/
def depsSettlesUptoRow : OpenClaim := { program := "ytfpljpdjohmbaaa", sum := "9a609203ec4ffa191f75507414e88b54f013c01e1e5c1ce8f57e20bedfdb675f", func := "tidehall/tidehalllaw20.DepsSettles", spec := "depsSettles", unfollowed := true, recurses := true, plainKeys := false, apart := false, narrowed := true }
def DepsSettlesUptoSaid : Prop := depsSettlesUptoRow.holds Try.pinned (OpenSpec.upto depsSettlesSpec)

/-- 'tidehalllaw20.DepsIdle', WHERE WHAT IT READS IS OF BULK AT MOST 1048576: true; the input reads as it did. -/
def depsIdleUptoRow : OpenClaim := { program := "ytfpljpdjohmbaaa", sum := "9a609203ec4ffa191f75507414e88b54f013c01e1e5c1ce8f57e20bedfdb675f", func := "tidehall/tidehalllaw20.DepsIdle", spec := "depsIdle", unfollowed := true, recurses := true, plainKeys := false, apart := false, narrowed := true }
def DepsIdleUptoSaid : Prop := depsIdleUptoRow.holds Try.pinned (OpenSpec.upto depsIdleSpec)

end Rows
end Go.Proofs.Ytfpljpdjohmbaaa
