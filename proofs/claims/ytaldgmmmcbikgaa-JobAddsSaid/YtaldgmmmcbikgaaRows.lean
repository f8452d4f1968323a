/-
  No cell of these rows narrows 'for every input' (looked for: loops, veiled, ifaces, maps, wideKeys, modest, calm, conditions, laid).
  DERIVED. THE GIVEN ROWS OF THIS SEAT. 5 by the template 'for every input the law returns true; each argument reads behind the call as it read before'; 0 by the template 'total and deterministic' (their statements: YtaldgmmmcbikgaaTotals.lean).
  GIVEN WITH THE SEED: the statements are not yours to turn. If you find one false, say at which input.
  Laid BY PROGRAM, IN A SANDBOX (cutbox-rows.mjs): the forced cells as the released guide's own fill.sh prints them over the translation c41c603d0eb320eb… (all of the seat's roots in one cut). By AI agents, Wed Nov 11 2026. No macro, syntax, notation, axiom, sorry.
-/
import Derived.Test.YtaldgmmmcbikgaaChecked
import GoSem.Claim
import GoSem.ClaimJoined
import GoSem.ClaimMapViews
import Derived.JoinedTies
import Derived.KernelRfl
namespace Go.Proofs.Ytaldgmmmcbikgaa
/- THE CELL 'sum', in the pinned program and in every row, IS THE sha256 OF THE DUMP (.gsa) THAT YtaldgmmmcbikgaaProg.lean LOADS. Nothing in Lean hashes anything: it is a label: what it is worth is what the hold of that sum in a sandbox is worth. -/
noncomputable def Try.pinned : Pinned := { name := "ytaldgmmmcbikgaa", sum := "c41c603d0eb320eb63741af5e25cb785a28d9e30387189332284e443cfd2f84b", checked := Try.checked }
namespace Rows
def none {H : Type} : Left H := { results := [], args := [] }

/-- 'tidehalllaw18.JobTables': WHATEVER THE INPUT: true; the input reads as it did. -/
def jobTablesSpec : ChangeSpec := { name := "jobTables", fn := fun _ => fun
  | [d1, d2, d3, d4, d5] => { results := [.lit (.bool true)], args := [d1, d2, d3, d4, d5] }
  | _ => none }
def jobTablesRow : OpenClaim := { program := "ytaldgmmmcbikgaa", sum := "c41c603d0eb320eb63741af5e25cb785a28d9e30387189332284e443cfd2f84b", func := "tidehall/tidehalllaw18.JobTables", spec := "jobTables", unfollowed := true, recurses := true, plainKeys := false, apart := false }
def JobTablesSaid : Prop := jobTablesRow.holds Try.pinned (OpenSpec.ofChange jobTablesSpec)

/-- ITS FALSE NEIGHBOUR: 'it returns false'. Refute it at one input. -/
def jobTablesWrong : ChangeSpec := { name := "jobTables", fn := fun _ => fun
  | [d1, d2, d3, d4, d5] => { results := [.lit (.bool false)], args := [d1, d2, d3, d4, d5] }
  | _ => none }
def JobTablesWrongFalsely : Prop := jobTablesRow.holds Try.pinned (OpenSpec.ofChange jobTablesWrong)

/-- 'tidehalllaw18.JobAdds': WHATEVER THE INPUT: true; the input reads as it did. -/
def jobAddsSpec : ChangeSpec := { name := "jobAdds", fn := fun _ => fun
  | [d1, d2, d3, d4] => { results := [.lit (.bool true)], args := [d1, d2, d3, d4] }
  | _ => none }
def jobAddsRow : OpenClaim := { program := "ytaldgmmmcbikgaa", sum := "c41c603d0eb320eb63741af5e25cb785a28d9e30387189332284e443cfd2f84b", func := "tidehall/tidehalllaw18.JobAdds", spec := "jobAdds", unfollowed := true, recurses := true, plainKeys := false, apart := false }
def JobAddsSaid : Prop := jobAddsRow.holds Try.pinned (OpenSpec.ofChange jobAddsSpec)

/-- ITS FALSE NEIGHBOUR: 'it returns false'. Refute it at one input. -/
def jobAddsWrong : ChangeSpec := { name := "jobAdds", fn := fun _ => fun
  | [d1, d2, d3, d4] => { results := [.lit (.bool false)], args := [d1, d2, d3, d4] }
  | _ => none }
def JobAddsWrongFalsely : Prop := jobAddsRow.holds Try.pinned (OpenSpec.ofChange jobAddsWrong)

/-- 'tidehalllaw18.JobNames': WHATEVER THE INPUT: true; the input reads as it did. -/
def jobNamesSpec : ChangeSpec := { name := "jobNames", fn := fun _ => fun
  | [] => { results := [.lit (.bool true)], args := [] }
  | _ => none }
def jobNamesRow : OpenClaim := { program := "ytaldgmmmcbikgaa", sum := "c41c603d0eb320eb63741af5e25cb785a28d9e30387189332284e443cfd2f84b", func := "tidehall/tidehalllaw18.JobNames", spec := "jobNames", unfollowed := true, recurses := true, plainKeys := false, apart := false }
def JobNamesSaid : Prop := jobNamesRow.holds Try.pinned (OpenSpec.ofChange jobNamesSpec)

/-- ITS FALSE NEIGHBOUR: 'it returns false'. Refute it at one input. -/
def jobNamesWrong : ChangeSpec := { name := "jobNames", fn := fun _ => fun
  | [] => { results := [.lit (.bool false)], args := [] }
  | _ => none }
def JobNamesWrongFalsely : Prop := jobNamesRow.holds Try.pinned (OpenSpec.ofChange jobNamesWrong)

/-- 'tidehalllaw18.JobMay': WHATEVER THE INPUT: true; the input reads as it did. -/
def jobMaySpec : ChangeSpec := { name := "jobMay", fn := fun _ => fun
  | [d1, d2] => { results := [.lit (.bool true)], args := [d1, d2] }
  | _ => none }
def jobMayRow : OpenClaim := { program := "ytaldgmmmcbikgaa", sum := "c41c603d0eb320eb63741af5e25cb785a28d9e30387189332284e443cfd2f84b", func := "tidehall/tidehalllaw18.JobMay", spec := "jobMay", unfollowed := true, recurses := true, plainKeys := false, apart := false }
def JobMaySaid : Prop := jobMayRow.holds Try.pinned (OpenSpec.ofChange jobMaySpec)

/-- ITS FALSE NEIGHBOUR: 'it returns false'. Refute it at one input. -/
def jobMayWrong : ChangeSpec := { name := "jobMay", fn := fun _ => fun
  | [d1, d2] => { results := [.lit (.bool false)], args := [d1, d2] }
  | _ => none }
def JobMayWrongFalsely : Prop := jobMayRow.holds Try.pinned (OpenSpec.ofChange jobMayWrong)

/-- 'tidehalllaw18.JobKeeps': WHATEVER THE INPUT: true; the input reads as it did. -/
def jobKeepsSpec : ChangeSpec := { name := "jobKeeps", fn := fun _ => fun
  | [d1, d2, d3, d4] => { results := [.lit (.bool true)], args := [d1, d2, d3, d4] }
  | _ => none }
def jobKeepsRow : OpenClaim := { program := "ytaldgmmmcbikgaa", sum := "c41c603d0eb320eb63741af5e25cb785a28d9e30387189332284e443cfd2f84b", func := "tidehall/tidehalllaw18.JobKeeps", spec := "jobKeeps", unfollowed := true, recurses := true, plainKeys := false, apart := false }
def JobKeepsSaid : Prop := jobKeepsRow.holds Try.pinned (OpenSpec.ofChange jobKeepsSpec)

/-- ITS FALSE NEIGHBOUR: 'it returns false'. Refute it at one input. -/
def jobKeepsWrong : ChangeSpec := { name := "jobKeeps", fn := fun _ => fun
  | [d1, d2, d3, d4] => { results := [.lit (.bool false)], args := [d1, d2, d3, d4] }
  | _ => none }
def JobKeepsWrongFalsely : Prop := jobKeepsRow.holds Try.pinned (OpenSpec.ofChange jobKeepsWrong)

/- THE SECOND FORM. 'bulk': how many values and letters a reading holds, each counted each time it is reached (what is shared counts as often as it is met; a slice's spare places count too). A statement '..UptoSaid' is the law's where the arguments, and the package variables that the reading takes, are together of bulk at most 1048576: NARROWER than '..Said'. Prove '..Said' where nothing that the law and all that it calls make is longer than what came in: it says more and counts as full. Else prove '..UptoSaid'. A law counts once. -/
mutual
def uptoBulk {H : Type} : DataW H → Nat
  | .lit (.string bytes) => bytes.length + 1
  | .lit _ => 1
  | .nil => 1
  | .ptr d => uptoBulk d + 1
  | .slice elems spare => uptoBulkAll elems + uptoBulkAll spare + 1
  | .agg parts => uptoBulkAll parts + 1
  | .iface _ d => uptoBulk d + 1
  | .map entries => uptoBulkEntries entries + 1
  | .held _ => 1
def uptoBulkAll {H : Type} : List (DataW H) → Nat
  | [] => 0
  | d :: r => uptoBulk d + uptoBulkAll r
def uptoBulkEntries {H : Type} : List (Lit × DataW H) → Nat
  | [] => 0
  | x :: r => uptoBulkEntry x + uptoBulkEntries r
def uptoBulkEntry {H : Type} : Lit × DataW H → Nat
  | (.string bytes, d) => bytes.length + uptoBulk d + 1
  | (_, d) => uptoBulk d + 1
 end
def uptoSmall : (H : Type) → List (DataW H) → Bool := fun _ ds => decide (uptoBulkAll ds ≤ 1048576)
def OpenSpec.upto (s : _root_.Go.ChangeSpec) : _root_.Go.OpenSpec := { _root_.Go.OpenSpec.ofChange s with cond := some uptoSmall }

/-- 'tidehalllaw18.JobTables', WHERE WHAT IT READS IS OF BULK AT MOST 1048576: true; the input reads as it did. -/
def jobTablesUptoRow : OpenClaim := { program := "ytaldgmmmcbikgaa", sum := "c41c603d0eb320eb63741af5e25cb785a28d9e30387189332284e443cfd2f84b", func := "tidehall/tidehalllaw18.JobTables", spec := "jobTables", unfollowed := true, recurses := true, plainKeys := false, apart := false, narrowed := true }
def JobTablesUptoSaid : Prop := jobTablesUptoRow.holds Try.pinned (OpenSpec.upto jobTablesSpec)

/-- 'tidehalllaw18.JobAdds', WHERE WHAT IT READS IS OF BULK AT MOST 1048576: true; the input reads as it did. -/
def jobAddsUptoRow : OpenClaim := { program := "ytaldgmmmcbikgaa", sum := "c41c603d0eb320eb63741af5e25cb785a28d9e30387189332284e443cfd2f84b", func := "tidehall/tidehalllaw18.JobAdds", spec := "jobAdds", unfollowed := true, recurses := true, plainKeys := false, apart := false, narrowed := true }
def JobAddsUptoSaid : Prop := jobAddsUptoRow.holds Try.pinned (OpenSpec.upto jobAddsSpec)

/-- 'tidehalllaw18.JobNames', WHERE WHAT IT READS IS OF BULK AT MOST 1048576: true; the input reads as it did. -/
def jobNamesUptoRow : OpenClaim := { program := "ytaldgmmmcbikgaa", sum := "c41c603d0eb320eb63741af5e25cb785a28d9e30387189332284e443cfd2f84b", func := "tidehall/tidehalllaw18.JobNames", spec := "jobNames", unfollowed := true, recurses := true, plainKeys := false, apart := false, narrowed := true }
def JobNamesUptoSaid : Prop := jobNamesUptoRow.holds Try.pinned (OpenSpec.upto jobNamesSpec)

/-- 'tidehalllaw18.JobMay', WHERE WHAT IT READS IS OF BULK AT MOST 1048576: true; the input reads as it did. -/
def jobMayUptoRow : OpenClaim := { program := "ytaldgmmmcbikgaa", sum := "c41c603d0eb320eb63741af5e25cb785a28d9e30387189332284e443cfd2f84b", func := "tidehall/tidehalllaw18.JobMay", spec := "jobMay", unfollowed := true, recurses := true, plainKeys := false, apart := false, narrowed := true }
def JobMayUptoSaid : Prop := jobMayUptoRow.holds Try.pinned (OpenSpec.upto jobMaySpec)

/-- 'tidehalllaw18.JobKeeps', WHERE WHAT IT READS IS OF BULK AT MOST 1048576: true; the input reads as it did. -/
def jobKeepsUptoRow : OpenClaim := { program := "ytaldgmmmcbikgaa", sum := "c41c603d0eb320eb63741af5e25cb785a28d9e30387189332284e443cfd2f84b", func := "tidehall/tidehalllaw18.JobKeeps", spec := "jobKeeps", unfollowed := true, recurses := true, plainKeys := false, apart := false, narrowed := true }
def JobKeepsUptoSaid : Prop := jobKeepsUptoRow.holds Try.pinned (OpenSpec.upto jobKeepsSpec)

end Rows
end Go.Proofs.Ytaldgmmmcbikgaa
