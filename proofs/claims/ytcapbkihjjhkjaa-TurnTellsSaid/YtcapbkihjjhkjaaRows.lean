/-
  No cell of these rows narrows 'for every input' (looked for: loops, veiled, ifaces, maps, wideKeys, modest, calm, conditions, laid).
  DERIVED. THE GIVEN ROWS OF THIS SEAT. 4 by the template 'for every input the law returns true; each argument reads behind the call as it read before'; 0 by the template 'total and deterministic' (their statements: YtcapbkihjjhkjaaTotals.lean).
  GIVEN WITH THE SEED: the statements are not yours to turn. If you find one false, say at which input.
  Laid BY PROGRAM, IN A SANDBOX (cutbox-rows.mjs): the forced cells as the released guide's own fill.sh prints them over the translation f27390af05a79565… (all of the seat's roots in one cut). By AI agents, Wed Nov 11 2026. No macro, syntax, notation, axiom, sorry.
-/
import Derived.Test.YtcapbkihjjhkjaaChecked
import GoSem.Claim
import GoSem.ClaimJoined
import GoSem.ClaimMapViews
import Derived.JoinedTies
import Derived.KernelRfl
namespace Go.Proofs.Ytcapbkihjjhkjaa
/- THE CELL 'sum', in the pinned program and in every row, IS THE sha256 OF THE DUMP (.gsa) THAT YtcapbkihjjhkjaaProg.lean LOADS. Nothing in Lean hashes anything: it is a label: what it is worth is what the hold of that sum in a sandbox is worth. -/
noncomputable def Try.pinned : Pinned := { name := "ytcapbkihjjhkjaa", sum := "f27390af05a795651a137d92d8edadc96c749890dbc567ba60e58a2f53871b58", checked := Try.checked }
namespace Rows
def none {H : Type} : Left H := { results := [], args := [] }

/-- 'tidehalllaw04.TurnGroup': WHATEVER THE INPUT: true; the input reads as it did. -/
def turnGroupSpec : ChangeSpec := { name := "turnGroup", fn := fun _ => fun
  | [d] => { results := [.lit (.bool true)], args := [d] }
  | _ => none }
def turnGroupRow : OpenClaim := { program := "ytcapbkihjjhkjaa", sum := "f27390af05a795651a137d92d8edadc96c749890dbc567ba60e58a2f53871b58", func := "tidehall/tidehalllaw04.TurnGroup", spec := "turnGroup", unfollowed := true, recurses := true, plainKeys := false, apart := false }
def TurnGroupSaid : Prop := turnGroupRow.holds Try.pinned (OpenSpec.ofChange turnGroupSpec)

/-- ITS FALSE NEIGHBOUR: 'it returns false'. Refute it at one input. -/
def turnGroupWrong : ChangeSpec := { name := "turnGroup", fn := fun _ => fun
  | [d] => { results := [.lit (.bool false)], args := [d] }
  | _ => none }
def TurnGroupWrongFalsely : Prop := turnGroupRow.holds Try.pinned (OpenSpec.ofChange turnGroupWrong)

/-- 'tidehalllaw04.TurnNames': WHATEVER THE INPUT: true; the input reads as it did. -/
def turnNamesSpec : ChangeSpec := { name := "turnNames", fn := fun _ => fun
  | [] => { results := [.lit (.bool true)], args := [] }
  | _ => none }
def turnNamesRow : OpenClaim := { program := "ytcapbkihjjhkjaa", sum := "f27390af05a795651a137d92d8edadc96c749890dbc567ba60e58a2f53871b58", func := "tidehall/tidehalllaw04.TurnNames", spec := "turnNames", unfollowed := true, recurses := true, plainKeys := false, apart := false }
def TurnNamesSaid : Prop := turnNamesRow.holds Try.pinned (OpenSpec.ofChange turnNamesSpec)

/-- ITS FALSE NEIGHBOUR: 'it returns false'. Refute it at one input. -/
def turnNamesWrong : ChangeSpec := { name := "turnNames", fn := fun _ => fun
  | [] => { results := [.lit (.bool false)], args := [] }
  | _ => none }
def TurnNamesWrongFalsely : Prop := turnNamesRow.holds Try.pinned (OpenSpec.ofChange turnNamesWrong)

/-- 'tidehalllaw04.TurnFits': WHATEVER THE INPUT: true; the input reads as it did. -/
def turnFitsSpec : ChangeSpec := { name := "turnFits", fn := fun _ => fun
  | [d1, d2, d3, d4] => { results := [.lit (.bool true)], args := [d1, d2, d3, d4] }
  | _ => none }
def turnFitsRow : OpenClaim := { program := "ytcapbkihjjhkjaa", sum := "f27390af05a795651a137d92d8edadc96c749890dbc567ba60e58a2f53871b58", func := "tidehall/tidehalllaw04.TurnFits", spec := "turnFits", unfollowed := true, recurses := true, plainKeys := false, apart := false }
def TurnFitsSaid : Prop := turnFitsRow.holds Try.pinned (OpenSpec.ofChange turnFitsSpec)

/-- ITS FALSE NEIGHBOUR: 'it returns false'. Refute it at one input. -/
def turnFitsWrong : ChangeSpec := { name := "turnFits", fn := fun _ => fun
  | [d1, d2, d3, d4] => { results := [.lit (.bool false)], args := [d1, d2, d3, d4] }
  | _ => none }
def TurnFitsWrongFalsely : Prop := turnFitsRow.holds Try.pinned (OpenSpec.ofChange turnFitsWrong)

/-- 'tidehalllaw04.TurnTells': WHATEVER THE INPUT: true; the input reads as it did. -/
def turnTellsSpec : ChangeSpec := { name := "turnTells", fn := fun _ => fun
  | [d1, d2, d3, d4] => { results := [.lit (.bool true)], args := [d1, d2, d3, d4] }
  | _ => none }
def turnTellsRow : OpenClaim := { program := "ytcapbkihjjhkjaa", sum := "f27390af05a795651a137d92d8edadc96c749890dbc567ba60e58a2f53871b58", func := "tidehall/tidehalllaw04.TurnTells", spec := "turnTells", unfollowed := true, recurses := true, plainKeys := false, apart := false }
def TurnTellsSaid : Prop := turnTellsRow.holds Try.pinned (OpenSpec.ofChange turnTellsSpec)

/-- ITS FALSE NEIGHBOUR: 'it returns false'. Refute it at one input. -/
def turnTellsWrong : ChangeSpec := { name := "turnTells", fn := fun _ => fun
  | [d1, d2, d3, d4] => { results := [.lit (.bool false)], args := [d1, d2, d3, d4] }
  | _ => none }
def TurnTellsWrongFalsely : Prop := turnTellsRow.holds Try.pinned (OpenSpec.ofChange turnTellsWrong)

/- THE SECOND FORM. 'bulk': how many values and letters a reading holds, each counted each time it is reached (what is shared counts as often as it is met; a slice's spare places count too). A statement '..UptoSaid' is the law's where the arguments, and the package variables that the reading takes, are together of bulk at most 1048576: NARROWER than '..Said'. Prove '..Said' where nothing that the law and all that it calls make is longer than what came in: it says more and counts as full. Else prove '..UptoSaid'. A law counts once. -/
mutual
def uptoBulk {H : Type} : DataW H → Nat
  | .lit (.string bytes) => bytes.length + 1
  | .lit _ => 1
  | .nil => 1
  | .ptr d => uptoBulk d + 1
  | .slice elems spare => uptoBulkAll elems + uptoBulkAll spare + 1
  | .agg parts => uptoBulkAll parts + 1
  | .iface _ d => uptoBulk d + 1
  | .map entries => uptoBulkEntries entries + 1
  | .held _ => 1
def uptoBulkAll {H : Type} : List (DataW H) → Nat
  | [] => 0
  | d :: r => uptoBulk d + uptoBulkAll r
def uptoBulkEntries {H : Type} : List (Lit × DataW H) → Nat
  | [] => 0
  | x :: r => uptoBulkEntry x + uptoBulkEntries r
def uptoBulkEntry {H : Type} : Lit × DataW H → Nat
  | (.string bytes, d) => bytes.length + uptoBulk d + 1
  | (_, d) => uptoBulk d + 1
 end
def uptoSmall : (H : Type) → List (DataW H) → Bool := fun _ ds => decide (uptoBulkAll ds ≤ 1048576)
def OpenSpec.upto (s : _root_.Go.ChangeSpec) : _root_.Go.OpenSpec := { _root_.Go.OpenSpec.ofChange s with cond := some uptoSmall }

/-- 'tidehalllaw04.TurnGroup', WHERE WHAT IT READS IS OF BULK AT MOST 1048576: true; the input reads as it did. -/
def turnGroupUptoRow : OpenClaim := { program := "ytcapbkihjjhkjaa", sum := "f27390af05a795651a137d92d8edadc96c749890dbc567ba60e58a2f53871b58", func := "tidehall/tidehalllaw04.TurnGroup", spec := "turnGroup", unfollowed := true, recurses := true, plainKeys := false, apart := false, narrowed := true }
def TurnGroupUptoSaid : Prop := turnGroupUptoRow.holds Try.pinned (OpenSpec.upto turnGroupSpec)

/-- 'tidehalllaw04.TurnNames', WHERE WHAT IT READS IS OF BULK AT MOST 1048576: true; the input reads as it did. -/
def turnNamesUptoRow : OpenClaim := { program := "ytcapbkihjjhkjaa", sum := "f27390af05a795651a137d92d8edadc96c749890dbc567ba60e58a2f53871b58", func := "tidehall/tidehalllaw04.TurnNames", spec := "turnNames", unfollowed := true, recurses := true, plainKeys := false, apart := false, narrowed := true }
def TurnNamesUptoSaid : Prop := turnNamesUptoRow.holds Try.pinned (OpenSpec.upto turnNamesSpec)

/-- 'tidehalllaw04.TurnFits', WHERE WHAT IT READS IS OF BULK AT MOST 1048576: true; the input reads as it did. -/
def turnFitsUptoRow : OpenClaim := { program := "ytcapbkihjjhkjaa", sum := "f27390af05a795651a137d92d8edadc96c749890dbc567ba60e58a2f53871b58", func := "tidehall/tidehalllaw04.TurnFits", spec := "turnFits", unfollowed := true, recurses := true, plainKeys := false, apart := false, narrowed := true }
def TurnFitsUptoSaid : Prop := turnFitsUptoRow.holds Try.pinned (OpenSpec.upto turnFitsSpec)

/-- 'tidehalllaw04.TurnTells', WHERE WHAT IT READS IS OF BULK AT MOST 1048576: true; the input reads as it did. -/
def turnTellsUptoRow : OpenClaim := { program := "ytcapbkihjjhkjaa", sum := "f27390af05a795651a137d92d8edadc96c749890dbc567ba60e58a2f53871b58", func := "tidehall/tidehalllaw04.TurnTells", spec := "turnTells", unfollowed := true, recurses := true, plainKeys := false, apart := false, narrowed := true }
def TurnTellsUptoSaid : Prop := turnTellsUptoRow.holds Try.pinned (OpenSpec.upto turnTellsSpec)

end Rows
end Go.Proofs.Ytcapbkihjjhkjaa
