/-
  No cell of these rows narrows 'for every input' (looked for: loops, veiled, ifaces, maps, wideKeys, modest, calm, conditions, laid).
  DERIVED. THE GIVEN ROWS OF THIS SEAT. 5 by the template 'for every input the law returns true; each argument reads behind the call as it read before'; 0 by the template 'total and deterministic' (their statements: YtbmdmhmdjidflaaTotals.lean).
  GIVEN WITH THE SEED: the statements are not yours to turn. If you find one false, say at which input.
  Laid BY PROGRAM, IN A SANDBOX (cutbox-rows.mjs): the forced cells as the released guide's own fill.sh prints them over the translation 9024f695fffa7411… (all of the seat's roots in one cut). By AI agents, Wed Nov 11 2026. No macro, syntax, notation, axiom, sorry.
-/
import Derived.Test.YtbmdmhmdjidflaaChecked
import GoSem.Claim
import GoSem.ClaimJoined
import GoSem.ClaimMapViews
import Derived.JoinedTies
import Derived.KernelRfl
namespace Go.Proofs.Ytbmdmhmdjidflaa
/- THE CELL 'sum', in the pinned program and in every row, IS THE sha256 OF THE DUMP (.gsa) THAT YtbmdmhmdjidflaaProg.lean LOADS. Nothing in Lean hashes anything: it is a label: what it is worth is what the hold of that sum in a sandbox is worth. -/
noncomputable def Try.pinned : Pinned := { name := "ytbmdmhmdjidflaa", sum := "9024f695fffa74111abe0f96cccd4b385c1fbc6815a065c43844606c6358f40c", checked := Try.checked }
namespace Rows
def none {H : Type} : Left H := { results := [], args := [] }

/-- 'tidehalllaw07.TimeNames': WHATEVER THE INPUT: true; the input reads as it did. -/
def timeNamesSpec : ChangeSpec := { name := "timeNames", fn := fun _ => fun
  | [] => { results := [.lit (.bool true)], args := [] }
  | _ => none }
def timeNamesRow : OpenClaim := { program := "ytbmdmhmdjidflaa", sum := "9024f695fffa74111abe0f96cccd4b385c1fbc6815a065c43844606c6358f40c", func := "tidehall/tidehalllaw07.TimeNames", spec := "timeNames", unfollowed := true, recurses := true, apart := false }
def TimeNamesSaid : Prop := timeNamesRow.holds Try.pinned (OpenSpec.ofChange timeNamesSpec)

/-- ITS FALSE NEIGHBOUR: 'it returns false'. Refute it at one input. -/
def timeNamesWrong : ChangeSpec := { name := "timeNames", fn := fun _ => fun
  | [] => { results := [.lit (.bool false)], args := [] }
  | _ => none }
def TimeNamesWrongFalsely : Prop := timeNamesRow.holds Try.pinned (OpenSpec.ofChange timeNamesWrong)

/-- 'tidehalllaw07.TimeSums': WHATEVER THE INPUT: true; the input reads as it did. -/
def timeSumsSpec : ChangeSpec := { name := "timeSums", fn := fun _ => fun
  | [d1, d2, d3] => { results := [.lit (.bool true)], args := [d1, d2, d3] }
  | _ => none }
def timeSumsRow : OpenClaim := { program := "ytbmdmhmdjidflaa", sum := "9024f695fffa74111abe0f96cccd4b385c1fbc6815a065c43844606c6358f40c", func := "tidehall/tidehalllaw07.TimeSums", spec := "timeSums", unfollowed := true, recurses := true, apart := false }
def TimeSumsSaid : Prop := timeSumsRow.holds Try.pinned (OpenSpec.ofChange timeSumsSpec)

/-- ITS FALSE NEIGHBOUR: 'it returns false'. Refute it at one input. -/
def timeSumsWrong : ChangeSpec := { name := "timeSums", fn := fun _ => fun
  | [d1, d2, d3] => { results := [.lit (.bool false)], args := [d1, d2, d3] }
  | _ => none }
def TimeSumsWrongFalsely : Prop := timeSumsRow.holds Try.pinned (OpenSpec.ofChange timeSumsWrong)

/-- 'tidehalllaw07.TimeMeets': WHATEVER THE INPUT: true; the input reads as it did. -/
def timeMeetsSpec : ChangeSpec := { name := "timeMeets", fn := fun _ => fun
  | [d1, d2, d3] => { results := [.lit (.bool true)], args := [d1, d2, d3] }
  | _ => none }
def timeMeetsRow : OpenClaim := { program := "ytbmdmhmdjidflaa", sum := "9024f695fffa74111abe0f96cccd4b385c1fbc6815a065c43844606c6358f40c", func := "tidehall/tidehalllaw07.TimeMeets", spec := "timeMeets", unfollowed := true, recurses := true, apart := false }
def TimeMeetsSaid : Prop := timeMeetsRow.holds Try.pinned (OpenSpec.ofChange timeMeetsSpec)

/-- ITS FALSE NEIGHBOUR: 'it returns false'. Refute it at one input. -/
def timeMeetsWrong : ChangeSpec := { name := "timeMeets", fn := fun _ => fun
  | [d1, d2, d3] => { results := [.lit (.bool false)], args := [d1, d2, d3] }
  | _ => none }
def TimeMeetsWrongFalsely : Prop := timeMeetsRow.holds Try.pinned (OpenSpec.ofChange timeMeetsWrong)

/-- 'tidehalllaw07.TimeFrom': WHATEVER THE INPUT: true; the input reads as it did. -/
def timeFromSpec : ChangeSpec := { name := "timeFrom", fn := fun _ => fun
  | [d1, d2, d3] => { results := [.lit (.bool true)], args := [d1, d2, d3] }
  | _ => none }
def timeFromRow : OpenClaim := { program := "ytbmdmhmdjidflaa", sum := "9024f695fffa74111abe0f96cccd4b385c1fbc6815a065c43844606c6358f40c", func := "tidehall/tidehalllaw07.TimeFrom", spec := "timeFrom", unfollowed := true, recurses := true, apart := false }
def TimeFromSaid : Prop := timeFromRow.holds Try.pinned (OpenSpec.ofChange timeFromSpec)

/-- ITS FALSE NEIGHBOUR: 'it returns false'. Refute it at one input. -/
def timeFromWrong : ChangeSpec := { name := "timeFrom", fn := fun _ => fun
  | [d1, d2, d3] => { results := [.lit (.bool false)], args := [d1, d2, d3] }
  | _ => none }
def TimeFromWrongFalsely : Prop := timeFromRow.holds Try.pinned (OpenSpec.ofChange timeFromWrong)

/-- 'tidehalllaw07.TimeTells': WHATEVER THE INPUT: true; the input reads as it did. -/
def timeTellsSpec : ChangeSpec := { name := "timeTells", fn := fun _ => fun
  | [d1, d2, d3, d4] => { results := [.lit (.bool true)], args := [d1, d2, d3, d4] }
  | _ => none }
def timeTellsRow : OpenClaim := { program := "ytbmdmhmdjidflaa", sum := "9024f695fffa74111abe0f96cccd4b385c1fbc6815a065c43844606c6358f40c", func := "tidehall/tidehalllaw07.TimeTells", spec := "timeTells", unfollowed := true, recurses := true, apart := false }
def TimeTellsSaid : Prop := timeTellsRow.holds Try.pinned (OpenSpec.ofChange timeTellsSpec)

/-- ITS FALSE NEIGHBOUR: 'it returns false'. Refute it at one input. -/
def timeTellsWrong : ChangeSpec := { name := "timeTells", fn := fun _ => fun
  | [d1, d2, d3, d4] => { results := [.lit (.bool false)], args := [d1, d2, d3, d4] }
  | _ => none }
def TimeTellsWrongFalsely : Prop := timeTellsRow.holds Try.pinned (OpenSpec.ofChange timeTellsWrong)

/- THE SECOND FORM. 'bulk': how many values and letters a reading holds, each counted each time it is reached (what is shared counts as often as it is met; a slice's spare places count too). A statement '..UptoSaid' is the law's where the arguments, and the package variables that the reading takes, are together of bulk at most 1048576: NARROWER than '..Said'. Prove '..Said' where nothing that the law and all that it calls make is longer than what came in: it says more and counts as full. Else prove '..UptoSaid'. A law counts once. -/
mutual
def uptoBulk {H : Type} : DataW H → Nat
  | .lit (.string bytes) => bytes.length + 1
  | .lit _ => 1
  | .nil => 1
  | .ptr d => uptoBulk d + 1
  | .slice elems spare => uptoBulkAll elems + uptoBulkAll spare + 1
  | .agg parts => uptoBulkAll parts + 1
  | .iface _ d => uptoBulk d + 1
  | .map entries => uptoBulkEntries entries + 1
  | .held _ => 1
def uptoBulkAll {H : Type} : List (DataW H) → Nat
  | [] => 0
  | d :: r => uptoBulk d + uptoBulkAll r
def uptoBulkEntries {H : Type} : List (Lit × DataW H) → Nat
  | [] => 0
  | x :: r => uptoBulkEntry x + uptoBulkEntries r
def uptoBulkEntry {H : Type} : Lit × DataW H → Nat
  | (.string bytes, d) => bytes.length + uptoBulk d + 1
  | (_, d) => uptoBulk d + 1
 end
def uptoSmall : (H : Type) → List (DataW H) → Bool := fun _ ds => decide (uptoBulkAll ds ≤ 1048576)
def OpenSpec.upto (s : _root_.Go.ChangeSpec) : _root_.Go.OpenSpec := { _root_.Go.OpenSpec.ofChange s with cond := some uptoSmall }

/-- 'tidehalllaw07.TimeNames', WHERE WHAT IT READS IS OF BULK AT MOST 1048576: true; the input reads as it did. -/
def timeNamesUptoRow : OpenClaim := { program := "ytbmdmhmdjidflaa", sum := "9024f695fffa74111abe0f96cccd4b385c1fbc6815a065c43844606c6358f40c", func := "tidehall/tidehalllaw07.TimeNames", spec := "timeNames", unfollowed := true, recurses := true, apart := false, narrowed := true }
def TimeNamesUptoSaid : Prop := timeNamesUptoRow.holds Try.pinned (OpenSpec.upto timeNamesSpec)

/-- 'tidehalllaw07.TimeSums', WHERE WHAT IT READS IS OF BULK AT MOST 1048576: true; the input reads as it did. -/
def timeSumsUptoRow : OpenClaim := { program := "ytbmdmhmdjidflaa", sum := "9024f695fffa74111abe0f96cccd4b385c1fbc6815a065c43844606c6358f40c", func := "tidehall/tidehalllaw07.TimeSums", spec := "timeSums", unfollowed := true, recurses := true, apart := false, narrowed := true }
def TimeSumsUptoSaid : Prop := timeSumsUptoRow.holds Try.pinned (OpenSpec.upto timeSumsSpec)

/-- 'tidehalllaw07.TimeMeets', WHERE WHAT IT READS IS OF BULK AT MOST 1048576: true; the input reads as it did. -/
def timeMeetsUptoRow : OpenClaim := { program := "ytbmdmhmdjidflaa", sum := "9024f695fffa74111abe0f96cccd4b385c1fbc6815a065c43844606c6358f40c", func := "tidehall/tidehalllaw07.TimeMeets", spec := "timeMeets", unfollowed := true, recurses := true, apart := false, narrowed := true }
def TimeMeetsUptoSaid : Prop := timeMeetsUptoRow.holds Try.pinned (OpenSpec.upto timeMeetsSpec)

/-- 'tidehalllaw07.TimeFrom', WHERE WHAT IT READS IS OF BULK AT MOST 1048576: true; the input reads as it did. -/
def timeFromUptoRow : OpenClaim := { program := "ytbmdmhmdjidflaa", sum := "9024f695fffa74111abe0f96cccd4b385c1fbc6815a065c43844606c6358f40c", func := "tidehall/tidehalllaw07.TimeFrom", spec := "timeFrom", unfollowed := true, recurses := true, apart := false, narrowed := true }
def TimeFromUptoSaid : Prop := timeFromUptoRow.holds Try.pinned (OpenSpec.upto timeFromSpec)

/-- 'tidehalllaw07.TimeTells', WHERE WHAT IT READS IS OF BULK AT MOST 1048576: true; the input reads as it did. -/
def timeTellsUptoRow : OpenClaim := { program := "ytbmdmhmdjidflaa", sum := "9024f695fffa74111abe0f96cccd4b385c1fbc6815a065c43844606c6358f40c", func := "tidehall/tidehalllaw07.TimeTells", spec := "timeTells", unfollowed := true, recurses := true, apart := false, narrowed := true }
def TimeTellsUptoSaid : Prop := timeTellsUptoRow.holds Try.pinned (OpenSpec.upto timeTellsSpec)

end Rows
end Go.Proofs.Ytbmdmhmdjidflaa
