/-
  No cell of these rows narrows 'for every input' (looked for: loops, veiled, ifaces, maps, wideKeys, modest, calm, conditions, laid).
  DERIVED. THE GIVEN ROWS OF THIS SEAT. 7 by the template 'for every input the law returns true; each argument reads behind the call as it read before'; 0 by the template 'total and deterministic' (their statements: YtgnaadaihncgeaaTotals.lean).
  GIVEN WITH THE SEED: the statements are not yours to turn. If you find one false, say at which input.
  Laid BY PROGRAM, IN A SANDBOX (cutbox-rows.mjs): the forced cells as the released guide's own fill.sh prints them over the translation c2e1db1766318622… (all of the seat's roots in one cut). By AI agents, Wed Nov 11 2026. No macro, syntax, notation, axiom, sorry.
-/
import Derived.Test.YtgnaadaihncgeaaChecked
import GoSem.Claim
import GoSem.ClaimJoined
import GoSem.ClaimMapViews
import Derived.JoinedTies
import Derived.KernelRfl
namespace Go.Proofs.Ytgnaadaihncgeaa
/- THE CELL 'sum', in the pinned program and in every row, IS THE sha256 OF THE DUMP (.gsa) THAT YtgnaadaihncgeaaProg.lean LOADS. Nothing in Lean hashes anything: it is a label: what it is worth is what the hold of that sum in a sandbox is worth. -/
noncomputable def Try.pinned : Pinned := { name := "ytgnaadaihncgeaa", sum := "c2e1db176631862264f6ad48a7d0a98fbb721080441fed02a2230c20164291be", checked := Try.checked }
namespace Rows
def none {H : Type} : Left H := { results := [], args := [] }

/-- 'tidehalllaw27.MarkJoins': WHATEVER THE INPUT: true; the input reads as it did. -/
def markJoinsSpec : ChangeSpec := { name := "markJoins", fn := fun _ => fun
  | [d1, d2, d3] => { results := [.lit (.bool true)], args := [d1, d2, d3] }
  | _ => none }
def markJoinsRow : OpenClaim := { program := "ytgnaadaihncgeaa", sum := "c2e1db176631862264f6ad48a7d0a98fbb721080441fed02a2230c20164291be", func := "tidehall/tidehalllaw27.MarkJoins", spec := "markJoins", apart := false }
def MarkJoinsSaid : Prop := markJoinsRow.holds Try.pinned (OpenSpec.ofChange markJoinsSpec)

/-- ITS FALSE NEIGHBOUR: 'it returns false'. Refute it at one input. -/
def markJoinsWrong : ChangeSpec := { name := "markJoins", fn := fun _ => fun
  | [d1, d2, d3] => { results := [.lit (.bool false)], args := [d1, d2, d3] }
  | _ => none }
def MarkJoinsWrongFalsely : Prop := markJoinsRow.holds Try.pinned (OpenSpec.ofChange markJoinsWrong)

/-- 'tidehalllaw27.MarkByte': WHATEVER THE INPUT: true; the input reads as it did. -/
def markByteSpec : ChangeSpec := { name := "markByte", fn := fun _ => fun
  | [d1, d2, d3] => { results := [.lit (.bool true)], args := [d1, d2, d3] }
  | _ => none }
def markByteRow : OpenClaim := { program := "ytgnaadaihncgeaa", sum := "c2e1db176631862264f6ad48a7d0a98fbb721080441fed02a2230c20164291be", func := "tidehall/tidehalllaw27.MarkByte", spec := "markByte", unfollowed := true, recurses := true, apart := false }
def MarkByteSaid : Prop := markByteRow.holds Try.pinned (OpenSpec.ofChange markByteSpec)

/-- ITS FALSE NEIGHBOUR: 'it returns false'. Refute it at one input. -/
def markByteWrong : ChangeSpec := { name := "markByte", fn := fun _ => fun
  | [d1, d2, d3] => { results := [.lit (.bool false)], args := [d1, d2, d3] }
  | _ => none }
def MarkByteWrongFalsely : Prop := markByteRow.holds Try.pinned (OpenSpec.ofChange markByteWrong)

/-- 'tidehalllaw27.MarkSwap': WHATEVER THE INPUT: true; the input reads as it did. -/
def markSwapSpec : ChangeSpec := { name := "markSwap", fn := fun _ => fun
  | [d1, d2] => { results := [.lit (.bool true)], args := [d1, d2] }
  | _ => none }
def markSwapRow : OpenClaim := { program := "ytgnaadaihncgeaa", sum := "c2e1db176631862264f6ad48a7d0a98fbb721080441fed02a2230c20164291be", func := "tidehall/tidehalllaw27.MarkSwap", spec := "markSwap", unfollowed := true, recurses := true, apart := false }
def MarkSwapSaid : Prop := markSwapRow.holds Try.pinned (OpenSpec.ofChange markSwapSpec)

/-- ITS FALSE NEIGHBOUR: 'it returns false'. Refute it at one input. -/
def markSwapWrong : ChangeSpec := { name := "markSwap", fn := fun _ => fun
  | [d1, d2] => { results := [.lit (.bool false)], args := [d1, d2] }
  | _ => none }
def MarkSwapWrongFalsely : Prop := markSwapRow.holds Try.pinned (OpenSpec.ofChange markSwapWrong)

/-- 'tidehalllaw27.MarkTells': WHATEVER THE INPUT: true; the input reads as it did. -/
def markTellsSpec : ChangeSpec := { name := "markTells", fn := fun _ => fun
  | [d1, d2, d3] => { results := [.lit (.bool true)], args := [d1, d2, d3] }
  | _ => none }
def markTellsRow : OpenClaim := { program := "ytgnaadaihncgeaa", sum := "c2e1db176631862264f6ad48a7d0a98fbb721080441fed02a2230c20164291be", func := "tidehall/tidehalllaw27.MarkTells", spec := "markTells", unfollowed := true, recurses := true, apart := false }
def MarkTellsSaid : Prop := markTellsRow.holds Try.pinned (OpenSpec.ofChange markTellsSpec)

/-- ITS FALSE NEIGHBOUR: 'it returns false'. Refute it at one input. -/
def markTellsWrong : ChangeSpec := { name := "markTells", fn := fun _ => fun
  | [d1, d2, d3] => { results := [.lit (.bool false)], args := [d1, d2, d3] }
  | _ => none }
def MarkTellsWrongFalsely : Prop := markTellsRow.holds Try.pinned (OpenSpec.ofChange markTellsWrong)

/-- 'tidehalllaw27.MarkApart': WHATEVER THE INPUT: true; the input reads as it did. -/
def markApartSpec : ChangeSpec := { name := "markApart", fn := fun _ => fun
  | [d1, d2, d3] => { results := [.lit (.bool true)], args := [d1, d2, d3] }
  | _ => none }
def markApartRow : OpenClaim := { program := "ytgnaadaihncgeaa", sum := "c2e1db176631862264f6ad48a7d0a98fbb721080441fed02a2230c20164291be", func := "tidehall/tidehalllaw27.MarkApart", spec := "markApart", unfollowed := true, recurses := true, apart := false }
def MarkApartSaid : Prop := markApartRow.holds Try.pinned (OpenSpec.ofChange markApartSpec)

/-- ITS FALSE NEIGHBOUR: 'it returns false'. Refute it at one input. -/
def markApartWrong : ChangeSpec := { name := "markApart", fn := fun _ => fun
  | [d1, d2, d3] => { results := [.lit (.bool false)], args := [d1, d2, d3] }
  | _ => none }
def MarkApartWrongFalsely : Prop := markApartRow.holds Try.pinned (OpenSpec.ofChange markApartWrong)

/-- 'tidehalllaw27.MarkNames': WHATEVER THE INPUT: true; the input reads as it did. -/
def markNamesSpec : ChangeSpec := { name := "markNames", fn := fun _ => fun
  | [] => { results := [.lit (.bool true)], args := [] }
  | _ => none }
def markNamesRow : OpenClaim := { program := "ytgnaadaihncgeaa", sum := "c2e1db176631862264f6ad48a7d0a98fbb721080441fed02a2230c20164291be", func := "tidehall/tidehalllaw27.MarkNames", spec := "markNames", unfollowed := true, recurses := true, apart := false }
def MarkNamesSaid : Prop := markNamesRow.holds Try.pinned (OpenSpec.ofChange markNamesSpec)

/-- ITS FALSE NEIGHBOUR: 'it returns false'. Refute it at one input. -/
def markNamesWrong : ChangeSpec := { name := "markNames", fn := fun _ => fun
  | [] => { results := [.lit (.bool false)], args := [] }
  | _ => none }
def MarkNamesWrongFalsely : Prop := markNamesRow.holds Try.pinned (OpenSpec.ofChange markNamesWrong)

/-- 'tidehalllaw27.MarkCut': WHATEVER THE INPUT: true; the input reads as it did. -/
def markCutSpec : ChangeSpec := { name := "markCut", fn := fun _ => fun
  | [d1, d2] => { results := [.lit (.bool true)], args := [d1, d2] }
  | _ => none }
def markCutRow : OpenClaim := { program := "ytgnaadaihncgeaa", sum := "c2e1db176631862264f6ad48a7d0a98fbb721080441fed02a2230c20164291be", func := "tidehall/tidehalllaw27.MarkCut", spec := "markCut", unfollowed := true, recurses := true, apart := false }
def MarkCutSaid : Prop := markCutRow.holds Try.pinned (OpenSpec.ofChange markCutSpec)

/-- ITS FALSE NEIGHBOUR: 'it returns false'. Refute it at one input. -/
def markCutWrong : ChangeSpec := { name := "markCut", fn := fun _ => fun
  | [d1, d2] => { results := [.lit (.bool false)], args := [d1, d2] }
  | _ => none }
def MarkCutWrongFalsely : Prop := markCutRow.holds Try.pinned (OpenSpec.ofChange markCutWrong)

/- THE SECOND FORM. 'bulk': how many values and letters a reading holds, each counted each time it is reached (what is shared counts as often as it is met; a slice's spare places count too). A statement '..UptoSaid' is the law's where the arguments, and the package variables that the reading takes, are together of bulk at most 1048576: NARROWER than '..Said'. Prove '..Said' where nothing that the law and all that it calls make is longer than what came in: it says more and counts as full. Else prove '..UptoSaid'. A law counts once. -/
mutual
def uptoBulk {H : Type} : DataW H → Nat
  | .lit (.string bytes) => bytes.length + 1
  | .lit _ => 1
  | .nil => 1
  | .ptr d => uptoBulk d + 1
  | .slice elems spare => uptoBulkAll elems + uptoBulkAll spare + 1
  | .agg parts => uptoBulkAll parts + 1
  | .iface _ d => uptoBulk d + 1
  | .map entries => uptoBulkEntries entries + 1
  | .held _ => 1
def uptoBulkAll {H : Type} : List (DataW H) → Nat
  | [] => 0
  | d :: r => uptoBulk d + uptoBulkAll r
def uptoBulkEntries {H : Type} : List (Lit × DataW H) → Nat
  | [] => 0
  | x :: r => uptoBulkEntry x + uptoBulkEntries r
def uptoBulkEntry {H : Type} : Lit × DataW H → Nat
  | (.string bytes, d) => bytes.length + uptoBulk d + 1
  | (_, d) => uptoBulk d + 1
 end
def uptoSmall : (H : Type) → List (DataW H) → Bool := fun _ ds => decide (uptoBulkAll ds ≤ 1048576)
def OpenSpec.upto (s : _root_.Go.ChangeSpec) : _root_.Go.OpenSpec := { _root_.Go.OpenSpec.ofChange s with cond := some uptoSmall }

/-- 'tidehalllaw27.MarkJoins', WHERE WHAT IT READS IS OF BULK AT MOST 1048576: true; the input reads as it did. -/
def markJoinsUptoRow : OpenClaim := { program := "ytgnaadaihncgeaa", sum := "c2e1db176631862264f6ad48a7d0a98fbb721080441fed02a2230c20164291be", func := "tidehall/tidehalllaw27.MarkJoins", spec := "markJoins", apart := false, narrowed := true }
def MarkJoinsUptoSaid : Prop := markJoinsUptoRow.holds Try.pinned (OpenSpec.upto markJoinsSpec)

/-- 'tidehalllaw27.MarkByte', WHERE WHAT IT READS IS OF BULK AT MOST 1048576: true; the input reads as it did. -/
def markByteUptoRow : OpenClaim := { program := "ytgnaadaihncgeaa", sum := "c2e1db176631862264f6ad48a7d0a98fbb721080441fed02a2230c20164291be", func := "tidehall/tidehalllaw27.MarkByte", spec := "markByte", unfollowed := true, recurses := true, apart := false, narrowed := true }
def MarkByteUptoSaid : Prop := markByteUptoRow.holds Try.pinned (OpenSpec.upto markByteSpec)

/-- 'tidehalllaw27.MarkSwap', WHERE WHAT IT READS IS OF BULK AT MOST 1048576: true; the input reads as it did. -/
def markSwapUptoRow : OpenClaim := { program := "ytgnaadaihncgeaa", sum := "c2e1db176631862264f6ad48a7d0a98fbb721080441fed02a2230c20164291be", func := "tidehall/tidehalllaw27.MarkSwap", spec := "markSwap", unfollowed := true, recurses := true, apart := false, narrowed := true }
def MarkSwapUptoSaid : Prop := markSwapUptoRow.holds Try.pinned (OpenSpec.upto markSwapSpec)

/-- 'tidehalllaw27.MarkTells', WHERE WHAT IT READS IS OF BULK AT MOST 1048576: true; the input reads as it did. -/
def markTellsUptoRow : OpenClaim := { program := "ytgnaadaihncgeaa", sum := "c2e1db176631862264f6ad48a7d0a98fbb721080441fed02a2230c20164291be", func := "tidehall/tidehalllaw27.MarkTells", spec := "markTells", unfollowed := true, recurses := true, apart := false, narrowed := true }
def MarkTellsUptoSaid : Prop := markTellsUptoRow.holds Try.pinned (OpenSpec.upto markTellsSpec)

/-- 'tidehalllaw27.MarkApart', WHERE WHAT IT READS IS OF BULK AT MOST 1048576: true; the input reads as it did. -/
def markApartUptoRow : OpenClaim := { program := "ytgnaadaihncgeaa", sum := "c2e1db176631862264f6ad48a7d0a98fbb721080441fed02a2230c20164291be", func := "tidehall/tidehalllaw27.MarkApart", spec := "markApart", unfollowed := true, recurses := true, apart := false, narrowed := true }
def MarkApartUptoSaid : Prop := markApartUptoRow.holds Try.pinned (OpenSpec.upto markApartSpec)

/-- 'tidehalllaw27.MarkNames', WHERE WHAT IT READS IS OF BULK AT MOST 1048576: true; the input reads as it did. -/
def markNamesUptoRow : OpenClaim := { program := "ytgnaadaihncgeaa", sum := "c2e1db176631862264f6ad48a7d0a98fbb721080441fed02a2230c20164291be", func := "tidehall/tidehalllaw27.MarkNames", spec := "markNames", unfollowed := true, recurses := true, apart := false, narrowed := true }
def MarkNamesUptoSaid : Prop := markNamesUptoRow.holds Try.pinned (OpenSpec.upto markNamesSpec)

/-- 'tidehalllaw27.MarkCut', WHERE WHAT IT READS IS OF BULK AT MOST 1048576: true; the input reads as it did. -/
def markCutUptoRow : OpenClaim := { program := "ytgnaadaihncgeaa", sum := "c2e1db176631862264f6ad48a7d0a98fbb721080441fed02a2230c20164291be", func := "tidehall/tidehalllaw27.MarkCut", spec := "markCut", unfollowed := true, recurses := true, apart := false, narrowed := true }
def MarkCutUptoSaid : Prop := markCutUptoRow.holds Try.pinned (OpenSpec.upto markCutSpec)

end Rows
end Go.Proofs.Ytgnaadaihncgeaa
