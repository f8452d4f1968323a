/-
  No cell of these rows narrows 'for every input' (looked for: loops, veiled, ifaces, maps, wideKeys, modest, calm, conditions, laid).
  DERIVED. THE GIVEN ROWS OF THIS SEAT. 6 by the template 'for every input the law returns true; each argument reads behind the call as it read before'; 0 by the template 'total and deterministic' (their statements: YtfndopemfhmhgaaTotals.lean).
  GIVEN WITH THE SEED: the statements are not yours to turn. If you find one false, say at which input.
  Laid BY PROGRAM, IN A SANDBOX (cutbox-rows.mjs): the forced cells as the released guide's own fill.sh prints them over the translation d5e1736df7864cdc… (all of the seat's roots in one cut). By AI agents, Wed Nov 11 2026. No macro, syntax, notation, axiom, sorry.
-/
import Derived.Test.YtfndopemfhmhgaaChecked
import GoSem.Claim
import GoSem.ClaimJoined
import GoSem.ClaimMapViews
import Derived.JoinedTies
import Derived.KernelRfl
namespace Go.Proofs.Ytfndopemfhmhgaa
/- THE CELL 'sum', in the pinned program and in every row, IS THE sha256 OF THE DUMP (.gsa) THAT YtfndopemfhmhgaaProg.lean LOADS. Nothing in Lean hashes anything: it is a label: what it is worth is what the hold of that sum in a sandbox is worth. -/
noncomputable def Try.pinned : Pinned := { name := "ytfndopemfhmhgaa", sum := "d5e1736df7864cdcaac12f916d5861bd9ed2632c98469750782e6026eaeeb352", checked := Try.checked }
namespace Rows
def none {H : Type} : Left H := { results := [], args := [] }

/-- 'tidehalllaw16.PartFewer': WHATEVER THE INPUT: true; the input reads as it did. -/
def partFewerSpec : ChangeSpec := { name := "partFewer", fn := fun _ => fun
  | [d] => { results := [.lit (.bool true)], args := [d] }
  | _ => none }
def partFewerRow : OpenClaim := { program := "ytfndopemfhmhgaa", sum := "d5e1736df7864cdcaac12f916d5861bd9ed2632c98469750782e6026eaeeb352", func := "tidehall/tidehalllaw16.PartFewer", spec := "partFewer", unfollowed := true, recurses := true, apart := false }
def PartFewerSaid : Prop := partFewerRow.holds Try.pinned (OpenSpec.ofChange partFewerSpec)

/-- ITS FALSE NEIGHBOUR: 'it returns false'. Refute it at one input. -/
def partFewerWrong : ChangeSpec := { name := "partFewer", fn := fun _ => fun
  | [d] => { results := [.lit (.bool false)], args := [d] }
  | _ => none }
def PartFewerWrongFalsely : Prop := partFewerRow.holds Try.pinned (OpenSpec.ofChange partFewerWrong)

/-- 'tidehalllaw16.PartNames': WHATEVER THE INPUT: true; the input reads as it did. -/
def partNamesSpec : ChangeSpec := { name := "partNames", fn := fun _ => fun
  | [] => { results := [.lit (.bool true)], args := [] }
  | _ => none }
def partNamesRow : OpenClaim := { program := "ytfndopemfhmhgaa", sum := "d5e1736df7864cdcaac12f916d5861bd9ed2632c98469750782e6026eaeeb352", func := "tidehall/tidehalllaw16.PartNames", spec := "partNames", unfollowed := true, recurses := true, apart := false }
def PartNamesSaid : Prop := partNamesRow.holds Try.pinned (OpenSpec.ofChange partNamesSpec)

/-- ITS FALSE NEIGHBOUR: 'it returns false'. Refute it at one input. -/
def partNamesWrong : ChangeSpec := { name := "partNames", fn := fun _ => fun
  | [] => { results := [.lit (.bool false)], args := [] }
  | _ => none }
def PartNamesWrongFalsely : Prop := partNamesRow.holds Try.pinned (OpenSpec.ofChange partNamesWrong)

/-- 'tidehalllaw16.PartDoes': WHATEVER THE INPUT: true; the input reads as it did. -/
def partDoesSpec : ChangeSpec := { name := "partDoes", fn := fun _ => fun
  | [d1, d2, d3, d4, d5] => { results := [.lit (.bool true)], args := [d1, d2, d3, d4, d5] }
  | _ => none }
def partDoesRow : OpenClaim := { program := "ytfndopemfhmhgaa", sum := "d5e1736df7864cdcaac12f916d5861bd9ed2632c98469750782e6026eaeeb352", func := "tidehall/tidehalllaw16.PartDoes", spec := "partDoes", unfollowed := true, recurses := true, apart := false }
def PartDoesSaid : Prop := partDoesRow.holds Try.pinned (OpenSpec.ofChange partDoesSpec)

/-- ITS FALSE NEIGHBOUR: 'it returns false'. Refute it at one input. -/
def partDoesWrong : ChangeSpec := { name := "partDoes", fn := fun _ => fun
  | [d1, d2, d3, d4, d5] => { results := [.lit (.bool false)], args := [d1, d2, d3, d4, d5] }
  | _ => none }
def PartDoesWrongFalsely : Prop := partDoesRow.holds Try.pinned (OpenSpec.ofChange partDoesWrong)

/-- 'tidehalllaw16.PartPromise': WHATEVER THE INPUT: true; the input reads as it did. -/
def partPromiseSpec : ChangeSpec := { name := "partPromise", fn := fun _ => fun
  | [d1, d2, d3, d4, d5] => { results := [.lit (.bool true)], args := [d1, d2, d3, d4, d5] }
  | _ => none }
def partPromiseRow : OpenClaim := { program := "ytfndopemfhmhgaa", sum := "d5e1736df7864cdcaac12f916d5861bd9ed2632c98469750782e6026eaeeb352", func := "tidehall/tidehalllaw16.PartPromise", spec := "partPromise", unfollowed := true, recurses := true, apart := false }
def PartPromiseSaid : Prop := partPromiseRow.holds Try.pinned (OpenSpec.ofChange partPromiseSpec)

/-- ITS FALSE NEIGHBOUR: 'it returns false'. Refute it at one input. -/
def partPromiseWrong : ChangeSpec := { name := "partPromise", fn := fun _ => fun
  | [d1, d2, d3, d4, d5] => { results := [.lit (.bool false)], args := [d1, d2, d3, d4, d5] }
  | _ => none }
def PartPromiseWrongFalsely : Prop := partPromiseRow.holds Try.pinned (OpenSpec.ofChange partPromiseWrong)

/-- 'tidehalllaw16.PartGone': WHATEVER THE INPUT: true; the input reads as it did. -/
def partGoneSpec : ChangeSpec := { name := "partGone", fn := fun _ => fun
  | [d1, d2, d3] => { results := [.lit (.bool true)], args := [d1, d2, d3] }
  | _ => none }
def partGoneRow : OpenClaim := { program := "ytfndopemfhmhgaa", sum := "d5e1736df7864cdcaac12f916d5861bd9ed2632c98469750782e6026eaeeb352", func := "tidehall/tidehalllaw16.PartGone", spec := "partGone", unfollowed := true, recurses := true, apart := false }
def PartGoneSaid : Prop := partGoneRow.holds Try.pinned (OpenSpec.ofChange partGoneSpec)

/-- ITS FALSE NEIGHBOUR: 'it returns false'. Refute it at one input. -/
def partGoneWrong : ChangeSpec := { name := "partGone", fn := fun _ => fun
  | [d1, d2, d3] => { results := [.lit (.bool false)], args := [d1, d2, d3] }
  | _ => none }
def PartGoneWrongFalsely : Prop := partGoneRow.holds Try.pinned (OpenSpec.ofChange partGoneWrong)

/-- 'tidehalllaw16.PartChain': WHATEVER THE INPUT: true; the input reads as it did. -/
def partChainSpec : ChangeSpec := { name := "partChain", fn := fun _ => fun
  | [d1, d2, d3] => { results := [.lit (.bool true)], args := [d1, d2, d3] }
  | _ => none }
def partChainRow : OpenClaim := { program := "ytfndopemfhmhgaa", sum := "d5e1736df7864cdcaac12f916d5861bd9ed2632c98469750782e6026eaeeb352", func := "tidehall/tidehalllaw16.PartChain", spec := "partChain", unfollowed := true, recurses := true, apart := false }
def PartChainSaid : Prop := partChainRow.holds Try.pinned (OpenSpec.ofChange partChainSpec)

/-- ITS FALSE NEIGHBOUR: 'it returns false'. Refute it at one input. -/
def partChainWrong : ChangeSpec := { name := "partChain", fn := fun _ => fun
  | [d1, d2, d3] => { results := [.lit (.bool false)], args := [d1, d2, d3] }
  | _ => none }
def PartChainWrongFalsely : Prop := partChainRow.holds Try.pinned (OpenSpec.ofChange partChainWrong)

/- THE SECOND FORM. 'bulk': how many values and letters a reading holds, each counted each time it is reached (what is shared counts as often as it is met; a slice's spare places count too). A statement '..UptoSaid' is the law's where the arguments, and the package variables that the reading takes, are together of bulk at most 1048576: NARROWER than '..Said'. Prove '..Said' where nothing that the law and all that it calls make is longer than what came in: it says more and counts as full. Else prove '..UptoSaid'. A law counts once. -/
mutual
def uptoBulk {H : Type} : DataW H → Nat
  | .lit (.string bytes) => bytes.length + 1
  | .lit _ => 1
  | .nil => 1
  | .ptr d => uptoBulk d + 1
  | .slice elems spare => uptoBulkAll elems + uptoBulkAll spare + 1
  | .agg parts => uptoBulkAll parts + 1
  | .iface _ d => uptoBulk d + 1
  | .map entries => uptoBulkEntries entries + 1
  | .held _ => 1
def uptoBulkAll {H : Type} : List (DataW H) → Nat
  | [] => 0
  | d :: r => uptoBulk d + uptoBulkAll r
def uptoBulkEntries {H : Type} : List (Lit × DataW H) → Nat
  | [] => 0
  | x :: r => uptoBulkEntry x + uptoBulkEntries r
def uptoBulkEntry {H : Type} : Lit × DataW H → Nat
  | (.string bytes, d) => bytes.length + uptoBulk d + 1
  | (_, d) => uptoBulk d + 1
 end
def uptoSmall : (H : Type) → List (DataW H) → Bool := fun _ ds => decide (uptoBulkAll ds ≤ 1048576)
def OpenSpec.upto (s : _root_.Go.ChangeSpec) : _root_.Go.OpenSpec := { _root_.Go.OpenSpec.ofChange s with cond := some uptoSmall }

/-- 'tidehalllaw16.PartFewer', WHERE WHAT IT READS IS OF BULK AT MOST 1048576: true; the input reads as it did. -/
def partFewerUptoRow : OpenClaim := { program := "ytfndopemfhmhgaa", sum := "d5e1736df7864cdcaac12f916d5861bd9ed2632c98469750782e6026eaeeb352", func := "tidehall/tidehalllaw16.PartFewer", spec := "partFewer", unfollowed := true, recurses := true, apart := false, narrowed := true }
def PartFewerUptoSaid : Prop := partFewerUptoRow.holds Try.pinned (OpenSpec.upto partFewerSpec)

/-- 'tidehalllaw16.PartNames', WHERE WHAT IT READS IS OF BULK AT MOST 1048576: true; the input reads as it did. -/
def partNamesUptoRow : OpenClaim := { program := "ytfndopemfhmhgaa", sum := "d5e1736df7864cdcaac12f916d5861bd9ed2632c98469750782e6026eaeeb352", func := "tidehall/tidehalllaw16.PartNames", spec := "partNames", unfollowed := true, recurses := true, apart := false, narrowed := true }
def PartNamesUptoSaid : Prop := partNamesUptoRow.holds Try.pinned (OpenSpec.upto partNamesSpec)

/-- 'tidehalllaw16.PartDoes', WHERE WHAT IT READS IS OF BULK AT MOST 1048576: true; the input reads as it did. -/
def partDoesUptoRow : OpenClaim := { program := "ytfndopemfhmhgaa", sum := "d5e1736df7864cdcaac12f916d5861bd9ed2632c98469750782e6026eaeeb352", func := "tidehall/tidehalllaw16.PartDoes", spec := "partDoes", unfollowed := true, recurses := true, apart := false, narrowed := true }
def PartDoesUptoSaid : Prop := partDoesUptoRow.holds Try.pinned (OpenSpec.upto partDoesSpec)

/-- 'tidehalllaw16.PartPromise', WHERE WHAT IT READS IS OF BULK AT MOST 1048576: true; the input reads as it did. -/
def partPromiseUptoRow : OpenClaim := { program := "ytfndopemfhmhgaa", sum := "d5e1736df7864cdcaac12f916d5861bd9ed2632c98469750782e6026eaeeb352", func := "tidehall/tidehalllaw16.PartPromise", spec := "partPromise", unfollowed := true, recurses := true, apart := false, narrowed := true }
def PartPromiseUptoSaid : Prop := partPromiseUptoRow.holds Try.pinned (OpenSpec.upto partPromiseSpec)

/-- 'tidehalllaw16.PartGone', WHERE WHAT IT READS IS OF BULK AT MOST 1048576: true; the input reads as it did. -/
def partGoneUptoRow : OpenClaim := { program := "ytfndopemfhmhgaa", sum := "d5e1736df7864cdcaac12f916d5861bd9ed2632c98469750782e6026eaeeb352", func := "tidehall/tidehalllaw16.PartGone", spec := "partGone", unfollowed := true, recurses := true, apart := false, narrowed := true }
def PartGoneUptoSaid : Prop := partGoneUptoRow.holds Try.pinned (OpenSpec.upto partGoneSpec)

/-- 'tidehalllaw16.PartChain', WHERE WHAT IT READS IS OF BULK AT MOST 1048576: true; the input reads as it did. -/
def partChainUptoRow : OpenClaim := { program := "ytfndopemfhmhgaa", sum := "d5e1736df7864cdcaac12f916d5861bd9ed2632c98469750782e6026eaeeb352", func := "tidehall/tidehalllaw16.PartChain", spec := "partChain", unfollowed := true, recurses := true, apart := false, narrowed := true }
def PartChainUptoSaid : Prop := partChainUptoRow.holds Try.pinned (OpenSpec.upto partChainSpec)

end Rows
end Go.Proofs.Ytfndopemfhmhgaa
