/-
  No cell of these rows narrows 'for every input' (looked for: loops, veiled, ifaces, maps, wideKeys, modest, calm, conditions, laid).
  DERIVED. THE GIVEN ROWS OF THIS SEAT. 6 by the template 'for every input the law returns true; each argument reads behind the call as it read before'; 0 by the template 'total and deterministic' (their statements: YthapginaphdmjaaTotals.lean).
  GIVEN WITH THE SEED: the statements are not yours to turn. If you find one false, say at which input.
  Laid BY PROGRAM, IN A SANDBOX (cutbox-rows.mjs): the forced cells as the released guide's own fill.sh prints them over the translation 276e9475f46a7a5c… (all of the seat's roots in one cut). By AI agents, Wed Nov 11 2026. No macro, syntax, notation, axiom, sorry.
-/
import Derived.Test.YthapginaphdmjaaChecked
import GoSem.Claim
import GoSem.ClaimJoined
import GoSem.ClaimMapViews
import Derived.JoinedTies
import Derived.KernelRfl
namespace Go.Proofs.Ythapginaphdmjaa
/- THE CELL 'sum', in the pinned program and in every row, IS THE sha256 OF THE DUMP (.gsa) THAT YthapginaphdmjaaProg.lean LOADS. Nothing in Lean hashes anything: it is a label: what it is worth is what the hold of that sum in a sandbox is worth. -/
noncomputable def Try.pinned : Pinned := { name := "ythapginaphdmjaa", sum := "276e9475f46a7a5c2908ff8ddf5fb54d40d57c685cdbc80e71e6d41e3d9a1001", checked := Try.checked }
namespace Rows
def none {H : Type} : Left H := { results := [], args := [] }

/-- 'tidehalllaw01.PosTells': WHATEVER THE INPUT: true; the input reads as it did. -/
def posTellsSpec : ChangeSpec := { name := "posTells", fn := fun _ => fun
  | [d1, d2, d3] => { results := [.lit (.bool true)], args := [d1, d2, d3] }
  | _ => none }
def posTellsRow : OpenClaim := { program := "ythapginaphdmjaa", sum := "276e9475f46a7a5c2908ff8ddf5fb54d40d57c685cdbc80e71e6d41e3d9a1001", func := "tidehall/tidehalllaw01.PosTells", spec := "posTells", unfollowed := true, recurses := true, apart := false }
def PosTellsSaid : Prop := posTellsRow.holds Try.pinned (OpenSpec.ofChange posTellsSpec)

/-- ITS FALSE NEIGHBOUR: 'it returns false'. Refute it at one input. -/
def posTellsWrong : ChangeSpec := { name := "posTells", fn := fun _ => fun
  | [d1, d2, d3] => { results := [.lit (.bool false)], args := [d1, d2, d3] }
  | _ => none }
def PosTellsWrongFalsely : Prop := posTellsRow.holds Try.pinned (OpenSpec.ofChange posTellsWrong)

/-- 'tidehalllaw01.PosBack': WHATEVER THE INPUT: true; the input reads as it did. -/
def posBackSpec : ChangeSpec := { name := "posBack", fn := fun _ => fun
  | [d1, d2, d3] => { results := [.lit (.bool true)], args := [d1, d2, d3] }
  | _ => none }
def posBackRow : OpenClaim := { program := "ythapginaphdmjaa", sum := "276e9475f46a7a5c2908ff8ddf5fb54d40d57c685cdbc80e71e6d41e3d9a1001", func := "tidehall/tidehalllaw01.PosBack", spec := "posBack", unfollowed := true, recurses := true, apart := false }
def PosBackSaid : Prop := posBackRow.holds Try.pinned (OpenSpec.ofChange posBackSpec)

/-- ITS FALSE NEIGHBOUR: 'it returns false'. Refute it at one input. -/
def posBackWrong : ChangeSpec := { name := "posBack", fn := fun _ => fun
  | [d1, d2, d3] => { results := [.lit (.bool false)], args := [d1, d2, d3] }
  | _ => none }
def PosBackWrongFalsely : Prop := posBackRow.holds Try.pinned (OpenSpec.ofChange posBackWrong)

/-- 'tidehalllaw01.PosRound': WHATEVER THE INPUT: true; the input reads as it did. -/
def posRoundSpec : ChangeSpec := { name := "posRound", fn := fun _ => fun
  | [d1, d2, d3, d4, d5, d6] => { results := [.lit (.bool true)], args := [d1, d2, d3, d4, d5, d6] }
  | _ => none }
def posRoundRow : OpenClaim := { program := "ythapginaphdmjaa", sum := "276e9475f46a7a5c2908ff8ddf5fb54d40d57c685cdbc80e71e6d41e3d9a1001", func := "tidehall/tidehalllaw01.PosRound", spec := "posRound", unfollowed := true, recurses := true, apart := false }
def PosRoundSaid : Prop := posRoundRow.holds Try.pinned (OpenSpec.ofChange posRoundSpec)

/-- ITS FALSE NEIGHBOUR: 'it returns false'. Refute it at one input. -/
def posRoundWrong : ChangeSpec := { name := "posRound", fn := fun _ => fun
  | [d1, d2, d3, d4, d5, d6] => { results := [.lit (.bool false)], args := [d1, d2, d3, d4, d5, d6] }
  | _ => none }
def PosRoundWrongFalsely : Prop := posRoundRow.holds Try.pinned (OpenSpec.ofChange posRoundWrong)

/-- 'tidehalllaw01.PosNames': WHATEVER THE INPUT: true; the input reads as it did. -/
def posNamesSpec : ChangeSpec := { name := "posNames", fn := fun _ => fun
  | [] => { results := [.lit (.bool true)], args := [] }
  | _ => none }
def posNamesRow : OpenClaim := { program := "ythapginaphdmjaa", sum := "276e9475f46a7a5c2908ff8ddf5fb54d40d57c685cdbc80e71e6d41e3d9a1001", func := "tidehall/tidehalllaw01.PosNames", spec := "posNames", unfollowed := true, recurses := true, apart := false }
def PosNamesSaid : Prop := posNamesRow.holds Try.pinned (OpenSpec.ofChange posNamesSpec)

/-- ITS FALSE NEIGHBOUR: 'it returns false'. Refute it at one input. -/
def posNamesWrong : ChangeSpec := { name := "posNames", fn := fun _ => fun
  | [] => { results := [.lit (.bool false)], args := [] }
  | _ => none }
def PosNamesWrongFalsely : Prop := posNamesRow.holds Try.pinned (OpenSpec.ofChange posNamesWrong)

/-- 'tidehalllaw01.PosSteps': WHATEVER THE INPUT: true; the input reads as it did. -/
def posStepsSpec : ChangeSpec := { name := "posSteps", fn := fun _ => fun
  | [d1, d2, d3, d4, d5] => { results := [.lit (.bool true)], args := [d1, d2, d3, d4, d5] }
  | _ => none }
def posStepsRow : OpenClaim := { program := "ythapginaphdmjaa", sum := "276e9475f46a7a5c2908ff8ddf5fb54d40d57c685cdbc80e71e6d41e3d9a1001", func := "tidehall/tidehalllaw01.PosSteps", spec := "posSteps", unfollowed := true, recurses := true, apart := false }
def PosStepsSaid : Prop := posStepsRow.holds Try.pinned (OpenSpec.ofChange posStepsSpec)

/-- ITS FALSE NEIGHBOUR: 'it returns false'. Refute it at one input. -/
def posStepsWrong : ChangeSpec := { name := "posSteps", fn := fun _ => fun
  | [d1, d2, d3, d4, d5] => { results := [.lit (.bool false)], args := [d1, d2, d3, d4, d5] }
  | _ => none }
def PosStepsWrongFalsely : Prop := posStepsRow.holds Try.pinned (OpenSpec.ofChange posStepsWrong)

/-- 'tidehalllaw01.PosFar': WHATEVER THE INPUT: true; the input reads as it did. -/
def posFarSpec : ChangeSpec := { name := "posFar", fn := fun _ => fun
  | [d1, d2, d3, d4] => { results := [.lit (.bool true)], args := [d1, d2, d3, d4] }
  | _ => none }
def posFarRow : OpenClaim := { program := "ythapginaphdmjaa", sum := "276e9475f46a7a5c2908ff8ddf5fb54d40d57c685cdbc80e71e6d41e3d9a1001", func := "tidehall/tidehalllaw01.PosFar", spec := "posFar", unfollowed := true, recurses := true, apart := false }
def PosFarSaid : Prop := posFarRow.holds Try.pinned (OpenSpec.ofChange posFarSpec)

/-- ITS FALSE NEIGHBOUR: 'it returns false'. Refute it at one input. -/
def posFarWrong : ChangeSpec := { name := "posFar", fn := fun _ => fun
  | [d1, d2, d3, d4] => { results := [.lit (.bool false)], args := [d1, d2, d3, d4] }
  | _ => none }
def PosFarWrongFalsely : Prop := posFarRow.holds Try.pinned (OpenSpec.ofChange posFarWrong)

/- THE SECOND FORM. 'bulk': how many values and letters a reading holds, each counted each time it is reached (what is shared counts as often as it is met; a slice's spare places count too). A statement '..UptoSaid' is the law's where the arguments, and the package variables that the reading takes, are together of bulk at most 1048576: NARROWER than '..Said'. Prove '..Said' where nothing that the law and all that it calls make is longer than what came in: it says more and counts as full. Else prove '..UptoSaid'. A law counts once. -/
mutual
def uptoBulk {H : Type} : DataW H → Nat
  | .lit (.string bytes) => bytes.length + 1
  | .lit _ => 1
  | .nil => 1
  | .ptr d => uptoBulk d + 1
  | .slice elems spare => uptoBulkAll elems + uptoBulkAll spare + 1
  | .agg parts => uptoBulkAll parts + 1
  | .iface _ d => uptoBulk d + 1
  | .map entries => uptoBulkEntries entries + 1
  | .held _ => 1
def uptoBulkAll {H : Type} : List (DataW H) → Nat
  | [] => 0
  | d :: r => uptoBulk d + uptoBulkAll r
def uptoBulkEntries {H : Type} : List (Lit × DataW H) → Nat
  | [] => 0
  | x :: r => uptoBulkEntry x + uptoBulkEntries r
def uptoBulkEntry {H : Type} : Lit × DataW H → Nat
  | (.string bytes, d) => bytes.length + uptoBulk d + 1
  | (_, d) => uptoBulk d + 1
 end
def uptoSmall : (H : Type) → List (DataW H) → Bool := fun _ ds => decide (uptoBulkAll ds ≤ 1048576)
def OpenSpec.upto (s : _root_.Go.ChangeSpec) : _root_.Go.OpenSpec := { _root_.Go.OpenSpec.ofChange s with cond := some uptoSmall }

/-- 'tidehalllaw01.PosTells', WHERE WHAT IT READS IS OF BULK AT MOST 1048576: true; the input reads as it did. -/
def posTellsUptoRow : OpenClaim := { program := "ythapginaphdmjaa", sum := "276e9475f46a7a5c2908ff8ddf5fb54d40d57c685cdbc80e71e6d41e3d9a1001", func := "tidehall/tidehalllaw01.PosTells", spec := "posTells", unfollowed := true, recurses := true, apart := false, narrowed := true }
def PosTellsUptoSaid : Prop := posTellsUptoRow.holds Try.pinned (OpenSpec.upto posTellsSpec)

/-- 'tidehalllaw01.PosBack', WHERE WHAT IT READS IS OF BULK AT MOST 1048576: true; the input reads as it did. -/
def posBackUptoRow : OpenClaim := { program := "ythapginaphdmjaa", sum := "276e9475f46a7a5c2908ff8ddf5fb54d40d57c685cdbc80e71e6d41e3d9a1001", func := "tidehall/tidehalllaw01.PosBack", spec := "posBack", unfollowed := true, recurses := true, apart := false, narrowed := true }
def PosBackUptoSaid : Prop := posBackUptoRow.holds Try.pinned (OpenSpec.upto posBackSpec)

/-- 'tidehalllaw01.PosRound', WHERE WHAT IT READS IS OF BULK AT MOST 1048576: true; the input reads as it did. -/
def posRoundUptoRow : OpenClaim := { program := "ythapginaphdmjaa", sum := "276e9475f46a7a5c2908ff8ddf5fb54d40d57c685cdbc80e71e6d41e3d9a1001", func := "tidehall/tidehalllaw01.PosRound", spec := "posRound", unfollowed := true, recurses := true, apart := false, narrowed := true }
def PosRoundUptoSaid : Prop := posRoundUptoRow.holds Try.pinned (OpenSpec.upto posRoundSpec)

/-- 'tidehalllaw01.PosNames', WHERE WHAT IT READS IS OF BULK AT MOST 1048576: true; the input reads as it did. -/
def posNamesUptoRow : OpenClaim := { program := "ythapginaphdmjaa", sum := "276e9475f46a7a5c2908ff8ddf5fb54d40d57c685cdbc80e71e6d41e3d9a1001", func := "tidehall/tidehalllaw01.PosNames", spec := "posNames", unfollowed := true, recurses := true, apart := false, narrowed := true }
def PosNamesUptoSaid : Prop := posNamesUptoRow.holds Try.pinned (OpenSpec.upto posNamesSpec)

/-- 'tidehalllaw01.PosSteps', WHERE WHAT IT READS IS OF BULK AT MOST 1048576: true; the input reads as it did. -/
def posStepsUptoRow : OpenClaim := { program := "ythapginaphdmjaa", sum := "276e9475f46a7a5c2908ff8ddf5fb54d40d57c685cdbc80e71e6d41e3d9a1001", func := "tidehall/tidehalllaw01.PosSteps", spec := "posSteps", unfollowed := true, recurses := true, apart := false, narrowed := true }
def PosStepsUptoSaid : Prop := posStepsUptoRow.holds Try.pinned (OpenSpec.upto posStepsSpec)

/-- 'tidehalllaw01.PosFar', WHERE WHAT IT READS IS OF BULK AT MOST 1048576: true; the input reads as it did. -/
def posFarUptoRow : OpenClaim := { program := "ythapginaphdmjaa", sum := "276e9475f46a7a5c2908ff8ddf5fb54d40d57c685cdbc80e71e6d41e3d9a1001", func := "tidehall/tidehalllaw01.PosFar", spec := "posFar", unfollowed := true, recurses := true, apart := false, narrowed := true }
def PosFarUptoSaid : Prop := posFarUptoRow.holds Try.pinned (OpenSpec.upto posFarSpec)

end Rows
end Go.Proofs.Ythapginaphdmjaa
