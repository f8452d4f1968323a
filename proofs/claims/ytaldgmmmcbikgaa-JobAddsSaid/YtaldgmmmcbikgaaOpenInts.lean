/- An argument that is a slice of numbers. No conditions but those named. -/
import Derived.Test.YtaldgmmmcbikgaaOpenJob
namespace Go.Proofs.Ytaldgmmmcbikgaa.Lay
open Go.ChangeShapes Go.WideShapes Go.ChangeAt Go.RowKit Go.Joins Go.Deep Mem TurnMath TurnMap JobMath JobMem
set_option linter.unusedVariables false

set_option maxRecDepth 100000 in
theorem open_ints2 {H : Type} {enc : TypeId × Value → H} {W : World} {r : Reach} {b0 : Nat} {v : Value} {d : DataW H} {p : List MemPlace} {held : Bool}
    (hv : Value.okWide Try.prog W r b0 31 v) (h : DataW.Trod enc Try.prog W 0 (fun _ => true) held 31 v d p) :
    ∃ (Y : Option Addr) (c : Nat) (l : List Int), v = .slice Y l.length c ∧ l.length ≤ c ∧ c ≤ maxLen ∧ IntsAt W Y l ∧ ∀ n ∈ l, (Lit.int .i64 n).wf = true := by
  obtain ⟨X, len, cap, rfl⟩ := okWide_slice Try.underlying31 hv
  obtain ⟨fuel, hf⟩ := h
  exact ints_trod (v := .slice X len cap) (by simpa [Value.cells] using hf)
end Go.Proofs.Ytaldgmmmcbikgaa.Lay
