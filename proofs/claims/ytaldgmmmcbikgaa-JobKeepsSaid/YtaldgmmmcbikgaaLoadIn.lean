/- Whole structs inside a fence. No conditions but those named. -/
import Derived.ControlIn
import Derived.RangeFuncSeq
import Derived.TacticsIn
import Derived.OwnWalkIn
import Derived.Deep.MidRow
import Derived.Test.YtaldgmmmcbikgaaMem
namespace Go.Proofs.Ytaldgmmmcbikgaa.LoadIn
open Go Go.RowKit Mem
set_option linter.unusedVariables false

variable {F : Fence} {nF : Nat} {P : Program}
theorem wpListIn_load_mid {ops : Array Oper} {rest : List Oper} {op : Oper} {a : Act} {w : World} {Q : Exit → Act → World → Prop} (hgd : op.guard = none) (ty : TypeId) (x : Operand) (ho : op.op = .load ty x)
    (b o : Nat) (hx : a.eval x = .pointer (some ⟨b, o, none⟩)) (cs : List Value) (d : TypeDesc) (hc : w.rangeAt b o cs)
    (hu : P.underlying ty = some d) (hd : d.isRow = true) (hi : (P.info? ty).map (·.size) = some cs.length)
    (h : wpListIn F nF P ops Q rest (a.put op.dst (.agg cs.toArray)) w) : wpListIn F nF P ops Q (op :: rest) a w := by
  refine wpListIn_plain hgd fun K hK => ?_
  unfold Oper.wpIn
  refine ⟨by simp [Oper.about, ho], ?_⟩
  rw [Oper.semAt_plain F _ _ (by rw [ho]; intro c hc'; cases hc')]
  unfold execOp
  simp only [ho, hx, Instr.loadAt, Instr.sureAddr, Sem.run_bind, Sem.run_pure, Result.andThen_ok, run_loadVar_mid w b o ty cs d hc hu hd hi]
  exact hK _ _ h
end Go.Proofs.Ytaldgmmmcbikgaa.LoadIn
