/- A region that draws its order and only reads (and calls what makes memory): a load of a whole box, of a whole row's element, in one step. No conditions but those named. -/
import Derived.BigQuiet
import Derived.Lib.QuietBelow
import Derived.Laws.Rows
import Derived.Deep.MidRow
import Derived.Test.YtaldgmmmcbikgaaMem
namespace Go.Proofs.Ytaldgmmmcbikgaa.QuietRow
open Go.Sort Go.RowKit Mem
set_option linter.unusedVariables false

theorem quiet_load_row {P : Program} {ops : Array Oper} {w : World} {Q : Act → Prop} {rest : List Oper} {o : Oper} {a : Act} (hw : Region.wanted o (yielded ops a.tmps) = true) (ty : TypeId) (x : Operand) (ho : o.op = .load ty x) (g : Nat) (hx : a.eval x = .pointer (some ⟨g, 0, none⟩))
    (t : TypeId) (cs : Array Value) (hk : Blk w g t cs) (d : TypeDesc) (hu : P.underlying ty = some d) (hd : (match d with | .struct _ | .array _ _ => true | _ => false) = true) (hi : (P.info? ty).map (·.size) = some cs.size)
    (h : wpQuiet P ops (fun w' => ∃ p : Regrown, w' = grow (redrawn w p.d) p.os) Q rest (a.put o.dst (.agg cs))) : wpQuiet P ops (fun w' => ∃ p : Regrown, w' = grow (redrawn w p.d) p.os) Q (o :: rest) a := by
  refine BigFrame.wpQuiet_want hw fun K hK => ⟨.agg cs, fun w' hw' => ?_, hK _ h⟩
  obtain ⟨p, rfl⟩ := hw'
  have hg : (grow (redrawn w p.d) p.os).heap[g]? = some (.cells cs t (0, 0)) := ((below_regrown w p.d p.os).block g hk.lt).trans hk
  unfold Oper.quietAt execOp
  simp only [ho, hx, Instr.loadAt, Instr.sureAddr, Sem.run_bind, Sem.run_pure, Result.andThen_ok, run_loadVar_row _ g t ty cs (0, 0) d hg hu hd hi]
  exact ⟨rfl, rfl⟩
theorem quiet_load_mid {P : Program} {ops : Array Oper} {w : World} {Q : Act → Prop} {rest : List Oper} {o : Oper} {a : Act} (hw : Region.wanted o (yielded ops a.tmps) = true) (ty : TypeId) (x : Operand) (ho : o.op = .load ty x) (b off : Nat) (hx : a.eval x = .pointer (some ⟨b, off, none⟩))
    (cs : List Value) (hc : w.rangeAt b off cs) (d : TypeDesc) (hu : P.underlying ty = some d) (hd : d.isRow = true) (hi : (P.info? ty).map (·.size) = some cs.length)
    (h : wpQuiet P ops (fun w' => ∃ p : Regrown, w' = grow (redrawn w p.d) p.os) Q rest (a.put o.dst (.agg cs.toArray))) : wpQuiet P ops (fun w' => ∃ p : Regrown, w' = grow (redrawn w p.d) p.os) Q (o :: rest) a := by
  refine BigFrame.wpQuiet_want hw fun K hK => ⟨.agg cs.toArray, fun w' hw' => ?_, hK _ h⟩
  obtain ⟨p, rfl⟩ := hw'
  have hc' : (grow (redrawn w p.d) p.os).rangeAt b off cs := fun j v hj => cell_regrown (hc j v hj) _ _
  unfold Oper.quietAt execOp
  simp only [ho, hx, Instr.loadAt, Instr.sureAddr, Sem.run_bind, Sem.run_pure, Result.andThen_ok, run_loadVar_mid _ b off ty cs d hc' hu hd hi]
  exact ⟨rfl, rfl⟩
end Go.Proofs.Ytaldgmmmcbikgaa.QuietRow
