/- A map whose keys are wants: what it holds, how it is written, how it is ranged over. No conditions but those named. -/
import Derived.DeepKeys4
import Derived.Maps.RangeRun
import Derived.Laws.IdiomRangeMap
import Derived.Test.YtaldgmmmcbikgaaFrame
import Derived.Test.YtaldgmmmcbikgaaSeqKit
import Derived.Test.YtaldgmmmcbikgaaTurnMath
import Derived.Test.YtaldgmmmcbikgaaEqDeep
namespace Go.Proofs.Ytaldgmmmcbikgaa.TurnMap
open Go.RowKit Mem TurnMath Go.WideMaps Go.ChangeMaps
set_option linter.unusedVariables false
set_option linter.unusedSimpArgs false

abbrev WT : TypeId := 30
theorem law : KeyLaw Try.prog WT := deep_law_laid Lay.laidOut (m := 5) (by omega) (of_decide_eq_true (by kernel_rfl)) (by kernel_rfl) (by kernel_rfl)
theorem wf_of {n : Int} (h : inD n) : (Lit.int .i64 n).wf = true := by
  have e1 : IntKind.i64.min = -9223372036854775808 := by rfl
  have e2 : IntKind.i64.max = 9223372036854775807 := by rfl
  unfold inD at h; simp [Lit.wf, e1, e2]; omega
def litsOf (x : WV) : List Lit := [.int .i64 x.a, .int .i64 x.b, .int .i64 x.c, .bool x.p, .bool x.q, .bool x.r, .bool x.tn]
theorem k_int {D : Nat} {n : Int} (h : (Lit.int .i64 n).wf = true) : Try.prog.keyLits (D + 1) 3 [.int .i64 n] = some [.int .i64 n] := by
  unfold Program.keyLits
  rw [Try.underlying3]
  simp [h]
theorem k_bool {D : Nat} {b : Bool} : Try.prog.keyLits (D + 1) 4 [.bool b] = some [.bool b] := by
  unfold Program.keyLits
  rw [Try.underlying4]
theorem k_ints {D : Nat} {a b c : Int} (ha : (Lit.int .i64 a).wf = true) (hb : (Lit.int .i64 b).wf = true) (hc : (Lit.int .i64 c).wf = true) : Try.prog.keyLits (D + 2) 22 [.int .i64 a, .int .i64 b, .int .i64 c] = some [.int .i64 a, .int .i64 b, .int .i64 c] := by
  unfold Program.keyLits
  rw [Try.underlying22]
  have e : Try.prog.cellsOf 22 = 3 := by kernel_rfl
  have e1 : Try.prog.cellsOf 3 = 1 := by kernel_rfl
  simp [e, e1, List.range, List.range.loop, k_int ha, k_int hb, k_int hc]
theorem k_bools {D : Nat} {a b c : Bool} : Try.prog.keyLits (D + 2) 28 [.bool a, .bool b, .bool c] = some [.bool a, .bool b, .bool c] := by
  unfold Program.keyLits
  rw [Try.underlying28]
  have e : Try.prog.cellsOf 28 = 3 := by kernel_rfl
  have e1 : Try.prog.cellsOf 4 = 1 := by kernel_rfl
  simp [e, e1, List.range, List.range.loop, k_bool]
/-- Its numbers are machine words. -/
def WWf (x : WV) : Prop := (Lit.int .i64 x.a).wf = true ∧ (Lit.int .i64 x.b).wf = true ∧ (Lit.int .i64 x.c).wf = true
theorem wwf_of {x : WV} (h : WOk x) : WWf x := ⟨wf_of h.1, wf_of h.2.1, wf_of h.2.2⟩
theorem lits' {D : Nat} {x : WV} (h : WWf x) : Try.prog.keyLits (D + 3) WT x.arr.toList = some (litsOf x) := by
  unfold Program.keyLits
  rw [Try.underlying30]
  have e : Try.prog.cellsOf WT = 7 := by kernel_rfl
  have e1 : Try.prog.cellsOf 22 = 3 := by kernel_rfl
  have e2 : Try.prog.cellsOf 28 = 3 := by kernel_rfl
  have e3 : Try.prog.cellsOf 4 = 1 := by kernel_rfl
  simp [e, e1, e2, e3, WV.arr, k_ints h.1 h.2.1 h.2.2, k_bools, k_bool, litsOf]
theorem lits {D : Nat} {x : WV} (h : WOk x) : Try.prog.keyLits (D + 3) WT x.arr.toList = some (litsOf x) := lits' (wwf_of h)
theorem key_of {x : WV} (h : WOk x) : ∃ l, keyOf Try.prog WT (.agg x.arr) = some l := by
  unfold keyOf
  rw [Try.underlying30]
  have e : (Try.prog.keyType WT && (Value.agg x.arr).formed Try.prog WT) = true := by kernel_rfl
  have e2 : ∃ D, Try.prog.types.size + 1 = D + 3 := ⟨Try.prog.types.size - 2, by have : 2 ≤ Try.prog.types.size := (by decide +kernel); omega⟩
  obtain ⟨D, hD⟩ := e2
  simp only [e, if_true, Value.cells, hD]
  rw [lits h]
  exact ⟨_, rfl⟩
theorem arr_inj {x y : WV} (h : (Value.agg x.arr) = .agg y.arr) : x = y := by
  obtain ⟨_, _, _, _, _, _, _⟩ := x
  obtain ⟨_, _, _, _, _, _, _⟩ := y
  simpa [WV.arr] using h
/-- '==' of wants. -/
theorem eq_wants {x y : WV} (hx : WWf x) (hy : WWf y) (w : World) : (Op.equalIn 10000 WT (.agg x.arr) (.agg y.arr)).run Try.prog w = .ok (decide (x = y)) w :=
  EqDeep.eq_of (m := 5) (D := 3) (D' := 3) (la := litsOf x) (lb := litsOf y) (by kernel_rfl) (by omega) (by kernel_rfl) (by kernel_rfl) (lits' hx) (lits' hy) _ (by
    obtain ⟨_, _, _, _, _, _, _⟩ := x
    obtain ⟨_, _, _, _, _, _, _⟩ := y
    simp [litsOf]) w

/-! The map. -/
/-- A map of wants, each true, in the order in which they were laid. -/
def MapOf (w : World) (b : Nat) (ks : List WV) : Prop :=
  ∃ (es : Array MapEntry) (clock : Nat), w.heap[b]? = some (.map es clock) ∧ es.toList.map (·.key) = ks.map (fun x => Value.agg x.arr) ∧ (∀ e ∈ es.toList, e.val = .bool true) ∧ (es.toList.map (·.born)).Nodup ∧ (∀ e ∈ es.toList, e.born < clock) ∧
    ks.Nodup ∧ ∀ x ∈ ks, WOk x
theorem MapOf.new (w : World) : MapOf (w.alloc (.map #[] 0)) w.heap.size [] :=
  ⟨#[], 0, heap_alloc_new w _, rfl, (fun e h => by simp at h), List.nodup_nil, (fun e h => by simp at h), List.nodup_nil, (fun x h => by cases h)⟩
theorem MapOf.lt {w : World} {b : Nat} {ks : List WV} (h : MapOf w b ks) : b < w.heap.size := by
  obtain ⟨es, clock, hb, _⟩ := h
  exact (Array.getElem?_eq_some_iff.1 hb).1
theorem MapOf.same {w w' : World} {b : Nat} {ks : List WV} (h : MapOf w b ks) (e : w'.heap[b]? = w.heap[b]?) : MapOf w' b ks := by
  obtain ⟨es, clock, hb, h2⟩ := h
  exact ⟨es, clock, e.trans hb, h2⟩
theorem below_setBlock {B : Nat} {w W : World} {b : Nat} {o : Obj} (h : Below B w W) (hb : B ≤ b) : Below B w (setBlock W b o) :=
  ⟨h.os, h.tape, h.output, by simpa [setBlock] using h.size, fun k hk => by
    have : b ≠ k := by omega
    rw [← h.block k hk]
    simp [setBlock, Array.getElem?_setIfInBounds, this]⟩
def addK (ks : List WV) (x : WV) : List WV := if x ∈ ks then ks else ks ++ [x]
theorem upd {w : World} {b : Nat} {ks : List WV} {x : WV} {t : TypeId} {E : TypeId} (h : MapOf w b ks) (hx : WOk x) (ht : Try.prog.underlying t = some (.map WT E)) :
    ∃ o, (Instr.mapUpdate t (.map (some b)) (.agg x.arr) (.bool true)).run Try.prog w = .ok () (setBlock w b o) ∧ MapOf (setBlock w b o) b (addK ks x) := by
  obtain ⟨es, clock, hb, hk, hv, hn, hc, hnd, hok⟩ := h
  have hlt : b < w.heap.size := (Array.getElem?_eq_some_iff.1 hb).1
  obtain ⟨lx, hlx⟩ := key_of hx
  have hkeys : ∀ e ∈ es.toList, ∃ y ∈ ks, e.key = .agg y.arr := fun e he => by
    have : e.key ∈ es.toList.map (·.key) := List.mem_map.2 ⟨e, he, rfl⟩
    rw [hk] at this
    obtain ⟨y, hy, e2⟩ := List.mem_map.1 this
    exact ⟨y, hy, e2.symm⟩
  have hset : ∀ o : Obj, (setObj b o).run Try.prog w = .ok () (setBlock w b o) := fun o => by simp [setObj, Sem.run, hb, setBlock]
  have hget : ∀ o : Obj, (setBlock w b o).heap[b]? = some o := fun o => by simp [setBlock, Array.getElem?_setIfInBounds, hlt]
  have hrun : ∀ (r : Option (Nat × Value)), (Instr.findKey WT (.agg x.arr) es.toList).run Try.prog w = .ok r w →
      (Instr.mapUpdate t (.map (some b)) (.agg x.arr) (.bool true)).run Try.prog w = (match r with
        | some (i, _) => ((Instr.keyThatStays (((es[i]?).map (·.key)).getD (.agg x.arr)) (.agg x.arr)).run Try.prog w).andThen fun key w' => (setObj b (.map (es.modify i fun e => { e with key, val := .bool true }) clock)).run Try.prog w'
        | none => .ok () (setBlock w b (.map (es.push { key := .agg x.arr, val := .bool true, born := clock }) (clock + 1)))) := fun r hr => by
    simp only [Instr.mapUpdate, Sem.run_bind, run_underlying ht, Result.andThen_ok, getObj, Sem.run, hb]
    simp only [Result.andThen, law.check w false hlx, hr]
    cases r with
    | none => exact hset _
    | some p => obtain ⟨i, v⟩ := p; simp only [Sem.run_bind]; rfl
  rcases law.find w hlx es.toList (fun e he => by obtain ⟨y, hy, e2⟩ := hkeys e he; rw [e2]; exact key_of (hok y hy)) with ⟨hf, hne⟩ | ⟨j, e, hf, hj, he⟩
  · have hx' : x ∉ ks := fun hm => by
      have : Value.agg x.arr ∈ es.toList.map (·.key) := by rw [hk]; exact List.mem_map.2 ⟨x, hm, rfl⟩
      obtain ⟨e, he, e2⟩ := List.mem_map.1 this
      exact hne e he e2
    refine ⟨_, hrun _ hf, ?_⟩
    refine ⟨_, _, hget _, ?_, ?_, ?_, ?_, ?_, ?_⟩
    · simp [addK, hx', hk]
    · intro e he
      simp at he
      rcases he with he | he
      · exact hv e (by simpa using he)
      · rw [he]
    · simp only [Array.toList_push, List.map_append, List.map_cons, List.map_nil]
      rw [List.nodup_append]
      refine ⟨hn, by simp, ?_⟩
      intro a ha c hc2
      simp at hc2
      subst hc2
      obtain ⟨e, he, rfl⟩ := List.mem_map.1 ha
      have := hc e he
      omega
    · intro e he
      simp at he
      rcases he with he | he
      · have := hc e (by simpa using he); omega
      · rw [he]; simp
    · simp only [addK, hx', if_false]
      rw [List.nodup_append]
      refine ⟨hnd, by simp, ?_⟩
      intro a ha c hc2
      simp at hc2
      subst hc2
      intro e
      subst e
      exact hx' ha
    · intro y hy
      simp only [addK, hx', if_false, List.mem_append, List.mem_singleton] at hy
      rcases hy with hy | hy
      · exact hok y hy
      · rw [hy]; exact hx
  · have hx' : x ∈ ks := by
      obtain ⟨y, hy, e2⟩ := hkeys e (List.mem_of_getElem? hj)
      rw [he] at e2
      rw [arr_inj e2]
      exact hy
    have hj' : es[j]? = some e := by rw [← Array.getElem?_toList]; exact hj
    have hmod : es.modify j (fun e => { e with key := .agg x.arr, val := .bool true }) = es := by
      apply Array.ext_getElem?
      intro i
      rw [Array.getElem?_modify]
      split
      · rename_i hij
        subst hij
        rw [hj']
        have hv' := hv e (List.mem_of_getElem? hj)
        obtain ⟨k0, v0, b0⟩ := e
        simp at he hv'
        simp [he, hv']
      · rfl
    refine ⟨.map es clock, ?_, ?_⟩
    · rw [hrun _ hf]
      simp only [hj', Option.map_some, Option.getD_some, he]
      rw [law.stays w hlx]
      simp only [Result.andThen]
      rw [hmod]
      exact hset _
    · simp only [addK, hx', if_true]
      exact ⟨es, clock, hget _, hk, hv, hn, hc, hnd, hok⟩
end Go.Proofs.Ytaldgmmmcbikgaa.TurnMap
