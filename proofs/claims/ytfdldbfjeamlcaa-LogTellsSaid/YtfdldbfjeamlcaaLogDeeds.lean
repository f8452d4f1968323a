/- log.deeds: its map of three functions, what is looked up in it, and what the three do. No conditions. -/
import Derived.BigQuiet
import Derived.Deep.QuietTactic
import Derived.Maps.Own
import Derived.Maps.OwnOps
import Derived.Maps.OwnSet
import Derived.ChangeMaps4
import Derived.Test.YtfdldbfjeamlcaaLogProg
namespace Go.Proofs.Ytfdldbfjeamlcaa.LogDeeds
open Go.RowKit Mem LogMath LogProg
set_option linter.unusedVariables false
set_option linter.unusedSimpArgs false

abbrev MT : TypeId := 127
def d1 : Value := .func (.func 92) #[] #[]
def d2 : Value := .func (.func 93) #[] #[]
def d3 : Value := .func (.func 94) #[] #[]
def DM : Obj := .map #[⟨.int .u8 1, d1, 0⟩, ⟨.int .u8 2, d2, 1⟩, ⟨.int .u8 3, d3, 2⟩] 3
/-- What is looked up. -/
def deedV (kd : Int) : Value := if kd = 1 then d1 else if kd = 2 then d2 else if kd = 3 then d3 else .nilFunc
def deedB (kd : Int) : Bool := decide (kd = 1) || (decide (kd = 2) || decide (kd = 3))
theorem zeroF (w : World) : (zeroValue 125).run Try.prog w = .ok .nilFunc w := by kernel_rfl
theorem push_set (h : Array Obj) (o o' : Obj) : (h.push o).setIfInBounds h.size o' = h.push o' := by
  apply Array.ext_getElem?
  intro i
  rw [Array.getElem?_setIfInBounds, Array.getElem?_push, Array.getElem?_push]
  by_cases hi : h.size = i
  · subst hi; simp
  · rw [if_neg hi]
    simp [Ne.symm hi]
theorem checkU8 (w : World) (b : Bool) (n : Int) : (Instr.checkKey b 10000 5 (.int .u8 n)).run Try.prog w = .ok () w := by
  unfold Instr.checkKey
  simp only [Sem.run_bind, run_underlying Try.underlying5, Result.andThen_ok]
  rfl
theorem run_ins (w : World) (es : Array MapEntry) (c : Nat) (n : Int) (v : Value) (hf : Instr.findNow (.int .u8) (.int .u8 n) es.toList 0 = some none) :
    (Instr.mapUpdate MT (.map (some w.heap.size)) (.int .u8 n) v).run Try.prog (w.alloc (.map es c)) = .ok () (w.alloc (.map (es.push ⟨.int .u8 n, v, c⟩) (c + 1))) := by
  have hb : (w.alloc (.map es c)).heap[w.heap.size]? = some (.map es c) := heap_alloc_new w _
  have hs : ∀ o : Obj, (setObj w.heap.size o).run Try.prog (w.alloc (.map es c)) = .ok () (w.alloc o) := fun o => by
    have e : ((w.alloc (.map es c)).heap.setIfInBounds w.heap.size o) = (w.alloc o).heap := push_set _ _ _
    simp only [setObj, Sem.run, hb]
    rw [e]
    rfl
  have hfk : (Instr.findKey 5 (.int .u8 n) es.toList).run Try.prog (w.alloc (.map es c)) = .ok none (w.alloc (.map es c)) := by
    unfold Instr.findKey
    simp only [Sem.run_bind, run_underlying Try.underlying5, Result.andThen_ok, hf]
    rfl
  simp only [Instr.mapUpdate, Sem.run_bind, run_underlying Try.underlying127, Result.andThen_ok, getObj, Sem.run, hb]
  simp only [Result.andThen, checkU8, hfk]
  exact hs _
theorem find_deed (kd : Int) (h : kd = 1 ∨ kd = 2 ∨ kd = 3) : ∃ i, Instr.findNow (.int .u8) (.int .u8 kd) [⟨.int .u8 1, d1, 0⟩, ⟨.int .u8 2, d2, 1⟩, ⟨.int .u8 3, d3, 2⟩] 0 = some (some (i, deedV kd)) := by
  rcases h with rfl | rfl | rfl
  · exact ⟨0, rfl⟩
  · exact ⟨1, rfl⟩
  · exact ⟨2, rfl⟩
theorem find_none (kd : Int) (h : ¬ (kd = 1 ∨ kd = 2 ∨ kd = 3)) : Instr.findNow (.int .u8) (.int .u8 kd) [⟨.int .u8 1, d1, 0⟩, ⟨.int .u8 2, d2, 1⟩, ⟨.int .u8 3, d3, 2⟩] 0 = some none := by
  have h1 : (kd == 1) = false := by simp; exact fun e => h (.inl e)
  have h2 : (kd == 2) = false := by simp; exact fun e => h (.inr (.inl e))
  have h3 : (kd == 3) = false := by simp; exact fun e => h (.inr (.inr e))
  simp [Instr.findNow, Instr.sameNow, h1, h2, h3]
theorem run_look {w : World} {b : Nat} (hb : w.heap[b]? = some DM) (kd : Int) :
    (Instr.lookup MT (.map (some b)) (.int .u8 kd) true).run Try.prog w = .ok (.tuple #[deedV kd, .bool (deedB kd)]) w := by
  unfold DM at hb
  by_cases h : kd = 1 ∨ kd = 2 ∨ kd = 3
  · obtain ⟨i, hf⟩ := find_deed kd h
    have hfk : (Instr.findKey 5 (.int .u8 kd) [⟨.int .u8 1, d1, 0⟩, ⟨.int .u8 2, d2, 1⟩, ⟨.int .u8 3, d3, 2⟩]).run Try.prog w = .ok (some (i, deedV kd)) w := by
      unfold Instr.findKey
      simp only [Sem.run_bind, run_underlying Try.underlying5, Result.andThen_ok, hf]
      rfl
    have e : deedB kd = true := by unfold deedB; rcases h with rfl | rfl | rfl <;> rfl
    rw [e]
    simp only [Instr.lookup, Sem.run_bind, run_underlying Try.underlying127, Result.andThen_ok, getObj, Sem.run, hb]
    simp only [Result.andThen, Sem.run_pure, checkU8, hfk, Sem.run_bind, if_true]
  · have hf := find_none kd h
    have hfk : (Instr.findKey 5 (.int .u8 kd) [⟨.int .u8 1, d1, 0⟩, ⟨.int .u8 2, d2, 1⟩, ⟨.int .u8 3, d3, 2⟩]).run Try.prog w = .ok none w := by
      unfold Instr.findKey
      simp only [Sem.run_bind, run_underlying Try.underlying5, Result.andThen_ok, hf]
      rfl
    have e : deedB kd = false := by
      unfold deedB
      rw [decide_eq_false (fun e => h (.inl e)), decide_eq_false (fun e => h (.inr (.inl e))), decide_eq_false (fun e => h (.inr (.inr e)))]
      rfl
    have e2 : deedV kd = .nilFunc := by
      unfold deedV
      rw [if_neg (fun e => h (.inl e)), if_neg (fun e => h (.inr (.inl e))), if_neg (fun e => h (.inr (.inr e)))]
    rw [e, e2]
    simp only [Instr.lookup, Sem.run_bind, run_underlying Try.underlying127, Result.andThen_ok, getObj, Sem.run, hb]
    simp only [Result.andThen, Sem.run_pure, checkU8, hfk, Sem.run_bind, if_true, zeroF]
set_option maxHeartbeats 2000000 in
theorem deeds_any (w : World) : Calls Try.prog 59 #[] w fun e w' => ∃ b, e = .returned (.map (some b)) ∧ w'.heap[b]? = some DM ∧ Below w.heap.size w w' := by
  have hmm := @run_makeMap Try.prog
  have h1 := run_ins w #[] 0 1 d1 rfl
  have h2 := run_ins w #[⟨.int .u8 1, d1, 0⟩] 1 2 d2 rfl
  have h3 := run_ins w #[⟨.int .u8 1, d1, 0⟩, ⟨.int .u8 2, d2, 1⟩] 2 3 d3 rfl
  simp only [d1, d2, d3, List.push_toArray, List.cons_append, List.nil_append] at h1 h2 h3
  go_enter Try.func59, Try.ntmps59
  go_wp2_with fail
  go_ret
  exact ⟨w.heap.size, rfl, heap_alloc_new w _, below_alloc (Below.refl _ _)⟩
end Go.Proofs.Ytfdldbfjeamlcaa.LogDeeds
