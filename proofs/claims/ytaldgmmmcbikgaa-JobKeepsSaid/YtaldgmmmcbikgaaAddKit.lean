/- Many cells of one block stored into one after another; boxes; what stays. No conditions but those named. -/
import Derived.Deep.MidRow
import Derived.RangeFuncNested
import Derived.Test.YtaldgmmmcbikgaaMem
namespace Go.Proofs.Ytaldgmmmcbikgaa.AddKit
open Go.RowKit Mem
set_option linter.unusedVariables false
set_option linter.unusedSimpArgs false

theorem below_s1 {w W : World} {g i : Nat} {v : Value} (hg : w.heap.size ≤ g) (h : Below w.heap.size w W) : Below w.heap.size w (W.setCell ⟨g, i, none⟩ v) := h.setCell (p := ⟨g, i, none⟩) hg v
theorem below_sets {w : World} {g : Nat} (hg : w.heap.size ≤ g) : ∀ {vs : List Value} {W : World} {i : Nat}, Below w.heap.size w W → Below w.heap.size w (World.setCells W g i vs)
  | [], _, _, h => h
  | _ :: _, _, _, h => by rw [World.setCells]; exact below_sets hg (below_s1 hg h)
theorem blk_sets_far {g g' : Nat} {t : TypeId} {cs : Array Value} (hg : g' ≠ g) : ∀ {vs : List Value} {W : World} {i : Nat}, Blk W g' t cs → Blk (World.setCells W g i vs) g' t cs
  | [], _, _, h => h
  | v :: _, _, i, h => by rw [World.setCells]; exact blk_sets_far hg (h.far (p := ⟨g, i, none⟩) hg v)
theorem take_set {l : List Value} {i : Nat} (v : Value) (hi : i < l.length) : (l.set i v).take (i + 1) = l.take i ++ [v] := by
  rw [List.take_add_one, List.getElem?_set_self hi]
  congr 1
  refine List.ext_getElem? fun k => ?_
  by_cases hk : k < i
  · rw [List.getElem?_take_of_lt hk, List.getElem?_take_of_lt hk, List.getElem?_set_ne (by omega)]
  · rw [List.getElem?_eq_none (by simp; omega), List.getElem?_eq_none (by simp; omega)]
theorem blk_sets {g : Nat} {t : TypeId} : ∀ {vs : List Value} {W : World} {i : Nat} {cs : Array Value}, Blk W g t cs → cs.size = i + vs.length → Blk (World.setCells W g i vs) g t (cs.toList.take i ++ vs).toArray
  | [], W, i, cs, h, hs => by
    have e : (cs.toList.take i ++ []).toArray = cs := by
      simp at hs
      rw [List.append_nil, List.take_of_length_le (by simp; omega)]
    rw [e]; exact h
  | v :: t, W, i, cs, h, hs => by
    have h1 := blk_sets (vs := t) (W := W.setCell ⟨g, i, none⟩ v) (i := i + 1) (h.set_ i v) (by simp at hs ⊢; omega)
    have e : (cs.setIfInBounds i v).toList.take (i + 1) ++ t = cs.toList.take i ++ v :: t := by
      rw [Array.toList_setIfInBounds, take_set v (by simp at hs ⊢; omega), List.append_assoc]
      rfl
    rw [e] at h1
    rw [World.setCells]
    exact h1
theorem blk_sets0 {g : Nat} {t : TypeId} {vs : List Value} {W : World} {cs : Array Value} (h : Blk W g t cs) (hs : cs.size = vs.length) : Blk (World.setCells W g 0 vs) g t vs.toArray := by
  have := blk_sets (vs := vs) (i := 0) h (by simpa using hs)
  simpa using this
theorem size_sets {g : Nat} : ∀ {vs : List Value} {W : World} {i : Nat}, (World.setCells W g i vs).heap.size = W.heap.size
  | [], _, _ => rfl
  | _ :: _, _, _ => by rw [World.setCells]; rw [size_sets, World.size_setCell]
theorem there0 {W : World} {g : Nat} {t : TypeId} {cs : Array Value} {n : Nat} (h : Blk W g t cs) (hn : cs.size = n) : W.there g 0 n := fun j hj => by
  rw [Nat.zero_add, h.cell, h.frozen]
  exact ⟨by rw [Array.getElem?_eq_getElem (by omega)]; rfl, rfl⟩
theorem range0 {W : World} {g : Nat} {t : TypeId} {cs : List Value} (h : Blk W g t cs.toArray) : W.rangeAt g 0 cs := fun i v hi => by
  rw [Nat.zero_add, h.cell]
  simpa using hi
/-- A new box, written whole. -/
theorem box_full {W : World} (t : TypeId) (cs : Array Value) {vs : List Value} (h : cs.size = vs.length) : Blk (World.setCells (W.alloc (.cells cs t)) W.heap.size 0 vs) W.heap.size t vs.toArray ∧ Below W.heap.size W (World.setCells (W.alloc (.cells cs t)) W.heap.size 0 vs) :=
  ⟨blk_sets0 (Blk.new W t cs) h, below_sets (Nat.le_refl _) (below_alloc (Below.refl _ W))⟩
theorem grown_b {w w' : World} (h : Below w.heap.size w w') : w.grownBy w' none := ⟨h.os, h.tape, h.output, h.size, fun k hk _ => h.block k hk⟩
theorem own_blkG {w w' : World} {g : Nat} {t : TypeId} {cs : Array Value} {row : Option Nat} (h : Blk w g t cs) (hg : w.grownBy w' row) (hr : ∀ r, row = some r → ∃ o : Obj, w.heap[r]? = some o ∧ o.isCells = false) : Blk w' g t cs := by
  have h1 : w.heap[g]? = some (.cells cs t (0, 0)) := h
  exact (hg.block g h.lt (fun e => by
    obtain ⟨o, ho, hn⟩ := hr g e.symm
    rw [h1] at ho
    cases ho
    simp [Obj.isCells] at hn)).trans h1
end Go.Proofs.Ytaldgmmmcbikgaa.AddKit
