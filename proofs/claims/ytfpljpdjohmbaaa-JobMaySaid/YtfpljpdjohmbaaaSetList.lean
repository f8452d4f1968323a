/- Many cells of one block stored into one after another; what stays. -/
import Derived.Deep.MidRow
import Derived.Test.YtfpljpdjohmbaaaDepsStates
namespace Go.Proofs.Ytfpljpdjohmbaaa.SetList
open Go.RowKit Mem DepsStates
set_option linter.unusedVariables false

theorem below_set1 {w W : World} {g i : Nat} {v : Value} (hg : w.heap.size ≤ g) (h : Below w.heap.size w W) : Below w.heap.size w (W.setCell ⟨g, i, none⟩ v) := h.setCell (p := ⟨g, i, none⟩) hg v
theorem below_sets {w : World} {g : Nat} (hg : w.heap.size ≤ g) : ∀ {vs : List Value} {W : World} {i : Nat}, Below w.heap.size w W → Below w.heap.size w (World.setCells W g i vs)
  | [], _, _, h => h
  | _ :: _, _, _, h => by rw [World.setCells]; exact below_sets hg (below_set1 hg h)
theorem blk_sets_far {g g' : Nat} {t : TypeId} {cs : Array Value} (hg : g' ≠ g) : ∀ {vs : List Value} {W : World} {i : Nat}, Blk W g' t cs → Blk (World.setCells W g i vs) g' t cs
  | [], _, _, h => h
  | v :: _, _, i, h => by rw [World.setCells]; exact blk_sets_far hg (h.far (p := ⟨g, i, none⟩) hg v)
theorem st_sets_far {g b n : Nat} {f : Int → Int} (hg : b ≠ g) : ∀ {vs : List Value} {W : World} {i : Nat}, StAt W b f n → StAt (World.setCells W g i vs) b f n
  | [], _, _, h => h
  | v :: _, _, i, h => by rw [World.setCells]; exact st_sets_far hg (h.far (p := ⟨g, i, none⟩) hg v)
theorem take_set {l : List Value} {i : Nat} (v : Value) (hi : i < l.length) : (l.set i v).take (i + 1) = l.take i ++ [v] := by
  rw [List.take_add_one, List.getElem?_set_self hi]
  congr 1
  refine List.ext_getElem? fun k => ?_
  by_cases hk : k < i
  · rw [List.getElem?_take_of_lt hk, List.getElem?_take_of_lt hk, List.getElem?_set_ne (by omega)]
  · rw [List.getElem?_eq_none (by simp; omega), List.getElem?_eq_none (by simp; omega)]
theorem blk_sets {g : Nat} {t : TypeId} : ∀ {vs : List Value} {W : World} {i : Nat} {cs : Array Value}, Blk W g t cs → cs.size = i + vs.length → Blk (World.setCells W g i vs) g t (cs.toList.take i ++ vs).toArray
  | [], W, i, cs, h, hs => by
    have e : (cs.toList.take i ++ []).toArray = cs := by
      simp at hs
      rw [List.append_nil, List.take_of_length_le (by simp; omega)]
    rw [e]; exact h
  | v :: t, W, i, cs, h, hs => by
    have h1 := blk_sets (vs := t) (W := W.setCell ⟨g, i, none⟩ v) (i := i + 1) (h.set_ i v) (by simp at hs ⊢; omega)
    have e : (cs.setIfInBounds i v).toList.take (i + 1) ++ t = cs.toList.take i ++ v :: t := by
      rw [Array.toList_setIfInBounds, take_set v (by simp at hs ⊢; omega), List.append_assoc]
      rfl
    rw [e] at h1
    rw [World.setCells]
    exact h1
theorem blk_sets0 {g : Nat} {t : TypeId} {vs : List Value} {W : World} {cs : Array Value} (h : Blk W g t cs) (hs : cs.size = vs.length) : Blk (World.setCells W g 0 vs) g t vs.toArray := by
  have := blk_sets (vs := vs) (i := 0) h (by simpa using hs)
  simpa using this
theorem size_sets {g : Nat} : ∀ {vs : List Value} {W : World} {i : Nat}, (World.setCells W g i vs).heap.size = W.heap.size
  | [], _, _ => rfl
  | _ :: _, _, _ => by rw [World.setCells]; rw [size_sets, World.size_setCell]
theorem blk_new_of {W : World} {n : Nat} (h : W.heap.size = n) (t : TypeId) (cs : Array Value) : Blk (W.alloc (.cells cs t)) n t cs := by
  subst h; exact Blk.new _ _ _
theorem there_of {W : World} {g : Nat} {t : TypeId} {cs : Array Value} {n : Nat} (h : Blk W g t cs) (hn : cs.size = n) : W.there g 0 n := fun j hj => by
  rw [Nat.zero_add, h.cell, h.frozen]
  exact ⟨by rw [Array.getElem?_eq_getElem (by omega)]; rfl, rfl⟩
theorem range_of {W : World} {g : Nat} {t : TypeId} {cs : List Value} (h : Blk W g t cs.toArray) : W.rangeAt g 0 cs := fun i v hi => by
  rw [Nat.zero_add, h.cell]
  simpa using hi
theorem range_up {w w' : World} {b o : Nat} {cs : List Value} (h : w.rangeAt b o cs) (hB : Below w.heap.size w w') : w'.rangeAt b o cs := fun i v hi => keep_cell (h i v hi) hB
theorem reads_new (W : World) (t : TypeId) (n : Nat) (hn : n = W.heap.size) (cs : List Value) : Reads (W.alloc (.cells cs.toArray t)) (n + 1) cs.length (some ⟨n, 0, none⟩) 1 cs := by
  subst hn
  exact ⟨by simp, fun _ => ⟨_, rfl, by simp, fun j u hu => by rw [add_flat, Nat.zero_add, (Blk.new W _ _).cell]; simpa using hu⟩⟩
theorem grown_of_below {w W : World} (h : Below w.heap.size w W) (row : Option Nat) : w.grownBy W row := ⟨h.os, h.tape, h.output, h.size, fun k hk _ => h.block k hk⟩
theorem grown_trans {w W W' : World} {row : Option Nat} (h : w.grownBy W row) (h2 : W.grownBy W' row) : w.grownBy W' row :=
  ⟨h2.os.trans h.os, h2.tape.trans h.tape, h2.output.trans h.output, Nat.le_trans h.size h2.size, fun k hk hne => (h2.block k (Nat.lt_of_lt_of_le hk h.size) hne).trans (h.block k hk hne)⟩
theorem range_grown {w W : World} {row : Option Nat} (hg : w.grownBy W row) {b o : Nat} {cs : List Value} (h : w.rangeAt b o cs) (hne : some b ≠ row) : W.rangeAt b o cs := fun i v hi => hg.cell (h i v hi) hne
end Go.Proofs.Ytfpljpdjohmbaaa.SetList
