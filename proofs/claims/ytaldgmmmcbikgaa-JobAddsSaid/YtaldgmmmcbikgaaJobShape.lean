/- A table that is written into. -/
import Derived.Test.YtaldgmmmcbikgaaJobMem
namespace Go.Proofs.Ytaldgmmmcbikgaa.JobShape
open Go.RowKit Mem PosMath PartMath TurnMath JobMath JobMem
set_option linter.unusedVariables false
set_option linter.unusedSimpArgs false

/-- A table that is written into: where its second cells and its After's numbers lie. -/
def Shape (w : World) (B : Nat) (X : Option Addr) (ns : List Nat) : Prop := ∀ (i n : Nat), ns[i]? = some n → ∃ g Y c, X = some ⟨g, 0, none⟩ ∧ B ≤ g ∧ w.cell? ⟨g, i * 16 + 13, none⟩ = some (.slice Y n c) ∧
  (∃ u, w.cell? ⟨g, i * 16 + 1, none⟩ = some u) ∧ w.frozen? ⟨g, i * 16 + 1, none⟩ = false ∧
  ∀ t, t < n → ∃ b o, Y = some ⟨b, o, none⟩ ∧ B ≤ b ∧ b ≠ g ∧ (∃ u, w.cell? ⟨b, o + t, none⟩ = some u) ∧ w.frozen? ⟨b, o + t, none⟩ = false
def lens (l : List JV) : List Nat := l.map fun j => j.af.length
theorem JobsOwn.shape {w : World} {B : Nat} {X : Option Addr} {l : List JV} (h : JobsOwn w B X l) : Shape w B X (lens l) := fun i n hi => by
  unfold lens at hi
  rw [List.getElem?_map] at hi
  cases hl : l[i]? with
  | none => rw [hl] at hi; simp at hi
  | some j =>
    rw [hl] at hi
    simp at hi
    subst hi
    obtain ⟨g, Y, c, e, h1, hg, hx, f, a, _⟩ := h i j hl
    have ha := a (List.getElem?_eq_some_iff.1 hl).1
    refine ⟨g, Y, c, e, h1, hx.2.2.2.2.2.2.2.2.2.2.2.2.2.1, ⟨_, hx.2.1⟩, f 1 (by omega), fun t ht => ?_⟩
    obtain ⟨b, o, e2, a1, a2, _, a4, a5⟩ := ha t _ (List.getElem?_eq_getElem ht)
    exact ⟨b, o, e2, a1, a2, ⟨_, a4⟩, a5⟩
theorem Shape.up {w w' : World} {B : Nat} {X : Option Addr} {ns : List Nat} (h : Shape w B X ns) (hB : Below w.heap.size w w') : Shape w' B X ns := fun i n hi => by
  obtain ⟨g, Y, c, e, h1, h2, ⟨u, h3⟩, h4, h5⟩ := h i n hi
  refine ⟨g, Y, c, e, h1, keep_cell h2 hB, ⟨u, keep_cell h3 hB⟩, frozen_keep h4 (cell_lt h3) hB, fun t ht => ?_⟩
  obtain ⟨b, o, e2, a1, a2, ⟨v, a3⟩, a4⟩ := h5 t ht
  exact ⟨b, o, e2, a1, a2, ⟨v, keep_cell a3 hB⟩, frozen_keep a4 (cell_lt a3) hB⟩
theorem some_set {w : World} {a p : Addr} {v : Value} (h : ∃ u, w.cell? a = some u) : ∃ u, (w.setCell p v).cell? a = some u := by
  obtain ⟨u, hu⟩ := h
  by_cases e : p = a
  · subst e; exact ⟨v, World.cell?_setCell_same _ _ _ hu⟩
  · exact ⟨u, by rw [World.cell?_setCell_other _ _ _ _ e]; exact hu⟩
/-- A store into one of the After's numbers. -/
theorem Shape.set_ {w : World} {B : Nat} {g : Nat} {ns : List Nat} (h : Shape w B (some ⟨g, 0, none⟩) ns) {b o : Nat} (hb : b ≠ g) (v : Value) : Shape (w.setCell ⟨b, o, none⟩ v) B (some ⟨g, 0, none⟩) ns := fun i n hi => by
  obtain ⟨g', Y, c, e, h1, h2, h3, h4, h5⟩ := h i n hi
  have e' : g' = g := by simp at e; exact e.symm
  subst e'
  refine ⟨g', Y, c, rfl, h1, cell_set_far h2 (by simp <;> omega), some_set h3, by rw [World.frozen?_setCell]; exact h4, fun t ht => ?_⟩
  obtain ⟨b', o', e2, a1, a2, a3, a4⟩ := h5 t ht
  exact ⟨b', o', e2, a1, a2, some_set a3, by rw [World.frozen?_setCell]; exact a4⟩
/-- A store into a job's second cell. -/
theorem Shape.set1 {w : World} {B : Nat} {g : Nat} {ns : List Nat} (h : Shape w B (some ⟨g, 0, none⟩) ns) (i0 : Nat) (v : Value) : Shape (w.setCell ⟨g, i0 * 16 + 1, none⟩ v) B (some ⟨g, 0, none⟩) ns := fun i n hi => by
  obtain ⟨g', Y, c, e, h1, h2, h3, h4, h5⟩ := h i n hi
  have e' : g' = g := by simp at e; exact e.symm
  subst e'
  refine ⟨g', Y, c, rfl, h1, cell_set_far h2 (by simp <;> omega), some_set h3, by rw [World.frozen?_setCell]; exact h4, fun t ht => ?_⟩
  obtain ⟨b', o', e2, a1, a2, a3, a4⟩ := h5 t ht
  exact ⟨b', o', e2, a1, a2, some_set a3, by rw [World.frozen?_setCell]; exact a4⟩
end Go.Proofs.Ytaldgmmmcbikgaa.JobShape
