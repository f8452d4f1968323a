/- How an argument that is a slice of structs of four integers is opened: cells of ints at their places, nil let in. -/
import Derived.Test.YtaldgmmmcbikgaaFrame
import Derived.Deep.Slices
import Derived.Deep.Fields
import Derived.ChangeSame
import Derived.Laws.IdiomArrays
namespace Go.Proofs.Ytaldgmmmcbikgaa.Lay
open Go.ChangeShapes Go.WideShapes Go.ChangeAt Go.RowKit Go.Joins Go.Deep Mem
set_option linter.unusedVariables false

section
variable {H : Type} {enc : TypeId × Value → H} {P : Program} {w : World} {base : Nat} {spare : Nat → Bool} {held : Bool}
/- (This theorem began as the guide's lines for copying: extra-structs.md.) -/
theorem open_slice_fields {t e : TypeId} {fs : Array Field} {fuel : Nat} {cs : List Value} {x : DataW H × List MemPlace} (ht : P.underlying t = some (.slice e)) (he : P.underlying e = some (.struct fs))
    (hone : oneCellFields P fs = true) (hC : P.cellsOf e = fs.size) (h : DataW.trod enc P w base spare held fuel t cs = some x) :
    cs = [.slice none 0 0] ∨
    ∃ (a : Addr) (len cap m : Nat), cs = [.slice (some a) len cap] ∧ len ≤ cap ∧ cap ≤ maxLen ∧ m = (if spare a.block then cap else len) ∧
      ∀ i, i < m → ∃ (n : Nat), ∀ (j : Nat) (f : Field), fs[j]? = some f → ∃ (v : Value) (y : DataW H × List MemPlace), w.cell? (a.add (i * fs.size + j)) = some v ∧ DataW.trod enc P w base spare held n f.type [v] = some y := by
  rcases open_slice ht h with ⟨h0, _⟩ | ⟨a, len, cap, m, n, D, Pl, hcs, hb, hl, hm, hmm, hx, hi⟩
  · exact .inl h0
  · refine .inr ⟨a, len, cap, m, hcs, hl, hm, hmm, fun i him => ?_⟩
    obtain ⟨cs', hc, ht'⟩ := hi i him
    rw [hC] at hc
    obtain ⟨ys, n', hn', hy, hlen, hyl, hf⟩ := DataW.trod_struct he ht'
    obtain ⟨_, hcl, hat⟩ := World.cells?_some hc
    refine ⟨n', fun j f hj => ?_⟩
    obtain ⟨ho, hk⟩ := hone_of hone j f hj
    have hjl : j < fs.size := (Array.getElem?_eq_some_iff.1 hj).1
    have hcell := hat j hjl
    have hv : cs'[j]? = some (cs'[j]'(by omega)) := List.getElem?_eq_getElem (by omega)
    have h1 := hf j f hj
    rw [ho, hk] at h1
    have hone' : (cs'.drop j).take 1 = [cs'[j]'(by omega)] := by
      rw [List.drop_eq_getElem_cons (by omega)]
      rfl
    rw [hone'] at h1
    have hys : ys[j]? = some (ys[j]'(by omega)) := List.getElem?_eq_getElem (by omega)
    refine ⟨_, _, ?_, h1.trans hys⟩
    rw [← Go.Deep.add_add, hcell, hv]
/-- Four integers an element: what each place of the list holds. -/
theorem open_fours {t e : TypeId} {f0 f1 f2 f3 : Field} {k : IntKind} {fuel : Nat} {cs : List Value} {x : DataW H × List MemPlace} (ht : P.underlying t = some (.slice e)) (he : P.underlying e = some (.struct #[f0, f1, f2, f3]))
    (h0 : P.underlying f0.type = some (.int k)) (h1 : P.underlying f1.type = some (.int k)) (h2 : P.underlying f2.type = some (.int k)) (h3 : P.underlying f3.type = some (.int k))
    (hone : oneCellFields P #[f0, f1, f2, f3] = true) (hC : P.cellsOf e = 4) (h : DataW.trod enc P w base (fun _ => true) held fuel t cs = some x) :
    ∃ (X : Option Addr) (c : Nat) (ks : List (Int × Int × Int × Int)), cs = [.slice X ks.length c] ∧ ks.length ≤ c ∧ c ≤ maxLen ∧
      ∀ (i : Nat) (q : Int × Int × Int × Int), ks[i]? = some q → ∃ b o, X = some ⟨b, o, none⟩ ∧ b < w.heap.size ∧
        w.cell? ⟨b, o + i * 4, none⟩ = some (.int k q.1) ∧ w.cell? ⟨b, o + i * 4 + 1, none⟩ = some (.int k q.2.1) ∧ w.cell? ⟨b, o + i * 4 + 2, none⟩ = some (.int k q.2.2.1) ∧ w.cell? ⟨b, o + i * 4 + 3, none⟩ = some (.int k q.2.2.2) := by
  rcases open_slice_fields ht he hone hC h with rfl | ⟨⟨b, o, s⟩, len, cap, m, rfl, hl, hm, hmm, hi⟩
  · exact ⟨none, 0, [], rfl, by simp, by simp [maxLen], fun i q hq => by simp at hq⟩
  · have hmc : m = cap := by rw [hmm]; rfl
    have hs0 : 0 < len → s = none := fun hl0 => by
      obtain ⟨n, hf⟩ := hi 0 (by omega)
      obtain ⟨v0, y0, c0, r0⟩ := hf 0 f0 rfl
      have c0' : w.cell? ((⟨b, o, s⟩ : Addr).add 0) = some v0 := by simpa using c0
      simpa [Addr.add] using World.cell?_spot c0'
    have hel : ∀ i, ∃ q : Int × Int × Int × Int, i < len → b < w.heap.size ∧ s = none ∧ w.cell? ⟨b, o + i * 4, none⟩ = some (.int k q.1) ∧ w.cell? ⟨b, o + i * 4 + 1, none⟩ = some (.int k q.2.1) ∧ w.cell? ⟨b, o + i * 4 + 2, none⟩ = some (.int k q.2.2.1) ∧ w.cell? ⟨b, o + i * 4 + 3, none⟩ = some (.int k q.2.2.2) := by
      intro i
      by_cases hlt : i < len
      · obtain ⟨n, hf⟩ := hi i (by omega)
        obtain ⟨v0, y0, c0, r0⟩ := hf 0 f0 rfl
        obtain ⟨v1, y1, c1, r1⟩ := hf 1 f1 rfl
        obtain ⟨v2, y2, c2, r2⟩ := hf 2 f2 rfl
        obtain ⟨v3, y3, c3, r3⟩ := hf 3 f3 rfl
        obtain ⟨a0, e0, _, _⟩ := DataW.trod_int h0 r0
        obtain ⟨a1, e1, _, _⟩ := DataW.trod_int h1 r1
        obtain ⟨a2, e2, _, _⟩ := DataW.trod_int h2 r2
        obtain ⟨a3, e3, _, _⟩ := DataW.trod_int h3 r3
        simp at e0 e1 e2 e3
        subst e0 e1 e2 e3
        have hs : s = none := hs0 (by omega)
        subst hs
        have hblk := block_of_cell c0
        rw [block_of_add] at hblk
        simp only [show (#[f0, f1, f2, f3] : Array Field).size = 4 from rfl] at c0 c1 c2 c3
        rw [add_flat] at c0 c1 c2 c3
        exact ⟨(a0, a1, a2, a3), fun _ => ⟨hblk, rfl, by simpa using c0, by simpa [Nat.add_assoc] using c1, by simpa [Nat.add_assoc] using c2, by simpa [Nat.add_assoc] using c3⟩⟩
      · exact ⟨(0, 0, 0, 0), fun h => absurd h hlt⟩
    refine ⟨some ⟨b, o, s⟩, cap, (List.range len).map (fun i => (hel i).choose), by simp, by simpa using hl, hm, fun i q hq => ?_⟩
    have hlt : i < len := by
      have := (List.getElem?_eq_some_iff.1 hq).1
      simpa using this
    have hq' : q = (hel i).choose := by simpa [hlt] using hq.symm
    obtain ⟨g1, g2, g3⟩ := (hel i).choose_spec hlt
    subst g2
    rw [hq']
    exact ⟨b, o, rfl, g1, g3⟩
end
end Go.Proofs.Ytaldgmmmcbikgaa.Lay
