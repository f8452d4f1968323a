/- Tables of one's own in memory: made, changed. -/
import Derived.Laws.AppendOwn
import Derived.Test.YtaldgmmmcbikgaaJobMath
namespace Go.Proofs.Ytaldgmmmcbikgaa.JobMem
open Go.RowKit Mem PosMath PartMath TurnMath JobMath
set_option linter.unusedVariables false
set_option linter.unusedSimpArgs false

/-- Numbers in memory below block B. -/
def IntsIn (w : World) (B : Nat) (Y : Option Addr) (l : List Int) : Prop := ∀ (i : Nat) (v : Int), l[i]? = some v → ∃ b o, Y = some ⟨b, o, none⟩ ∧ b < B ∧ b < w.heap.size ∧ w.cell? ⟨b, o + i, none⟩ = some (.int .i64 v)
/-- Numbers in memory of one's own, from block B on, and not in block g. -/
def IntsOwn (w : World) (B g : Nat) (Y : Option Addr) (l : List Int) : Prop := ∀ (i : Nat) (v : Int), l[i]? = some v → ∃ b o, Y = some ⟨b, o, none⟩ ∧ B ≤ b ∧ b ≠ g ∧ b < w.heap.size ∧ w.cell? ⟨b, o + i, none⟩ = some (.int .i64 v) ∧ w.frozen? ⟨b, o + i, none⟩ = false
theorem IntsOwn.ints {w : World} {B g : Nat} {Y : Option Addr} {l : List Int} (h : IntsOwn w B g Y l) : IntsAt w Y l := fun i v hi => by
  obtain ⟨b, o, e, _, _, hb, x, _⟩ := h i v hi
  exact ⟨b, o, e, hb, x⟩
theorem IntsIn.ints {w : World} {B : Nat} {Y : Option Addr} {l : List Int} (h : IntsIn w B Y l) : IntsAt w Y l := fun i v hi => by
  obtain ⟨b, o, e, _, hb, x⟩ := h i v hi
  exact ⟨b, o, e, hb, x⟩
theorem IntsAt.in_ {w : World} {Y : Option Addr} {l : List Int} (h : IntsAt w Y l) : IntsIn w w.heap.size Y l := fun i v hi => by
  obtain ⟨b, o, e, hb, x⟩ := h i v hi
  exact ⟨b, o, e, hb, hb, x⟩
theorem IntsIn.up {w w' : World} {B : Nat} {Y : Option Addr} {l : List Int} (h : IntsIn w B Y l) (hB : Below w.heap.size w w') : IntsIn w' B Y l := fun i v hi => by
  obtain ⟨b, o, e, h1, hb, x⟩ := h i v hi
  exact ⟨b, o, e, h1, Nat.lt_of_lt_of_le hb hB.size, keep_cell x hB⟩
theorem frozen_keep {w w' : World} {a : Addr} (h : w.frozen? a = false) (ha : a.block < w.heap.size) (hB : Below w.heap.size w w') : w'.frozen? a = false := by
  rw [hB.frozen ha]; exact h
theorem IntsOwn.up {w w' : World} {B g : Nat} {Y : Option Addr} {l : List Int} (h : IntsOwn w B g Y l) (hB : Below w.heap.size w w') : IntsOwn w' B g Y l := fun i v hi => by
  obtain ⟨b, o, e, h1, h2, hb, x, y⟩ := h i v hi
  exact ⟨b, o, e, h1, h2, Nat.lt_of_lt_of_le hb hB.size, keep_cell x hB, frozen_keep y hb hB⟩
theorem IntsOwn.less {w : World} {B B' g : Nat} {Y : Option Addr} {l : List Int} (h : IntsOwn w B g Y l) (hB : B' ≤ B) : IntsOwn w B' g Y l := fun i v hi => by
  obtain ⟨b, o, e, h1, h2, hb, x, y⟩ := h i v hi
  exact ⟨b, o, e, Nat.le_trans hB h1, h2, hb, x, y⟩
/-- New numbers lie in no old block. -/
theorem IntsOwn.other {w : World} {B g g' : Nat} {Y : Option Addr} {l : List Int} (h : IntsOwn w B g Y l) (hg : g' < B) : IntsOwn w B g' Y l := fun i v hi => by
  obtain ⟨b, o, e, h1, h2, hb, x, y⟩ := h i v hi
  exact ⟨b, o, e, h1, by omega, hb, x, y⟩
theorem cell_set_far {w : World} {a p : Addr} {u v : Value} (h : w.cell? a = some u) (hne : a ≠ p) : (w.setCell p v).cell? a = some u := by
  rw [World.cell?_setCell_other _ _ _ _ hne.symm]; exact h
theorem IntsOwn.set_ {w : World} {B g : Nat} {Y : Option Addr} {l : List Int} (h : IntsOwn w B g Y l) (o' : Nat) (u : Value) : IntsOwn (w.setCell ⟨g, o', none⟩ u) B g Y l := fun i v hi => by
  obtain ⟨b, o, e, h1, h2, hb, x, y⟩ := h i v hi
  exact ⟨b, o, e, h1, h2, by rw [World.size_setCell]; exact hb, cell_set_far x (by simp [h2]), by rw [World.frozen?_setCell]; exact y⟩
theorem IntsIn.set_ {w : World} {B g : Nat} {Y : Option Addr} {l : List Int} (h : IntsIn w B Y l) (hg : B ≤ g) (o' : Nat) (u : Value) : IntsIn (w.setCell ⟨g, o', none⟩ u) B Y l := fun i v hi => by
  obtain ⟨b, o, e, h1, hb, x⟩ := h i v hi
  exact ⟨b, o, e, h1, by rw [World.size_setCell]; exact hb, cell_set_far x (by simp <;> omega)⟩
/-- Cells that may be written. -/
def FreeAt (w : World) (b o n : Nat) : Prop := ∀ i, i < n → w.frozen? ⟨b, o + i, none⟩ = false
theorem FreeAt.up {w w' : World} {b o n : Nat} (h : FreeAt w b o n) (hb : b < w.heap.size) (hB : Below w.heap.size w w') : FreeAt w' b o n := fun i hi => frozen_keep (h i hi) hb hB
theorem FreeAt.set_ {w : World} {b o n : Nat} (h : FreeAt w b o n) (p : Addr) (u : Value) : FreeAt (w.setCell p u) b o n := fun i hi => by rw [World.frozen?_setCell]; exact h i hi
/-- A new table: the first k of its jobs have numbers of their own, the others still those of before. -/
def Mid (w : World) (B : Nat) (X : Option Addr) (l : List JV) (k : Nat) : Prop := ∀ (i : Nat) (j : JV), l[i]? = some j → ∃ g Y c, X = some ⟨g, 0, none⟩ ∧ B ≤ g ∧ g < w.heap.size ∧ JobAt w g (i * 16) j Y c ∧ FreeAt w g (i * 16) 16 ∧ (i < k → IntsOwn w B g Y j.af) ∧ (k ≤ i → IntsIn w B Y j.af)
/-- A table of one's own. -/
def JobsOwn (w : World) (B : Nat) (X : Option Addr) (l : List JV) : Prop := Mid w B X l l.length
theorem Mid.up {w w' : World} {B : Nat} {X : Option Addr} {l : List JV} {k : Nat} (h : Mid w B X l k) (hB : Below w.heap.size w w') : Mid w' B X l k := fun i j hi => by
  obtain ⟨g, Y, c, e, h1, hg, x, f, a, b⟩ := h i j hi
  exact ⟨g, Y, c, e, h1, Nat.lt_of_lt_of_le hg hB.size, x.up hB, f.up hg hB, fun h => (a h).up hB, fun h => (b h).up hB⟩
theorem JobsOwn.up {w w' : World} {B : Nat} {X : Option Addr} {l : List JV} (h : JobsOwn w B X l) (hB : Below w.heap.size w w') : JobsOwn w' B X l := Mid.up h hB
theorem JobsOwn.jobs {w : World} {B : Nat} {X : Option Addr} {l : List JV} (h : JobsOwn w B X l) : JobsAt w X l := fun i j hi => by
  obtain ⟨g, Y, c, e, h1, hg, x, f, a, b⟩ := h i j hi
  exact ⟨g, 0, Y, c, e, hg, by rw [Nat.zero_add]; exact x, (a (List.getElem?_eq_some_iff.1 hi).1).ints⟩
theorem JobsOwn.nil {w : World} {B : Nat} {X : Option Addr} : JobsOwn w B X [] := fun i j h => by simp at h
theorem JobAt.far {w : World} {b o : Nat} {j : JV} {Y : Option Addr} {c : Nat} (h : JobAt w b o j Y c) (p : Addr) (u : Value) (hp : ∀ t, t < 16 → (⟨b, o + t, none⟩ : Addr) ≠ p) : JobAt (w.setCell p u) b o j Y c := by
  obtain ⟨x0, x1, x2, x3, x4, x5, x6, x7, x8, x9, x10, x11, x12, x13, x14, x15⟩ := h
  exact ⟨cell_set_far x0 (hp 0 (by omega)), cell_set_far x1 (hp 1 (by omega)), cell_set_far x2 (hp 2 (by omega)), cell_set_far x3 (hp 3 (by omega)), cell_set_far x4 (hp 4 (by omega)), cell_set_far x5 (hp 5 (by omega)), cell_set_far x6 (hp 6 (by omega)), cell_set_far x7 (hp 7 (by omega)), cell_set_far x8 (hp 8 (by omega)), cell_set_far x9 (hp 9 (by omega)), cell_set_far x10 (hp 10 (by omega)), cell_set_far x11 (hp 11 (by omega)), cell_set_far x12 (hp 12 (by omega)), cell_set_far x13 (hp 13 (by omega)), cell_set_far x14 (hp 14 (by omega)), cell_set_far x15 (hp 15 (by omega))⟩
theorem job_set13 {w : World} {b o : Nat} {j : JV} {Y Y' : Option Addr} {c c' : Nat} (h : JobAt w b o j Y c) : JobAt (w.setCell ⟨b, o + 13, none⟩ (.slice Y' j.af.length c')) b o j Y' c' := by
  obtain ⟨x0, x1, x2, x3, x4, x5, x6, x7, x8, x9, x10, x11, x12, x13, x14, x15⟩ := h
  exact ⟨cell_set_far x0 (by simp), cell_set_far x1 (by simp), cell_set_far x2 (by simp), cell_set_far x3 (by simp), cell_set_far x4 (by simp), cell_set_far x5 (by simp), cell_set_far x6 (by simp), cell_set_far x7 (by simp), cell_set_far x8 (by simp), cell_set_far x9 (by simp), cell_set_far x10 (by simp), cell_set_far x11 (by simp), cell_set_far x12 (by simp), World.cell?_setCell_same _ _ _ x13, cell_set_far x14 (by simp), cell_set_far x15 (by simp)⟩
theorem Mid.step {w : World} {B : Nat} {g : Nat} {l : List JV} {k : Nat} {x : JV} {Y' : Option Addr} {c' : Nat} (h : Mid w B (some ⟨g, 0, none⟩) l k) (hk : l[k]? = some x) (hB : B ≤ g) (hY : IntsOwn w B g Y' x.af) :
    Mid (w.setCell ⟨g, k * 16 + 13, none⟩ (.slice Y' x.af.length c')) B (some ⟨g, 0, none⟩) l (k + 1) := fun i j hi => by
  obtain ⟨g', Y, c, e, h1, hg, hx, f, a, b⟩ := h i j hi
  have e' : g' = g := by simp at e; exact e.symm
  subst e'
  by_cases hik : i = k
  · subst hik
    rw [hk] at hi
    cases hi
    refine ⟨g', Y', c', rfl, h1, by rw [World.size_setCell]; exact hg, job_set13 hx, f.set_ _ _, fun _ => hY.set_ _ _, fun h => by omega⟩
  · refine ⟨g', Y, c, rfl, h1, by rw [World.size_setCell]; exact hg, JobAt.far hx _ _ (fun t ht => by simp <;> omega), f.set_ _ _, fun h => (a (by omega)).set_ _ _, fun h => (b (by omega)).set_ h1 _ _⟩
/-- One job's cells, one by one. -/
theorem job_cell {w : World} {b o : Nat} {j : JV} {Y : Option Addr} {c : Nat} (h : JobAt w b o j Y c) (t : Nat) (ht : t < 16) : ∃ u, w.cell? ⟨b, o + t, none⟩ = some u ∧ u.oneCell' = true ∧ (j.arr Y c)[t]? = some u := by
  obtain ⟨x0, x1, x2, x3, x4, x5, x6, x7, x8, x9, x10, x11, x12, x13, x14, x15⟩ := h
  match t, ht with
  | 0, _ => exact ⟨_, x0, rfl, rfl⟩
  | 1, _ => exact ⟨_, x1, rfl, rfl⟩
  | 2, _ => exact ⟨_, x2, rfl, rfl⟩
  | 3, _ => exact ⟨_, x3, rfl, rfl⟩
  | 4, _ => exact ⟨_, x4, rfl, rfl⟩
  | 5, _ => exact ⟨_, x5, rfl, rfl⟩
  | 6, _ => exact ⟨_, x6, rfl, rfl⟩
  | 7, _ => exact ⟨_, x7, rfl, rfl⟩
  | 8, _ => exact ⟨_, x8, rfl, rfl⟩
  | 9, _ => exact ⟨_, x9, rfl, rfl⟩
  | 10, _ => exact ⟨_, x10, rfl, rfl⟩
  | 11, _ => exact ⟨_, x11, rfl, rfl⟩
  | 12, _ => exact ⟨_, x12, rfl, rfl⟩
  | 13, _ => exact ⟨_, x13, rfl, rfl⟩
  | 14, _ => exact ⟨_, x14, rfl, rfl⟩
  | 15, _ => exact ⟨_, x15, rfl, rfl⟩
  | t + 16, ht => omega
theorem job_of_cells {w : World} {b o : Nat} {j : JV} {Y : Option Addr} {c : Nat} (h : ∀ t u, t < 16 → (j.arr Y c)[t]? = some u → w.cell? ⟨b, o + t, none⟩ = some u) : JobAt w b o j Y c :=
  ⟨h 0 _ (by omega) rfl, h 1 _ (by omega) rfl, h 2 _ (by omega) rfl, h 3 _ (by omega) rfl, h 4 _ (by omega) rfl, h 5 _ (by omega) rfl, h 6 _ (by omega) rfl, h 7 _ (by omega) rfl, h 8 _ (by omega) rfl, h 9 _ (by omega) rfl, h 10 _ (by omega) rfl, h 11 _ (by omega) rfl, h 12 _ (by omega) rfl, h 13 _ (by omega) rfl, h 14 _ (by omega) rfl, h 15 _ (by omega) rfl⟩
/-- What a slice of jobs holds, cell by cell. -/
def rawOf (w : World) (b o n : Nat) : List Value := (List.range (n * 16)).map fun t => (w.cell? ⟨b, o + t, none⟩).getD default
theorem raw_get {w : World} {b o n t : Nat} {u : Value} (ht : t < n * 16) (h : w.cell? ⟨b, o + t, none⟩ = some u) : (rawOf w b o n)[t]? = some u := by
  unfold rawOf
  simp [ht, h]
theorem raw_reads {w : World} {b o : Nat} {l : List JV} (h : JobsAt w (some ⟨b, o, none⟩) l) :
    Reads w w.heap.size 16 (some ⟨b, o, none⟩) l.length (rawOf w b o l.length) ∧ (∀ u ∈ rawOf w b o l.length, u.oneCell' = true) ∧
      ∀ i j, l[i]? = some j → ∃ Y c, IntsAt w Y j.af ∧ ∀ t u, t < 16 → (j.arr Y c)[t]? = some u → (rawOf w b o l.length)[i * 16 + t]? = some u := by
  have key : ∀ t, t < l.length * 16 → ∃ u, w.cell? ⟨b, o + t, none⟩ = some u ∧ u.oneCell' = true := fun t ht => by
    have hi : t / 16 < l.length := by omega
    obtain ⟨b', o', Y, c, e, hb, hj, hY⟩ := h (t / 16) _ (List.getElem?_eq_getElem hi)
    have e2 : b' = b ∧ o' = o := by simp at e; exact ⟨e.1.symm, e.2.symm⟩
    obtain ⟨rfl, rfl⟩ := e2
    obtain ⟨u, hu, h1, _⟩ := job_cell hj (t % 16) (Nat.mod_lt _ (by omega))
    rw [show o' + t / 16 * 16 + t % 16 = o' + t by omega] at hu
    exact ⟨u, hu, h1⟩
  refine ⟨⟨by simp [rawOf], fun hn => ?_⟩, fun u hu => ?_, fun i j hi => ?_⟩
  · obtain ⟨b', o', Y, c, e, hb, _⟩ := h 0 _ (List.getElem?_eq_getElem hn)
    have e2 : b' = b := by simp at e; exact e.1.symm
    subst e2
    refine ⟨_, rfl, hb, fun t u hu => ?_⟩
    have ht : t < l.length * 16 := by have := (List.getElem?_eq_some_iff.1 hu).1; simpa [rawOf] using this
    obtain ⟨u', hu', _⟩ := key t ht
    rw [add_flat, hu']
    rw [raw_get ht hu'] at hu
    exact hu
  · obtain ⟨t, ht, rfl⟩ := List.mem_iff_getElem.1 hu
    have ht' : t < l.length * 16 := by simpa [rawOf] using ht
    obtain ⟨u', hu', h1⟩ := key t ht'
    have := raw_get ht' hu'
    rw [List.getElem?_eq_getElem ht] at this
    cases this
    exact h1
  · obtain ⟨b', o', Y, c, e, hb, hj, hY⟩ := h i j hi
    have e2 : b' = b ∧ o' = o := by simp at e; exact ⟨e.1.symm, e.2.symm⟩
    obtain ⟨rfl, rfl⟩ := e2
    refine ⟨Y, c, hY, fun t u ht hu => ?_⟩
    obtain ⟨u', hu', _, h2⟩ := job_cell hj t ht
    rw [h2] at hu
    cases hu
    have hil := (List.getElem?_eq_some_iff.1 hi).1
    exact raw_get (by omega) (by rw [show o' + (i * 16 + t) = o' + i * 16 + t by omega]; exact hu')
/-- Own memory that holds what a slice of jobs held: a new table, its numbers still those of before. -/
theorem mid_of_own {w w' : World} {B b o n : Nat} {e : TypeId} {v : Value} {l : List JV} (hB : Below w.heap.size w w') (hw : B = w.heap.size) (h : JobsAt w (some ⟨b, o, none⟩) l) (hn : n = l.length) (ho : w'.ownsRow B e 16 v n (rawOf w b o l.length)) :
    ∃ X c, v = .slice X l.length c ∧ Mid w' B X l 0 := by
  subst hn hw
  rcases ho.2 with ⟨rfl, e0⟩ | ⟨g, cap, cur, rfl, hb, hg, hc, hm, hs, ht⟩
  · obtain rfl : l = [] := List.eq_nil_of_length_eq_zero e0
    exact ⟨none, 0, rfl, fun i j h => by simp at h⟩
  · refine ⟨some ⟨g, 0, none⟩, cap, rfl, fun i j hi => ?_⟩
    obtain ⟨_, _, hr⟩ := raw_reads h
    obtain ⟨Y, c, hY, hcell⟩ := hr i j hi
    have hil := (List.getElem?_eq_some_iff.1 hi).1
    have kb : Blk w' g e cur := hg
    refine ⟨g, Y, c, rfl, hb, kb.lt, job_of_cells fun t u ht' hu => ?_, fun t ht' => kb.frozen _, fun h => by omega, fun _ => (IntsAt.in_ hY).up hB⟩
    have h1 := hcell t u ht' hu
    rw [← ht, List.getElem?_take_of_lt (by omega)] at h1
    rw [kb.cell]
    simpa using h1
theorem ints_of_own {w' : World} {B n : Nat} {e : TypeId} {v : Value} {l : List Int} {g0 : Nat} (hg0 : g0 < B) (hn : n = l.length) (ho : w'.ownsRow B e 1 v n (l.map (Value.int .i64))) : ∃ Y c, v = .slice Y l.length c ∧ IntsOwn w' B g0 Y l := by
  subst hn
  rcases ho.2 with ⟨rfl, e0⟩ | ⟨g, cap, cur, rfl, hb, hg, hc, hm, hs, ht⟩
  · obtain rfl : l = [] := List.eq_nil_of_length_eq_zero e0
    exact ⟨none, 0, rfl, fun i j h => by simp at h⟩
  · refine ⟨some ⟨g, 0, none⟩, cap, rfl, fun i v hi => ?_⟩
    have hil := (List.getElem?_eq_some_iff.1 hi).1
    have kb : Blk w' g e cur := hg
    refine ⟨g, 0, rfl, hb, by omega, kb.lt, ?_, kb.frozen _⟩
    rw [kb.cell, Nat.zero_add]
    have h1 : (l.map (Value.int .i64))[i]? = some (.int .i64 v) := by simp [hi]
    rw [← ht, List.getElem?_take_of_lt (by omega)] at h1
    simpa using h1
theorem ints_reads {w : World} {Y : Option Addr} {l : List Int} (h : IntsAt w Y l) : Reads w w.heap.size 1 Y l.length (l.map (Value.int .i64)) := by
  refine ⟨by simp, fun hn => ?_⟩
  obtain ⟨b, o, rfl, hb, _⟩ := h 0 _ (List.getElem?_eq_getElem hn)
  refine ⟨_, rfl, hb, fun t u hu => ?_⟩
  rw [List.getElem?_map] at hu
  cases hl : l[t]? with
  | none => rw [hl] at hu; simp at hu
  | some v =>
    rw [hl] at hu
    simp at hu
    subst hu
    obtain ⟨b', o', e, _, hc⟩ := h t v hl
    have e2 : b' = b ∧ o' = o := by simp at e; exact ⟨e.1.symm, e.2.symm⟩
    obtain ⟨rfl, rfl⟩ := e2
    rw [add_flat]
    exact hc
end Go.Proofs.Ytaldgmmmcbikgaa.JobMem
