/- What DepsReady's loops do: plain; and a job's state written in a table of one's own. -/
import Derived.Test.YtfpljpdjohmbaaaDepsMath2
import Derived.Test.YtfpljpdjohmbaaaSetList
namespace Go.Proofs.Ytfpljpdjohmbaaa.DepsWant
open Go.RowKit Mem PosMath PartMath TurnMath JobMath JobMem DepsStates DepsSettle DepsMath DepsMath2
set_option linter.unusedVariables false
set_option linter.unusedSimpArgs false

/-- A job in another state, not held. -/
def inState (v : Int) (x : JV) : JV := { x with st := v, he := false }
theorem job_state {w : World} {b o : Nat} {j : JV} {Y : Option Addr} {c : Nat} (v : Int) (h : JobAt w b o j Y c) : JobAt ((w.setCell ⟨b, o + 14, none⟩ (.int .u8 v)).setCell ⟨b, o + 12, none⟩ (.bool false)) b o (inState v j) Y c := by
  obtain ⟨x0, x1, x2, x3, x4, x5, x6, x7, x8, x9, x10, x11, x12, x13, x14, x15⟩ := h
  exact ⟨cell_set_far (cell_set_far x0 (by simp)) (by simp), cell_set_far (cell_set_far x1 (by simp)) (by simp), cell_set_far (cell_set_far x2 (by simp)) (by simp), cell_set_far (cell_set_far x3 (by simp)) (by simp), cell_set_far (cell_set_far x4 (by simp)) (by simp), cell_set_far (cell_set_far x5 (by simp)) (by simp), cell_set_far (cell_set_far x6 (by simp)) (by simp), cell_set_far (cell_set_far x7 (by simp)) (by simp), cell_set_far (cell_set_far x8 (by simp)) (by simp), cell_set_far (cell_set_far x9 (by simp)) (by simp), cell_set_far (cell_set_far x10 (by simp)) (by simp), cell_set_far (cell_set_far x11 (by simp)) (by simp), World.cell?_setCell_same _ _ _ (cell_set_far x12 (by simp)), cell_set_far (cell_set_far x13 (by simp)) (by simp), cell_set_far (World.cell?_setCell_same _ _ _ x14) (by simp), cell_set_far (cell_set_far x15 (by simp)) (by simp)⟩
theorem JobsOwn.state {w : World} {B g k : Nat} {l : List JV} {x : JV} (v : Int) (h : JobsOwn w B (some ⟨g, 0, none⟩) l) (hk : l[k]? = some x) :
    JobsOwn ((w.setCell ⟨g, k * 16 + 14, none⟩ (.int .u8 v)).setCell ⟨g, k * 16 + 12, none⟩ (.bool false)) B (some ⟨g, 0, none⟩) (l.set k (inState v x)) := fun i j hi => by
  have hkl := (List.getElem?_eq_some_iff.1 hk).1
  have hil : i < l.length := by have := (List.getElem?_eq_some_iff.1 hi).1; simpa using this
  have hset : ∀ {q : JV} {Y c}, JobAt w g (i * 16) q Y c → i ≠ k → JobAt ((w.setCell ⟨g, k * 16 + 14, none⟩ (.int .u8 v)).setCell ⟨g, k * 16 + 12, none⟩ (.bool false)) g (i * 16) q Y c := fun hq hne =>
    JobAt.far (JobAt.far hq _ _ (fun t ht => by simp <;> omega)) _ _ (fun t ht => by simp <;> omega)
  by_cases hik : i = k
  · subst hik
    rw [List.getElem?_set_self hkl] at hi
    cases hi
    obtain ⟨g', Y, c, e, h1, hg, hx, f, a, _⟩ := h i x hk
    have e' : g' = g := by simp at e; exact e.symm
    subst e'
    exact ⟨g', Y, c, rfl, h1, by rw [World.size_setCell, World.size_setCell]; exact hg, job_state v hx, (f.set_ _ _).set_ _ _, fun _ => ((a hkl).set_ _ _).set_ _ _, fun h => by simp at h; omega⟩
  · rw [List.getElem?_set_ne (fun e => hik e.symm)] at hi
    obtain ⟨g', Y, c, e, h1, hg, hx, f, a, _⟩ := h i j hi
    have e' : g' = g := by simp at e; exact e.symm
    subst e'
    exact ⟨g', Y, c, rfl, h1, by rw [World.size_setCell, World.size_setCell]; exact hg, hset hx hik, (f.set_ _ _).set_ _ _, fun _ => ((a hil).set_ _ _).set_ _ _, fun h => by simp at h; omega⟩
def markD (b : Bool) (x : JV) : JV := if b then inState 3 x else x
def hitsK (j x : JV) (k : Nat) : Bool := (j.af.take k).any fun v => decide (x.id = v)
/-- The i first rows gone through. -/
def partD (l : List JV) (j : JV) (i : Nat) : List JV := (l.take i).map (fun x => markD (hits j x) x) ++ l.drop i
theorem part_zero (l : List JV) (j : JV) : partD l j 0 = l := by simp [partD]
theorem part_all (l : List JV) (j : JV) : partD l j l.length = doneFor l j := by
  unfold partD doneFor
  rw [List.take_length, List.drop_length, List.append_nil]
  rfl
theorem part_len (l : List JV) (j : JV) (i : Nat) : (partD l j i).length = l.length := by
  unfold partD
  simp
  omega
theorem part_at {l : List JV} {j x : JV} {i : Nat} (h : l[i]? = some x) : (partD l j i)[i]? = some x := by
  have hl := (List.getElem?_eq_some_iff.1 h).1
  unfold partD
  rw [List.getElem?_append_right (by simp; omega)]
  simp
  rw [show i + (i - min i l.length) = i by omega]
  exact h
theorem part_set {l : List JV} {j x : JV} {i : Nat} (h : l[i]? = some x) : (partD l j i).set i (markD (hits j x) x) = partD l j (i + 1) := by
  have hl := (List.getElem?_eq_some_iff.1 h).1
  unfold partD
  rw [List.set_append_right _ _ (by simp; omega), List.take_add_one, h]
  have e : i - ((l.take i).map fun x => markD (hits j x) x).length = 0 := by simp; omega
  rw [e]
  have e2 : l.drop i = x :: l.drop (i + 1) := by
    rw [List.drop_eq_getElem_cons hl]
    congr 1
    rw [List.getElem?_eq_getElem hl] at h
    exact Option.some.inj h
  rw [e2]
  simp
theorem set_mark {l : List JV} {j x : JV} {i k : Nat} (h : l[i]? = some x) (b : Bool) : ((partD l j i).set i (markD b x))[i]? = some (markD b x) := by
  have hl := (List.getElem?_eq_some_iff.1 h).1
  rw [List.getElem?_set_self (by rw [part_len]; exact hl)]
theorem set_none {l : List JV} {j x : JV} {i : Nat} (h : l[i]? = some x) : (partD l j i).set i (markD false x) = partD l j i := by
  refine List.ext_getElem? fun q => ?_
  by_cases e : i = q
  · subst e
    rw [set_mark (k := 0) h, part_at h]
    rfl
  · rw [List.getElem?_set_ne e]
theorem hits_none (j x : JV) : hitsK j x 0 = false := by simp [hitsK]
theorem hits_all (j x : JV) : hitsK j x j.af.length = hits j x := by unfold hitsK hits; rw [List.take_length]
theorem hits_step {j x : JV} {k : Nat} {v : Int} (h : j.af[k]? = some v) : hitsK j x (k + 1) = (hitsK j x k || decide (x.id = v)) := by
  unfold hitsK
  rw [List.take_add_one, h]
  simp
theorem mark_state (b : Bool) (x : JV) : inState 3 (markD b x) = markD true x := by cases b <;> rfl
theorem mark_wakes (b : Bool) (x : JV) : inState 1 (markD b x) = wakes x := by cases b <;> rfl
def wantB (l : List JV) (j : JV) (i : Nat) : Bool := decide (j.st = 1) && !j.he && (l.take i).all fun x => !hits j x || decide (x.st = 3)
theorem want_zero (l : List JV) (j : JV) : wantB l j 0 = (decide (j.st = 1) && !j.he) := by simp [wantB]
theorem want_step {l : List JV} {j x : JV} {i : Nat} (h : l[i]? = some x) : wantB l j (i + 1) = (wantB l j i && (!hits j x || decide (x.st = 3))) := by
  unfold wantB
  rw [List.take_add_one, h]
  simp [Bool.and_assoc]
theorem want_hit (W h d : Bool) : ((W && (!h || d)) && d) = (W && (!true || d)) := by cases W <;> cases h <;> cases d <;> rfl
theorem want_all {d0 d1 d2 bo fr tr ag : Int} {ks : List Cls} {l : List JV} {at_ : Nat} {j : JV} (h : tableV d0 d1 d2 bo fr tr ag ks l = 0) (hj : l[at_]? = some j) : wantB l j l.length = readyV l j := by
  rw [want_plain h hj]
  unfold wantB
  rw [List.take_length]
theorem part_get {l : List JV} {j x : JV} {k : Nat} (h : l[k]? = some x) : (partD l j l.length)[k]? = some (markD (hits j x) x) := by
  rw [part_all, doneFor_at h]
  rfl
/-- What DepsReady says. -/
theorem ready_plain {d0 d1 d2 bo fr tr ag : Int} {ks : List Cls} {l : List JV} {at_ : Nat} {j : JV} (h : tableV d0 d1 d2 bo fr tr ag ks l = 0) (hj : l[at_]? = some j) :
    atV l j.id = at_ ∧ tableV d0 d1 d2 bo fr tr ag ks ((partD l j l.length).set at_ (wakes j)) = 0 ∧ atV ((partD l j l.length).set at_ (wakes j)) j.id = at_ ∧ readyV ((partD l j l.length).set at_ (wakes j)) (wakes j) = true := by
  rw [part_all]
  exact ⟨atV_up (tableV_of h).2.rise hj, after_plain h hj⟩
end Go.Proofs.Ytfpljpdjohmbaaa.DepsWant
