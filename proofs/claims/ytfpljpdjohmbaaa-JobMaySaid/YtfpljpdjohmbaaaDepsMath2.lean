/- Who is ready, and the reference's settling, plain. -/
import Derived.Test.YtfpljpdjohmbaaaDepsMath
namespace Go.Proofs.Ytfpljpdjohmbaaa.DepsMath2
open Go.RowKit Mem PosMath PartMath TurnMath TurnFitsV JobMath JobCheck DepsStates DepsSettle DepsMath
set_option linter.unusedVariables false

/-- A number's state, by its place. -/
def stAt (l : List JV) (n : Int) : Int := if atV l n < 0 then 0 else (l.getD (atV l n).toNat default).st
theorem stAt_none {l : List JV} {n : Int} (h : atV l n < 0) : stAt l n = 0 := if_pos h
theorem stAt_some {l : List JV} {n : Int} {k : Nat} {x : JV} (h : atV l n = k) (hx : l[k]? = some x) : stAt l n = x.st := by
  unfold stAt
  rw [if_neg (by omega), h]
  simp [List.getD_eq_getElem?_getD, hx]
theorem atV_not {l : List JV} {n : Int} (h : atV l n < 0) : ∀ j ∈ l, j.id ≠ n := fun j hj e => by
  have h1 := hasB_at l n
  rw [decide_eq_false (by omega)] at h1
  unfold hasB at h1
  rw [List.any_eq_false] at h1
  exact h1 j hj (by simp [e])
theorem stAt_stOf {l : List JV} (hu : Up l) (n : Int) : stAt l n = stOf l n := by
  by_cases h : atV l n < 0
  · rw [stAt_none h, stOf_not (atV_not h)]
  · by_cases hx : ∃ j ∈ l, j.id = n
    · obtain ⟨j, hj, rfl⟩ := hx
      obtain ⟨i, hi⟩ := List.mem_iff_getElem?.1 hj
      rw [stAt_some (atV_up hu hi) hi, stOf_mem hu hj]
    · exact absurd (atV_none fun j hj e => hx ⟨j, hj, e⟩) (by omega)
/-- Is one ready? -/
def readyV (l : List JV) (j : JV) : Bool := decide (j.st = 1) && !j.he && !(j.af.any fun v => decide (stOf l v ≠ 3))
/-- The reference's settling. -/
def neverV (l : List JV) (j : JV) : Bool := decide (j.st = 1) && j.af.any fun v => decide (3 < stAt l v)
def sweep (l : List JV) : Nat → List JV
  | 0 => l
  | k + 1 => if neverV (sweep l k) ((sweep l k).getD k default) = true then (sweep l k).set k (cancel ((sweep l k).getD k default)) else sweep l k
def sweeps (l : List JV) : Nat → List JV
  | 0 => l
  | t + 1 => sweep (sweeps l t) (sweeps l t).length
theorem sweep_steps {l : List JV} (hu : Up l) : ∀ k, sweep l k = (stepS l k).1
  | 0 => rfl
  | k + 1 => by
    have ih := sweep_steps hu k
    have e : ∀ j, neverV (stepS l k).1 j = ill (stepS l k).2 j := fun j => by
      unfold neverV ill
      have : (fun v => decide (3 < stAt (stepS l k).1 v)) = fun v => decide (3 < (stepS l k).2 v) := by
        funext v
        rw [stAt_stOf (stepS_up hu k), ← stepS_states hu k]
      rw [this]
    show (if neverV (sweep l k) ((sweep l k).getD k default) = true then (sweep l k).set k (cancel ((sweep l k).getD k default)) else sweep l k) = _
    rw [ih, e]
    show _ = (if ill (stepS l k).2 ((stepS l k).1.getD k default) = true then ((stepS l k).1.set k (cancel ((stepS l k).1.getD k default)), stUpd (stepS l k).2 ((stepS l k).1.getD k default).id 5) else stepS l k).1
    split <;> rfl
theorem sweep_all {l : List JV} (hu : Up l) : sweep l l.length = settleV l := sweep_steps hu _
theorem sweeps_len {l : List JV} : ∀ t, (sweeps l t).length = l.length
  | 0 => rfl
  | t + 1 => by
    have key : ∀ (m : List JV) k, (sweep m k).length = m.length := fun m k => by
      induction k with
      | zero => rfl
      | succ k ih => unfold sweep; split
                     · rw [List.length_set]; exact ih
                     · exact ih
    show (sweep _ _).length = _
    rw [key, sweeps_len t]
theorem sweep_len (m : List JV) : ∀ k, (sweep m k).length = m.length
  | 0 => rfl
  | k + 1 => by
    unfold sweep
    split
    · rw [List.length_set]; exact sweep_len m k
    · exact sweep_len m k
theorem sweeps_all {l : List JV} (hu : Up l) (hc : Clos l) : ∀ t, sweeps l (t + 1) = settleV l
  | 0 => sweep_all hu
  | t + 1 => by
    have ih := sweeps_all hu hc t
    have hU := stepS_up hu l.length
    show sweep (sweeps l (t + 1)) (sweeps l (t + 1)).length = _
    rw [ih, show sweep (settleV l) (settleV l).length = settleV (settleV l) from sweep_all (l := settleV l) hU]
    exact calm_settled (settled_calm hu hc)
theorem sweep_at (l : List JV) : ∀ k i, k ≤ i → (sweep l k)[i]? = l[i]?
  | 0, i, _ => rfl
  | k + 1, i, h => by
    unfold sweep
    split
    · rw [List.getElem?_set_ne (by omega)]; exact sweep_at l k i (by omega)
    · exact sweep_at l k i (by omega)
theorem sweep_yes {l : List JV} {k : Nat} {x : JV} (hx : (sweep l k)[k]? = some x) (h : neverV (sweep l k) x = true) : sweep l (k + 1) = (sweep l k).set k (cancel x) := by
  have e : (sweep l k).getD k default = x := by rw [List.getD_eq_getElem?_getD, hx]; rfl
  show (if neverV (sweep l k) ((sweep l k).getD k default) = true then _ else _) = _
  rw [e, if_pos h]
theorem sweep_no {l : List JV} {k : Nat} {x : JV} (hx : (sweep l k)[k]? = some x) (h : neverV (sweep l k) x = false) : sweep l (k + 1) = sweep l k := by
  have e : (sweep l k).getD k default = x := by rw [List.getD_eq_getElem?_getD, hx]; rfl
  show (if neverV (sweep l k) ((sweep l k).getD k default) = true then _ else _) = _
  rw [e, if_neg (by simp [h])]
/-- Each job of a table that is swept keeps its numbers but the state. -/
theorem sweep_mem {l : List JV} : ∀ {k : Nat} {j : JV}, j ∈ sweep l k → j ∈ l ∨ ∃ x ∈ l, j = cancel x
  | 0, j, h => .inl h
  | k + 1, j, h => by
    by_cases hk : k < (sweep l k).length
    · have hg : (sweep l k)[k]? = some (sweep l k)[k] := List.getElem?_eq_getElem hk
      generalize (sweep l k)[k] = x at hg
      have hxl : x ∈ l := by
        have := sweep_at l k k (Nat.le_refl _)
        rw [hg] at this
        exact List.mem_of_getElem? this.symm
      cases hn : neverV (sweep l k) x
      · rw [sweep_no hg hn] at h; exact sweep_mem h
      · rw [sweep_yes hg hn] at h
        rcases List.mem_or_eq_of_mem_set h with h | rfl
        · exact sweep_mem h
        · exact .inr ⟨x, hxl, rfl⟩
    · have e : sweep l (k + 1) = sweep l k := by
        have hd : (sweep l k).getD k default = default := by
          rw [List.getD_eq_getElem?_getD, List.getElem?_eq_none (by omega)]; rfl
        show (if neverV (sweep l k) ((sweep l k).getD k default) = true then _ else _) = _
        rw [hd]
        exact if_neg (by unfold neverV; simp [default, instInhabitedJV.default])
      rw [e] at h; exact sweep_mem h
/-- Whether all jobs named are Done, plain. -/
theorem ready_any {l : List JV} (hu : Up l) (af : List Int) : (af.any fun v => decide (stAt l v ≠ 3)) = af.any fun v => decide (stOf l v ≠ 3) := by
  congr 1
  funext v
  rw [stAt_stOf hu]
/-! DepsReady. -/
def hits (j x : JV) : Bool := j.af.any fun v => decide (x.id = v)
/-- The i first jobs gone through: those that j waits for are done. -/
def doneFor (l : List JV) (j : JV) : List JV := l.map fun x => if hits j x then { x with st := 3, he := false } else x
def wakes (j : JV) : JV := { j with st := 1, he := false }
theorem doneFor_at {l : List JV} {j : JV} {i : Nat} {x : JV} (h : l[i]? = some x) : (doneFor l j)[i]? = some (if hits j x then { x with st := 3, he := false } else x) := by
  unfold doneFor
  rw [List.getElem?_map, h]
  rfl
theorem want_plain {d0 d1 d2 bo fr tr ag : Int} {ks : List Cls} {l : List JV} {at_ : Nat} {j : JV} (h : tableV d0 d1 d2 bo fr tr ag ks l = 0) (hj : l[at_]? = some j) :
    readyV l j = (decide (j.st = 1) && !j.he && l.all fun x => !hits j x || decide (x.st = 3)) := by
  obtain ⟨hc, hT⟩ := tableV_of h
  have hC := tok_clos hT
  unfold readyV
  congr 1
  rw [Bool.eq_iff_iff, Bool.not_eq_true', List.any_eq_false, List.all_eq_true]
  constructor
  · intro h1 x hx
    rw [Bool.or_eq_true, Bool.not_eq_true', decide_eq_true_eq]
    cases hh : hits j x
    · exact .inl rfl
    · unfold hits at hh
      rw [List.any_eq_true] at hh
      obtain ⟨v, hv, e⟩ := hh
      have e' : x.id = v := by simpa using e
      have := h1 v hv
      rw [← e', stOf_mem hT.rise hx] at this
      exact .inr (by simpa using this)
  · intro h1 v hv
    obtain ⟨i', y, _, hy, e⟩ := hC at_ j hj v hv
    have hy' := List.mem_of_getElem? hy
    have h2 := h1 y hy'
    have hh : hits j y = true := by
      unfold hits
      rw [List.any_eq_true]
      exact ⟨v, hv, by simp [e]⟩
    rw [hh] at h2
    rw [← e, stOf_mem hT.rise hy']
    simpa using h2
theorem after_plain {d0 d1 d2 bo fr tr ag : Int} {ks : List Cls} {l : List JV} {at_ : Nat} {j : JV} (h : tableV d0 d1 d2 bo fr tr ag ks l = 0) (hj : l[at_]? = some j) :
    tableV d0 d1 d2 bo fr tr ag ks ((doneFor l j).set at_ (wakes j)) = 0 ∧ atV ((doneFor l j).set at_ (wakes j)) j.id = at_ ∧ readyV ((doneFor l j).set at_ (wakes j)) (wakes j) = true := by
  obtain ⟨hc, hT⟩ := tableV_of h
  have hC := tok_clos hT
  have hlt := (List.getElem?_eq_some_iff.1 hj).1
  have hlen : (doneFor l j).length = l.length := by unfold doneFor; simp
  have hids : ((doneFor l j).set at_ (wakes j)).map (fun j => j.id) = l.map (fun j => j.id) := by
    refine List.ext_getElem? fun i => ?_
    rw [List.getElem?_map, List.getElem?_map]
    by_cases e : at_ = i
    · subst e
      rw [List.getElem?_set_self (by omega), hj]
      rfl
    · rw [List.getElem?_set_ne e]
      cases hx : l[i]? with
      | none => rw [List.getElem?_eq_none (by rw [hlen]; exact List.getElem?_eq_none_iff.1 hx)]
      | some x =>
        rw [doneFor_at hx]
        simp only [Option.map_some]
        congr 1
        split <;> rfl
  have hu := up_ids hids hT.rise
  have hm : ∀ q ∈ (doneFor l j).set at_ (wakes j), ∃ x ∈ l, q = x ∨ q = { x with st := 3, he := false } ∨ q = { x with st := 1, he := false } := fun q hq => by
    rcases List.mem_or_eq_of_mem_set hq with h1 | rfl
    · unfold doneFor at h1
      obtain ⟨x, hx, rfl⟩ := List.mem_map.1 h1
      refine ⟨x, hx, ?_⟩
      split
      · exact .inr (.inl rfl)
      · exact .inl rfl
    · exact ⟨j, List.mem_of_getElem? hj, .inr (.inr rfl)⟩
  have hck : ∀ (x : JV) (st : Int), (st = 3 ∨ st = 1) → checkV d0 d1 d2 ks x = 0 → checkV d0 d1 d2 ks { x with st := st, he := false } = 0 := fun x st hst h0 => by
    have hp := (check_zero h0).1
    have hp2 : plainB ks.length { x with st := st, he := false } = true := by
      unfold plainB at hp ⊢
      simp only [Bool.and_eq_true] at hp ⊢
      rcases hst with rfl | rfl
      · exact ⟨⟨hp.1.1, hp.1.2⟩, ⟨rfl, rfl⟩, rfl⟩
      · exact ⟨⟨hp.1.1, hp.1.2⟩, ⟨rfl, rfl⟩, rfl⟩
    unfold checkV at h0 ⊢
    rw [if_neg (by simp [hp])] at h0
    rw [if_neg (by simp [hp2])]
    exact h0
  have hget : ((doneFor l j).set at_ (wakes j))[at_]? = some (wakes j) := by rw [List.getElem?_set_self (by omega)]
  refine ⟨tableV_to hc ⟨by rw [List.length_set, hlen]; exact hT.len, fun q hq => ?_, hu, fun q hq => ?_⟩, atV_up (y := wakes j) hu hget, ?_⟩
  · obtain ⟨x, hx, rfl | rfl | rfl⟩ := hm q hq
    · exact hT.each _ hx
    · exact hck x 3 (.inl rfl) (hT.each _ hx)
    · exact hck x 1 (.inr rfl) (hT.each _ hx)
  · obtain ⟨x, hx, e⟩ := hm q hq
    have haf : q.af = x.af := by rcases e with rfl | rfl | rfl <;> rfl
    have h1 := hT.there x hx
    unfold thereB at h1 ⊢
    rw [haf, List.all_eq_true]
    rw [List.all_eq_true] at h1
    intro v hv
    rw [has_ids hids]
    exact h1 v hv
  · unfold readyV
    have h3 : ((wakes j).af.any fun v => decide (stOf ((doneFor l j).set at_ (wakes j)) v ≠ 3)) = false := by
      rw [List.any_eq_false]
      intro v hv
      obtain ⟨i', y, hi, hy, e⟩ := hC at_ j hj v hv
      have hh : hits j y = true := by
        unfold hits
        rw [List.any_eq_true]
        exact ⟨v, hv, by simp [e]⟩
      have hz : ((doneFor l j).set at_ (wakes j))[i']? = some { y with st := 3, he := false } := by
        rw [List.getElem?_set_ne (by omega), doneFor_at hy, if_pos hh]
      have := stOf_mem hu (List.mem_of_getElem? hz)
      have e2 : ({ y with st := 3, he := false } : JV).id = v := e
      rw [e2] at this
      rw [this]
      simp
    rw [h3]
    rfl
end Go.Proofs.Ytfpljpdjohmbaaa.DepsMath2
