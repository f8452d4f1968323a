/- What is settled may be, and is settled: plain. -/
import Derived.Test.YtfpljpdjohmbaaaJobCheck
import Derived.Test.YtfpljpdjohmbaaaDepsSettle
namespace Go.Proofs.Ytfpljpdjohmbaaa.DepsMath
open Go.RowKit Mem PosMath PartMath TurnMath TurnFitsV JobMath JobCheck DepsStates DepsSettle
set_option linter.unusedVariables false

/-- Ids rise strictly. -/
def Up (l : List JV) : Prop := l.Pairwise fun x y => x.id < y.id
theorem up_of {l : List JV} (h : risesK l l.length = true) : Up l := by
  have h' := risesK_iff.1 h
  unfold Up
  rw [List.pairwise_iff_getElem]
  intro i j hi hj hij
  have key : ∀ d, ∀ (hd : i + (d + 1) < l.length), (l[i]'hi).id < (l[i + (d + 1)]'hd).id := by
    intro d
    induction d with
    | zero =>
      intro hd
      have := h' i (by omega)
      simpa [List.getD_eq_getElem?_getD, List.getElem?_eq_getElem hi, List.getElem?_eq_getElem hd] using this
    | succ d ih =>
      intro hd
      have h1 := ih (by omega)
      have h2 := h' (i + (d + 1)) (by omega)
      have hd' : i + (d + 1) < l.length := by omega
      have hd2 : i + (d + 1) + 1 < l.length := by omega
      have h3 : (l[i + (d + 1)]'hd').id < (l[i + (d + 1) + 1]'hd2).id := by
        simpa [List.getD_eq_getElem?_getD, List.getElem?_eq_getElem hd', List.getElem?_eq_getElem hd2] using h2
      exact Int.lt_trans h1 h3
  obtain ⟨d, rfl⟩ : ∃ d, j = i + (d + 1) := ⟨j - i - 1, by omega⟩
  exact key d hj
theorem of_up {l : List JV} (h : Up l) : risesK l l.length = true := by
  refine risesK_iff.2 fun i hi => ?_
  have h1 := List.pairwise_iff_getElem.1 h i (i + 1) (by omega) hi (by omega)
  simpa [List.getD_eq_getElem?_getD, List.getElem?_eq_getElem hi, List.getElem?_eq_getElem (show i < l.length by omega)] using h1
theorem Up.lt {l : List JV} (h : Up l) {i j : Nat} {x y : JV} (hx : l[i]? = some x) (hy : l[j]? = some y) (hl : x.id < y.id) : i < j := by
  obtain ⟨hi, rfl⟩ := List.getElem?_eq_some_iff.1 hx
  obtain ⟨hj, rfl⟩ := List.getElem?_eq_some_iff.1 hy
  rcases Nat.lt_trichotomy i j with h1 | h1 | h1
  · exact h1
  · subst h1; omega
  · have := List.pairwise_iff_getElem.1 h j i hj hi h1
    omega
/-- A state is its job's. -/
theorem stOf_none : ∀ {l : List JV} {f : Int → Int} {n : Int}, (∀ j ∈ l, j.id ≠ n) → l.foldl (fun f j => stUpd f j.id j.st) f n = f n
  | [], _, _, _ => rfl
  | x :: t, f, n, h => by
    rw [List.foldl_cons, stOf_none fun j hj => h j (List.mem_cons_of_mem _ hj)]
    unfold stUpd
    rw [if_neg fun e => h x (List.mem_cons_self ..) e.symm]
theorem stOf_fold : ∀ {l : List JV} {f : Int → Int} {x : JV}, Up l → x ∈ l → l.foldl (fun f j => stUpd f j.id j.st) f x.id = x.st
  | [], _, _, _, h => by cases h
  | y :: t, f, x, hu, hx => by
    have hu' := List.pairwise_cons.1 hu
    rw [List.foldl_cons]
    rcases List.mem_cons.1 hx with rfl | hx
    · rw [stOf_none fun j hj => by have := hu'.1 j hj; omega]
      unfold stUpd
      rw [if_pos rfl]
    · exact stOf_fold hu'.2 hx
theorem stOf_mem {l : List JV} {x : JV} (hu : Up l) (hx : x ∈ l) : stOf l x.id = x.st := stOf_fold hu hx
theorem stOf_not {l : List JV} {n : Int} (h : ∀ j ∈ l, j.id ≠ n) : stOf l n = 0 := stOf_none h
/-- What settling leaves of each job. -/
theorem stepS_past {l : List JV} {k : Nat} (hk : l.length ≤ k) : stepS l (k + 1) = stepS l k := by
  have hd : (stepS l k).1.getD k default = default := by
    rw [List.getD_eq_getElem?_getD, List.getElem?_eq_none (by rw [stepS_len]; omega)]; rfl
  show (if ill (stepS l k).2 ((stepS l k).1.getD k default) = true then _ else _) = _
  rw [hd]
  exact if_neg (by unfold ill; simp [default, instInhabitedJV.default])
theorem stepS_each (l : List JV) : ∀ (k i : Nat) (x : JV), l[i]? = some x → (stepS l k).1[i]? = some x ∨ (x.st = 1 ∧ (stepS l k).1[i]? = some (cancel x))
  | 0, i, x, h => .inl h
  | k + 1, i, x, h => by
    have ih := stepS_each l k i x h
    by_cases hk : k < l.length
    · have hg : l[k]? = some l[k] := List.getElem?_eq_getElem hk
      generalize l[k] = y at hg
      have hil := (List.getElem?_eq_some_iff.1 h).1
      cases hi : ill (stepS l k).2 y
      · rw [stepS_no hg hi]; exact ih
      · rw [stepS_yes hg hi]
        by_cases e : i = k
        · subst e
          rw [hg] at h
          cases h
          refine .inr ⟨?_, ?_⟩
          · unfold ill at hi
            simp at hi
            exact hi.1
          · simp only
            rw [List.getElem?_set_self (by rw [stepS_len]; exact hil)]
        · simp only
          rw [List.getElem?_set_ne (fun h => e h.symm)]
          exact ih
    · have e : stepS l (k + 1) = stepS l k := stepS_past (by omega)
      rw [e]; exact ih
theorem stepS_ids (l : List JV) (k : Nat) : (stepS l k).1.map (fun j => j.id) = l.map (fun j => j.id) := by
  refine List.ext_getElem? fun i => ?_
  rw [List.getElem?_map, List.getElem?_map]
  cases h : l[i]? with
  | none => rw [List.getElem?_eq_none (by rw [stepS_len]; exact List.getElem?_eq_none_iff.1 h)]
  | some x =>
    rcases stepS_each l k i x h with e | ⟨_, e⟩ <;> rw [e] <;> rfl
theorem up_ids {l m : List JV} (h : l.map (fun j => j.id) = m.map (fun j => j.id)) (hu : Up m) : Up l := by
  have h1 : (m.map (fun j => j.id)).Pairwise (· < ·) := List.pairwise_map.2 hu
  rw [← h] at h1
  exact List.pairwise_map.1 h1
theorem has_ids {l m : List JV} (h : l.map (fun j => j.id) = m.map (fun j => j.id)) (n : Int) : hasB l n = hasB m n := by
  have e : ∀ l : List JV, hasB l n = (l.map (fun j => j.id)).any (fun k => decide (k = n)) := fun l => by unfold hasB; rw [List.any_map]; rfl
  rw [e, e, h]
theorem stOf_eq {l m : List JV} (hl : Up l) (hm : Up m) {n : Int} (h : ∀ j : JV, j.id = n → (j ∈ l ↔ j ∈ m)) : stOf l n = stOf m n := by
  by_cases hx : ∃ j ∈ l, j.id = n
  · obtain ⟨j, hj, rfl⟩ := hx
    rw [stOf_mem hl hj, stOf_mem hm ((h j rfl).1 hj)]
  · rw [stOf_not (fun j hj e => hx ⟨j, hj, e⟩), stOf_not (fun j hj e => hx ⟨j, (h j e).2 hj, e⟩)]
theorem stepS_up {l : List JV} (hu : Up l) (k : Nat) : Up (stepS l k).1 := up_ids (stepS_ids l k) hu
theorem stepS_cur {l : List JV} {k : Nat} {x : JV} (h : l[k]? = some x) : (stepS l k).1[k]? = some x := (stepS_at l k k (Nat.le_refl _)).trans h
theorem stepS_states {l : List JV} (hu : Up l) : ∀ (k : Nat) (n : Int), (stepS l k).2 n = stOf (stepS l k).1 n
  | 0, n => rfl
  | k + 1, n => by
    have ih := stepS_states hu k
    by_cases hk : k < l.length
    · have hg : l[k]? = some l[k] := List.getElem?_eq_getElem hk
      generalize l[k] = x at hg
      cases hi : ill (stepS l k).2 x
      · rw [stepS_no hg hi]; exact ih n
      · have hcur := stepS_cur hg
        have hup := stepS_up hu (k + 1)
        have hup0 := stepS_up hu k
        rw [stepS_yes hg hi] at hup ⊢
        simp only at hup ⊢
        have hkl : k < (stepS l k).1.length := by rw [stepS_len]; exact hk
        unfold stUpd
        by_cases hn : n = x.id
        · rw [if_pos hn, hn]
          have hm : cancel x ∈ (stepS l k).1.set k (cancel x) := List.mem_of_getElem? (i := k) (by rw [List.getElem?_set_self hkl])
          have := stOf_mem hup hm
          exact this.symm
        · rw [if_neg hn, ih n]
          refine stOf_eq hup0 hup fun j hj => ?_
          constructor
          · intro hm
            obtain ⟨i, hi'⟩ := List.mem_iff_getElem?.1 hm
            have hik : k ≠ i := fun e => by
              subst e
              rw [hcur] at hi'
              cases hi'
              exact hn hj.symm
            exact List.mem_of_getElem? (i := i) (by rw [List.getElem?_set_ne hik]; exact hi')
          · intro hm
            obtain ⟨i, hi'⟩ := List.mem_iff_getElem?.1 hm
            have hik : k ≠ i := fun e => by
              subst e
              rw [List.getElem?_set_self hkl] at hi'
              cases hi'
              exact hn hj.symm
            rw [List.getElem?_set_ne hik] at hi'
            exact List.mem_of_getElem? hi'
    · rw [stepS_past (by omega)]; exact ih n
/-- What has been gone through stays. -/
theorem stepS_keep {l : List JV} {i : Nat} : ∀ {k k' : Nat}, k ≤ k' → i < k → (stepS l k').1[i]? = (stepS l k).1[i]? := by
  intro k k' h hi
  obtain ⟨d, rfl⟩ : ∃ d, k' = k + d := ⟨k' - k, by omega⟩
  induction d with
  | zero => rfl
  | succ d ih =>
    rw [← ih (by omega)]
    by_cases hk : k + d < l.length
    · have hg : l[k + d]? = some l[k + d] := List.getElem?_eq_getElem hk
      generalize l[k + d] = x at hg
      cases hil : ill (stepS l (k + d)).2 x
      · rw [show k + (d + 1) = k + d + 1 from rfl, stepS_no hg hil]
      · rw [show k + (d + 1) = k + d + 1 from rfl, stepS_yes hg hil]
        simp only
        rw [List.getElem?_set_ne (by omega)]
    · rw [show k + (d + 1) = k + d + 1 from rfl, stepS_past (by omega)]
/-- Each waits for jobs ahead of it in the table alone. -/
def Clos (l : List JV) : Prop := ∀ (i : Nat) (x : JV), l[i]? = some x → ∀ v ∈ x.af, ∃ (i' : Nat) (y : JV), i' < i ∧ l[i']? = some y ∧ y.id = v
/-- Settled: none that waits has one that ended otherwise than well. -/
def Calm (l : List JV) : Prop := ∀ j ∈ l, j.st = 1 → ∀ v ∈ j.af, stOf l v ≤ 3
theorem calm_steps {l : List JV} (h : Calm l) : ∀ k, stepS l k = (l, stOf l)
  | 0 => rfl
  | k + 1 => by
    by_cases hk : k < l.length
    · have hg : l[k]? = some l[k] := List.getElem?_eq_getElem hk
      have hmem := List.getElem_mem hk
      generalize l[k] = x at hg hmem
      have hi : ill (stepS l k).2 x = false := by
        rw [calm_steps h k]
        unfold ill
        by_cases h1 : x.st = 1
        · rw [decide_eq_true h1, Bool.true_and, List.any_eq_false]
          intro v hv
          have := h x hmem h1 v hv
          simp
          omega
        · rw [decide_eq_false h1]; rfl
      rw [stepS_no hg hi]; exact calm_steps h k
    · rw [stepS_past (by omega)]; exact calm_steps h k
theorem calm_settled {l : List JV} (h : Calm l) : settleV l = l := by unfold settleV; rw [calm_steps h]
theorem settled_calm {l : List JV} (hu : Up l) (hc : Clos l) : Calm (settleV l) := by
  intro j hj hs v hv
  obtain ⟨i, hi⟩ := List.mem_iff_getElem?.1 hj
  unfold settleV at hi
  have hil : i < l.length := by have := (List.getElem?_eq_some_iff.1 hi).1; rwa [stepS_len] at this
  have hg : l[i]? = some l[i] := List.getElem?_eq_getElem hil
  generalize l[i] = x at hg
  have hjx : j = x := by
    rcases stepS_each l l.length i x hg with e | ⟨_, e⟩
    · rw [e] at hi; exact (Option.some.inj hi).symm
    · rw [e] at hi
      have := (Option.some.inj hi).symm
      rw [this] at hs
      simp [cancel] at hs
  subst hjx
  have hno : ill (stepS l i).2 j = false := by
    cases h : ill (stepS l i).2 j
    · rfl
    · exfalso
      have h1 : (stepS l (i + 1)).1[i]? = some (cancel j) := by
        rw [stepS_yes hg h]
        simp only
        rw [List.getElem?_set_self (by rw [stepS_len]; exact hil)]
      have h2 := stepS_keep (l := l) (i := i) (k := i + 1) (k' := l.length) (by omega) (by omega)
      rw [h1, hi] at h2
      have := Option.some.inj h2
      rw [this] at hs
      simp [cancel] at hs
  obtain ⟨i', y, hii, hy, rfl⟩ := hc i j hg v hv
  have hle : (stepS l i).2 y.id ≤ 3 := by
    unfold ill at hno
    rw [decide_eq_true hs, Bool.true_and, List.any_eq_false] at hno
    have := hno y.id hv
    simp at this
    omega
  rw [stepS_states hu] at hle
  have hkeep := stepS_keep (l := l) (i := i') (k := i) (k' := l.length) (by omega) hii
  have hy2 : ∃ z, (stepS l i).1[i']? = some z ∧ z.id = y.id := by
    rcases stepS_each l i i' y hy with e | ⟨_, e⟩
    · exact ⟨_, e, rfl⟩
    · exact ⟨_, e, rfl⟩
  obtain ⟨z, hz, hzi⟩ := hy2
  rw [← hzi] at hle ⊢
  rw [stOf_mem (stepS_up hu i) (List.mem_of_getElem? hz)] at hle
  have hz2 : (stepS l l.length).1[i']? = some z := hkeep.trans hz
  unfold settleV
  rw [stOf_mem (stepS_up hu l.length) (List.mem_of_getElem? hz2)]
  exact hle
theorem up_take {l : List JV} (h : Up l) (n : Nat) : Up (l.take n) := h.sublist (List.take_sublist n l)
theorem clos_take {l : List JV} (h : Clos l) (n : Nat) : Clos (l.take n) := fun i x hi v hv => by
  have hil : i < n := by have := (List.getElem?_eq_some_iff.1 hi).1; simp at this; omega
  rw [List.getElem?_take_of_lt hil] at hi
  obtain ⟨i', y, h1, h2, h3⟩ := h i x hi v hv
  exact ⟨i', y, h1, by rw [List.getElem?_take_of_lt (by omega)]; exact h2, h3⟩
theorem calm_take {l : List JV} (hu : Up l) (hc : Clos l) (h : Calm l) (n : Nat) : Calm (l.take n) := fun j hj hs v hv => by
  obtain ⟨i, hi⟩ := List.mem_iff_getElem?.1 hj
  have hil : i < n := by have := (List.getElem?_eq_some_iff.1 hi).1; simp at this; omega
  obtain ⟨i', y, h1, h2, rfl⟩ := clos_take hc n i j hi v hv
  rw [List.getElem?_take_of_lt hil] at hi
  rw [stOf_mem (up_take hu n) (List.mem_of_getElem? h2)]
  rw [List.getElem?_take_of_lt (by omega)] at h2
  have := h j (List.mem_of_getElem? hi) hs y.id hv
  rwa [stOf_mem hu (List.mem_of_getElem? h2)] at this
theorem settled_clos {l : List JV} (hc : Clos l) : Clos (settleV l) := fun i x hi v hv => by
  unfold settleV at hi ⊢
  have hil : i < l.length := by have := (List.getElem?_eq_some_iff.1 hi).1; rwa [stepS_len] at this
  have hg : l[i]? = some l[i] := List.getElem?_eq_getElem hil
  generalize l[i] = q at hg
  have haf : x.af = q.af := by
    rcases stepS_each l l.length i q hg with e | ⟨_, e⟩
    · rw [e] at hi; rw [← Option.some.inj hi]
    · rw [e] at hi; rw [← Option.some.inj hi]; rfl
  rw [haf] at hv
  obtain ⟨i', y, h1, h2, h3⟩ := hc i q hg v hv
  rcases stepS_each l l.length i' y h2 with e | ⟨_, e⟩
  · exact ⟨i', _, h1, e, h3⟩
  · exact ⟨i', _, h1, e, h3⟩
theorem firstBad_zero {f : JV → Int} : ∀ {l : List JV}, firstBad f l = 0 → ∀ j ∈ l, f j = 0
  | [], _, j, hj => by cases hj
  | y :: t, h, j, hj => by
    unfold firstBad at h
    by_cases hy : f y = 0
    · rw [if_neg (by simp [hy])] at h
      rcases List.mem_cons.1 hj with rfl | hj
      · exact hy
      · exact firstBad_zero h j hj
    · rw [if_pos hy] at h; exact absurd h hy
/-- A table that may be. -/
structure TOk (f : JV → Int) (l : List JV) : Prop where
  len : l.length ≤ 24
  each : ∀ j ∈ l, f j = 0
  rise : Up l
  there : ∀ j ∈ l, thereB l j = true
theorem tok_of {f : JV → Int} {l : List JV} (h : tableF f l = 0) : TOk f l := by
  unfold tableF at h
  split at h
  · omega
  · rename_i h0
    split at h
    · rename_i h1; exact absurd h h1
    · rename_i h1
      split at h
      · omega
      · rename_i h2
        split at h
        · omega
        · rename_i h3
          exact ⟨by omega, firstBad_zero (by simpa using h1), up_of (by simpa using h2), by simpa [List.all_eq_true] using h3⟩
theorem of_tok {f : JV → Int} {l : List JV} (h : TOk f l) : tableF f l = 0 :=
  tableF_ok (by have := h.len; omega) (fun i y _ hy => h.each y (List.mem_of_getElem? hy)) (of_up h.rise) (fun i y _ hy => h.there y (List.mem_of_getElem? hy))
theorem tableV_of {d0 d1 d2 bo fr tr ag : Int} {ks : List Cls} {l : List JV} (h : tableV d0 d1 d2 bo fr tr ag ks l = 0) : CfgOk d0 d1 d2 bo fr tr ag ks ∧ TOk (checkV d0 d1 d2 ks) l := by
  unfold tableV at h
  split at h
  · rename_i hc; exact ⟨hc, tok_of h⟩
  · omega
theorem tableV_to {d0 d1 d2 bo fr tr ag : Int} {ks : List Cls} {l : List JV} (hc : CfgOk d0 d1 d2 bo fr tr ag ks) (h : TOk (checkV d0 d1 d2 ks) l) : tableV d0 d1 d2 bo fr tr ag ks l = 0 := by
  unfold tableV
  rw [if_pos hc, of_tok h]
theorem ris_lt {top : Int} : ∀ {l : List Int} {last : Int}, risB top last l = true → ∀ v ∈ l, v < top
  | [], _, _, v, hv => by cases hv
  | y :: t, last, h, v, hv => by
    unfold risB at h
    rw [Bool.and_eq_true, Bool.and_eq_true, decide_eq_true_eq, decide_eq_true_eq] at h
    rcases List.mem_cons.1 hv with rfl | hv
    · exact h.1.2
    · exact ris_lt h.2 v hv
theorem check_zero {d0 d1 d2 : Int} {ks : List Cls} {j : JV} (h : checkV d0 d1 d2 ks j = 0) : plainB ks.length j = true ∧ afterB j = true := by
  unfold checkV at h
  split at h
  · omega
  · rename_i h1
    split at h
    · omega
    · rename_i h2
      exact ⟨by simpa using h1, by simpa using h2⟩
theorem tok_clos {d0 d1 d2 : Int} {ks : List Cls} {l : List JV} (h : TOk (checkV d0 d1 d2 ks) l) : Clos l := by
  intro i x hi v hv
  have hx := List.mem_of_getElem? hi
  have h1 := h.there x hx
  unfold thereB at h1
  rw [List.all_eq_true] at h1
  have h2 := h1 v hv
  unfold hasB at h2
  rw [List.any_eq_true] at h2
  obtain ⟨y, hy, e⟩ := h2
  have e' : y.id = v := by simpa using e
  obtain ⟨i', hi'⟩ := List.mem_iff_getElem?.1 hy
  have ha := (check_zero (h.each x hx)).2
  unfold afterB at ha
  rw [Bool.and_eq_true] at ha
  have hlt := ris_lt ha.2 v hv
  exact ⟨i', y, h.rise.lt hi' hi (by omega), hi', e'⟩
theorem check_cancel {d0 d1 d2 : Int} {ks : List Cls} {j : JV} (h : checkV d0 d1 d2 ks j = 0) : checkV d0 d1 d2 ks (cancel j) = 0 := by
  have hp := (check_zero h).1
  have hp2 : plainB ks.length (cancel j) = true := by
    unfold plainB at hp ⊢
    unfold cancel
    simp only [Bool.and_eq_true] at hp ⊢
    refine ⟨⟨hp.1.1, hp.1.2⟩, ⟨rfl, rfl⟩, rfl⟩
  unfold checkV at h ⊢
  rw [if_neg (by simp [hp])] at h
  rw [if_neg (by simp [hp2])]
  exact h
theorem settled_at {l : List JV} {j : JV} (hj : j ∈ settleV l) : ∃ x ∈ l, j = x ∨ (x.st = 1 ∧ j = cancel x) := by
  obtain ⟨i, hi⟩ := List.mem_iff_getElem?.1 hj
  unfold settleV at hi
  have hil : i < l.length := by have := (List.getElem?_eq_some_iff.1 hi).1; rwa [stepS_len] at this
  have hg : l[i]? = some l[i] := List.getElem?_eq_getElem hil
  have hm := List.getElem_mem hil
  generalize l[i] = x at hg hm
  refine ⟨x, hm, ?_⟩
  rcases stepS_each l l.length i x hg with e | ⟨h1, e⟩
  · rw [e] at hi; exact .inl (Option.some.inj hi).symm
  · rw [e] at hi; exact .inr ⟨h1, (Option.some.inj hi).symm⟩
theorem tok_settled {d0 d1 d2 : Int} {ks : List Cls} {l : List JV} (h : TOk (checkV d0 d1 d2 ks) l) : TOk (checkV d0 d1 d2 ks) (settleV l) := by
  refine ⟨by have := h.len; unfold settleV; rw [stepS_len]; exact this, fun j hj => ?_, stepS_up h.rise _, fun j hj => ?_⟩
  · obtain ⟨x, hx, rfl | ⟨_, rfl⟩⟩ := settled_at hj
    · exact h.each _ hx
    · exact check_cancel (h.each _ hx)
  · obtain ⟨x, hx, e⟩ := settled_at hj
    have haf : j.af = x.af := by rcases e with rfl | ⟨_, rfl⟩ <;> rfl
    have h1 := h.there x hx
    unfold thereB at h1 ⊢
    rw [haf, List.all_eq_true]
    rw [List.all_eq_true] at h1
    intro v hv
    rw [show hasB (settleV l) v = hasB l v from has_ids (stepS_ids l l.length) v]
    exact h1 v hv
theorem tok_take {d0 d1 d2 : Int} {ks : List Cls} {l : List JV} (h : TOk (checkV d0 d1 d2 ks) l) (n : Nat) : TOk (checkV d0 d1 d2 ks) (l.take n) := by
  refine ⟨by have := h.len; simp; omega, fun j hj => h.each j (List.mem_of_mem_take hj), up_take h.rise n, fun j hj => ?_⟩
  obtain ⟨i, hi⟩ := List.mem_iff_getElem?.1 hj
  unfold thereB
  rw [List.all_eq_true]
  intro v hv
  obtain ⟨i', y, _, hy, e⟩ := clos_take (tok_clos h) n i j hi v hv
  unfold hasB
  rw [List.any_eq_true]
  exact ⟨y, List.mem_of_getElem? hy, by simp [e]⟩
theorem stOf_le {l : List JV} (hu : Up l) (h : ∀ j ∈ l, j.st ≤ 3) (v : Int) : stOf l v ≤ 3 := by
  by_cases hx : ∃ j ∈ l, j.id = v
  · obtain ⟨j, hj, rfl⟩ := hx
    rw [stOf_mem hu hj]; exact h j hj
  · rw [stOf_not fun j hj e => hx ⟨j, hj, e⟩]; omega
/-- What DepsIdle says. -/
theorem idle_plain {d0 d1 d2 bo fr tr ag : Int} {ks : List Cls} {l : List JV} (h : tableV d0 d1 d2 bo fr tr ag ks l = 0) :
    (l.any (fun j => decide (3 < j.st)) = false → settleV l = l) ∧ ∀ n, tableV d0 d1 d2 bo fr tr ag ks ((settleV l).take n) = 0 ∧ settleV ((settleV l).take n) = (settleV l).take n := by
  obtain ⟨hc, hT⟩ := tableV_of h
  refine ⟨fun hi => calm_settled fun j hj _ v _ => stOf_le hT.rise (fun j hj => ?_) v, fun n => ⟨tableV_to hc (tok_take (tok_settled hT) n), ?_⟩⟩
  · rw [List.any_eq_false] at hi
    have := hi j hj
    simp at this
    omega
  · have hC := tok_clos hT
    exact calm_settled (calm_take (stepS_up hT.rise _) (settled_clos hC) (settled_calm hT.rise hC) n)
theorem atV_up {l : List JV} (hu : Up l) {i : Nat} {y : JV} (hy : l[i]? = some y) : atV l y.id = i :=
  atV_at hy rfl fun k x hk hx e => by
    have := hu
    obtain ⟨h1, rfl⟩ := List.getElem?_eq_some_iff.1 hx
    obtain ⟨h2, rfl⟩ := List.getElem?_eq_some_iff.1 hy
    have := List.pairwise_iff_getElem.1 hu k i h1 h2 hk
    omega
/-- What DepsSettles says. -/
theorem settles_plain {d0 d1 d2 bo fr tr ag : Int} {ks : List Cls} {l : List JV} (h : tableV d0 d1 d2 bo fr tr ag ks l = 0) :
    tableV d0 d1 d2 bo fr tr ag ks (settleV l) = 0 ∧ settleV (settleV l) = settleV l ∧ ∀ (i : Nat) (p q : JV), l[i]? = some p → (settleV l)[i]? = some q →
      (q = p ∨ (p.st = 1 ∧ q = cancel p)) ∧ (q.st = 1 → ∀ v ∈ q.af, ∃ (i' : Nat) (y : JV), atV (settleV l) v = i' ∧ i' < i ∧ (settleV l)[i']? = some y ∧ y.st ≤ 3) := by
  obtain ⟨hc, hT⟩ := tableV_of h
  have hC := tok_clos hT
  have hU := stepS_up hT.rise l.length
  have hcalm := settled_calm hT.rise hC
  refine ⟨tableV_to hc (tok_settled hT), calm_settled hcalm, fun i p q hp hq => ⟨?_, fun hs v hv => ?_⟩⟩
  · have hq2 : (stepS l l.length).1[i]? = some q := hq
    rcases stepS_each l l.length i p hp with e | ⟨h1, e⟩
    · rw [e] at hq2; exact .inl (Option.some.inj hq2).symm
    · rw [e] at hq2; exact .inr ⟨h1, (Option.some.inj hq2).symm⟩
  · obtain ⟨i', y, h1, h2, rfl⟩ := settled_clos hC i q hq v hv
    refine ⟨i', y, atV_up hU h2, h1, h2, ?_⟩
    have := hcalm q (List.mem_of_getElem? hq) hs y.id hv
    have e : stOf (settleV l) y.id = y.st := stOf_mem hU (List.mem_of_getElem? h2)
    rwa [e] at this
end Go.Proofs.Ytfpljpdjohmbaaa.DepsMath
