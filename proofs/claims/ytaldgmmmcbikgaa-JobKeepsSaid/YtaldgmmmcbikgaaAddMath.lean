/- What job.Add answers, in plain Lean, and what it keeps. No conditions but those named. -/
import Derived.Test.YtaldgmmmcbikgaaJobAdd
import Derived.Test.YtaldgmmmcbikgaaLoose
namespace Go.Proofs.Ytaldgmmmcbikgaa.AddMath
open Go.RowKit Mem PosMath PartMath TurnMath TurnFitsV JobMath JobCheck JobAdd LooseI Loose
set_option linter.unusedVariables false

/-- Ids rise strictly. -/
def Up (l : List JV) : Prop := l.Pairwise fun x y => x.id < y.id
theorem up_of {l : List JV} (h : risesK l l.length = true) : Up l := by
  have h' := risesK_iff.1 h
  unfold Up
  rw [List.pairwise_iff_getElem]
  intro i j hi hj hij
  have key : ∀ d, ∀ (hd : i + (d + 1) < l.length), (l[i]'hi).id < (l[i + (d + 1)]'hd).id := by
    intro d
    induction d with
    | zero =>
      intro hd
      have := h' i (by omega)
      simpa [List.getD_eq_getElem?_getD, List.getElem?_eq_getElem hi, List.getElem?_eq_getElem hd] using this
    | succ d ih =>
      intro hd
      have h1 := ih (by omega)
      have h2 := h' (i + (d + 1)) (by omega)
      have hd' : i + (d + 1) < l.length := by omega
      have hd2 : i + (d + 1) + 1 < l.length := by omega
      have h3 : (l[i + (d + 1)]'hd').id < (l[i + (d + 1) + 1]'hd2).id := by
        simpa [List.getD_eq_getElem?_getD, List.getElem?_eq_getElem hd', List.getElem?_eq_getElem hd2] using h2
      exact Int.lt_trans h1 h3
  obtain ⟨d, rfl⟩ : ∃ d, j = i + (d + 1) := ⟨j - i - 1, by omega⟩
  exact key d hj
theorem of_up {l : List JV} (h : Up l) : risesK l l.length = true := by
  refine risesK_iff.2 fun i hi => ?_
  have h1 := List.pairwise_iff_getElem.1 h i (i + 1) (by omega) hi (by omega)
  simpa [List.getD_eq_getElem?_getD, List.getElem?_eq_getElem hi, List.getElem?_eq_getElem (show i < l.length by omega)] using h1
theorem Up.lt {l : List JV} (h : Up l) {i j : Nat} {x y : JV} (hx : l[i]? = some x) (hy : l[j]? = some y) (hl : x.id < y.id) : i < j := by
  obtain ⟨hi, rfl⟩ := List.getElem?_eq_some_iff.1 hx
  obtain ⟨hj, rfl⟩ := List.getElem?_eq_some_iff.1 hy
  rcases Nat.lt_trichotomy i j with h1 | h1 | h1
  · exact h1
  · subst h1; omega
  · have := List.pairwise_iff_getElem.1 h j i hj hi h1
    omega
theorem firstBad_zero {f : JV → Int} : ∀ {l : List JV}, firstBad f l = 0 → ∀ j ∈ l, f j = 0
  | [], _, j, hj => by cases hj
  | y :: t, h, j, hj => by
    unfold firstBad at h
    by_cases hy : f y = 0
    · rw [if_neg (by simp [hy])] at h
      rcases List.mem_cons.1 hj with rfl | hj
      · exact hy
      · exact firstBad_zero h j hj
    · rw [if_pos hy] at h; exact absurd h hy
/-- A table that may be. -/
structure TOk (f : JV → Int) (l : List JV) : Prop where
  len : l.length ≤ 24
  each : ∀ j ∈ l, f j = 0
  rise : Up l
  there : ∀ j ∈ l, thereB l j = true
theorem tok_of {f : JV → Int} {l : List JV} (h : tableF f l = 0) : TOk f l := by
  unfold tableF at h
  split at h
  · omega
  · rename_i h0
    split at h
    · rename_i h1; exact absurd h h1
    · rename_i h1
      split at h
      · omega
      · rename_i h2
        split at h
        · omega
        · rename_i h3
          exact ⟨by omega, firstBad_zero (by simpa using h1), up_of (by simpa using h2), by simpa [List.all_eq_true] using h3⟩
theorem of_tok {f : JV → Int} {l : List JV} (h : TOk f l) : tableF f l = 0 :=
  tableF_ok (by have := h.len; omega) (fun i y _ hy => h.each y (List.mem_of_getElem? hy)) (of_up h.rise) (fun i y _ hy => h.there y (List.mem_of_getElem? hy))
theorem tableV_of {d0 d1 d2 bo fr tr ag : Int} {ks : List Cls} {l : List JV} (h : tableV d0 d1 d2 bo fr tr ag ks l = 0) : CfgOk d0 d1 d2 bo fr tr ag ks ∧ TOk (checkV d0 d1 d2 ks) l := by
  unfold tableV at h
  split at h
  · rename_i hc; exact ⟨hc, tok_of h⟩
  · omega
theorem tableV_to {d0 d1 d2 bo fr tr ag : Int} {ks : List Cls} {l : List JV} (hc : CfgOk d0 d1 d2 bo fr tr ag ks) (h : TOk (checkV d0 d1 d2 ks) l) : tableV d0 d1 d2 bo fr tr ag ks l = 0 := by
  unfold tableV
  rw [if_pos hc, of_tok h]
def lastB (l : List JV) (j : JV) : Bool := match l[l.length - 1]? with | some x => decide (j.id ≤ x.id) | none => false
theorem last_yes {l : List JV} {j : JV} (h : lastB l j = true) : l ≠ [] ∧ ∀ x, l[l.length - 1]? = some x → j.id ≤ x.id := by
  unfold lastB at h
  refine ⟨fun e => by subst e; simp at h, fun x hx => ?_⟩
  rw [hx] at h
  simpa using h
theorem last_no {l : List JV} {j : JV} (h : lastB l j = false) : ∀ x, l[l.length - 1]? = some x → x.id < j.id := fun x hx => by
  unfold lastB at h
  rw [hx] at h
  have : ¬ j.id ≤ x.id := by simpa using h
  omega
/-- What Add answers. -/
def addV (d0 d1 d2 bo fr tr ag : Int) (ks : List Cls) (l : List JV) (us : List Int) (j : JV) : List JV × Int :=
  if tableV d0 d1 d2 bo fr tr ag ks l ≠ 0 then ([], tableV d0 d1 d2 bo fr tr ag ks l) else if checkV d0 d1 d2 ks (asked j) ≠ 0 then ([], checkV d0 d1 d2 ks (asked j)) else
  if lastB l j = true then ([], 8) else if thereB l j = false then ([], 182) else if l.length < 24 then (l ++ [asked j], 0) else
    match (looseUp l us (asked j) l.length).head? with | some i => ((l ++ [asked j]).eraseIdx i, 0) | none => ([], 9)
/-- What is left of a table where the job at place e goes; e = l.length + 1: none goes. -/
structure KE (l : List JV) (us : List Int) (j : JV) (x : List JV) (e : Nat) : Prop where
  eq : x = (l ++ [asked j]).eraseIdx e
  le : e < l.length ∨ e = l.length + 1
  loose : e < l.length → l.length = 24 ∧ ∀ y, l[e]? = some y → 3 ≤ y.st ∧ y.id ∉ us ∧ y.id ∉ j.af ∧ ∀ z ∈ l, y.id ∉ z.af
  up : Up (l ++ [asked j])
  top : l.length ≤ 24
  room : l.length + 1 = e → l.length < 24
section
variable {l : List JV} {us : List Int} {j : JV} {x : List JV} {e : Nat}
theorem KE.len (h : KE l us j x e) : x.length = if e < l.length then l.length else l.length + 1 := by
  rw [h.eq]
  rcases h.le with h1 | h1
  · rw [if_pos h1, List.length_eraseIdx_of_lt (by simp; omega)]
    simp
  · rw [if_neg (by omega), List.eraseIdx_of_length_le (by simp; omega)]
    simp
/-- Where a job stands that stays. -/
def atK (e i : Nat) : Nat := if e < i then i - 1 else i
theorem KE.at_ (h : KE l us j x e) {i : Nat} {y : JV} (hi : l[i]? = some y) (hne : i ≠ e) : x[atK e i]? = some y ∧ atK e i < x.length - 1 := by
  have hl := (List.getElem?_eq_some_iff.1 hi).1
  have hlen := h.len
  unfold atK
  by_cases hlt : e < i
  · have hel : e < l.length := by omega
    rw [if_pos hel] at hlen
    rw [if_pos hlt]
    refine ⟨?_, by omega⟩
    rw [h.eq, List.getElem?_eraseIdx, if_neg (by omega), show i - 1 + 1 = i by omega, List.getElem?_append_left hl]
    exact hi
  · rw [if_neg hlt]
    refine ⟨?_, by split at hlen <;> omega⟩
    rw [h.eq, List.getElem?_eraseIdx, if_pos (by omega), List.getElem?_append_left hl]
    exact hi
theorem KE.gone (h : KE l us j x e) {y z : JV} (hy : l[e]? = some y) (hz : x[e]? = some z) (hn : e < x.length - 1) : y ≠ z := by
  have hl := (List.getElem?_eq_some_iff.1 hy).1
  rw [h.eq, List.getElem?_eraseIdx, if_neg (by omega)] at hz
  have hy2 : (l ++ [asked j])[e]? = some y := by rw [List.getElem?_append_left hl]; exact hy
  intro e2
  obtain ⟨h1, r1⟩ := List.getElem?_eq_some_iff.1 hy2
  obtain ⟨h2, r2⟩ := List.getElem?_eq_some_iff.1 hz
  have := List.pairwise_iff_getElem.1 h.up e (e + 1) h1 h2 (by omega)
  rw [r1, r2, e2] at this
  omega
theorem KE.last (h : KE l us j x e) : x[x.length - 1]? = some (asked j) := by
  have hlen := h.len
  rcases h.le with h1 | h1
  · rw [if_pos h1] at hlen
    rw [hlen, h.eq, List.getElem?_eraseIdx, if_neg (by omega), show l.length - 1 + 1 = l.length by omega]
    simp
  · rw [if_neg (by omega)] at hlen
    rw [hlen, h.eq, List.eraseIdx_of_length_le (by simp; omega)]
    simp
theorem has_mem {n : Int} : hasB l n = true ↔ ∃ y ∈ l, y.id = n := by
  unfold hasB
  rw [List.any_eq_true]
  simp
theorem KE.tok {f : JV → Int} (h : KE l us j x e) (ht : TOk f l) (hc : f (asked j) = 0) (hj : thereB l j = true) : TOk f x := by
  have hmem : ∀ y ∈ x, y ∈ l ∨ y = asked j := fun y hy => by
    rw [h.eq] at hy
    have := (List.eraseIdx_sublist (l ++ [asked j]) e).subset hy
    simpa using this
  refine ⟨?_, fun y hy => ?_, ?_, fun y hy => ?_⟩
  · have hlen := h.len
    split at hlen
    · have := h.top; omega
    · rename_i hn
      have := h.room (by rcases h.le with h1 | h1 <;> omega)
      omega
  · rcases hmem y hy with h1 | rfl
    · exact ht.each y h1
    · exact hc
  · rw [h.eq]
    exact h.up.sublist (List.eraseIdx_sublist _ _)
  · unfold thereB
    rw [List.all_eq_true]
    intro v hv
    have hold : hasB l v = true := by
      rcases hmem y hy with h1 | rfl
      · have := ht.there y h1
        unfold thereB at this
        exact List.all_eq_true.1 this v hv
      · unfold thereB at hj
        exact List.all_eq_true.1 hj v hv
    obtain ⟨z, hz, hzv⟩ := has_mem.1 hold
    obtain ⟨k, hk⟩ := List.mem_iff_getElem?.1 hz
    refine has_mem.2 ⟨z, ?_, hzv⟩
    by_cases hke : k = e
    · subst hke
      have hkl := (List.getElem?_eq_some_iff.1 hk).1
      obtain ⟨_, _, h3, h4⟩ := (h.loose hkl).2 z hk
      rcases hmem y hy with h1 | rfl
      · exact absurd (by rw [hzv]; exact hv) (h4 y h1)
      · exact absurd (by rw [hzv]; exact hv) h3
    · exact List.mem_of_getElem? (h.at_ hk hke).1
end
theorem up_app {l : List JV} {j : JV} (h : Up l) (hl : lastB l j = false) : Up (l ++ [asked j]) := by
  refine List.pairwise_append.2 ⟨h, List.pairwise_singleton _ _, fun y hy z hz => ?_⟩
  obtain rfl : z = asked j := by simpa using hz
  obtain ⟨k, hk, rfl⟩ := List.mem_iff_getElem.1 hy
  have hlast := last_no hl (l[l.length - 1]'(by omega)) (List.getElem?_eq_getElem _)
  by_cases hkl : k = l.length - 1
  · subst hkl
    exact hlast
  · have := List.pairwise_iff_getElem.1 h k (l.length - 1) hk (by omega) (by omega)
    exact Int.lt_trans this hlast
theorem loose_facts {l : List JV} {us : List Int} {j y : JV} (h : looseB l us (asked j) y = true) : 3 ≤ y.st ∧ y.id ∉ us ∧ y.id ∉ j.af ∧ ∀ z ∈ l, y.id ∉ z.af := by
  unfold looseB at h
  simp only [Bool.not_eq_true', Bool.or_eq_false_iff, decide_eq_false_iff_not, List.any_eq_false, decide_eq_true_eq] at h
  obtain ⟨⟨⟨h1, h2⟩, h3⟩, h4⟩ := h
  exact ⟨by omega, h2, h3, h4⟩
/-- What Add answers where it answers a table. -/
theorem addV_ok {d0 d1 d2 bo fr tr ag : Int} {ks : List Cls} {l : List JV} {us : List Int} {j : JV} (h : (addV d0 d1 d2 bo fr tr ag ks l us j).2 = 0) :
    tableV d0 d1 d2 bo fr tr ag ks (addV d0 d1 d2 bo fr tr ag ks l us j).1 = 0 ∧ ∃ e, KE l us j (addV d0 d1 d2 bo fr tr ag ks l us j).1 e := by
  unfold addV at h ⊢
  by_cases h1 : tableV d0 d1 d2 bo fr tr ag ks l ≠ 0
  · rw [if_pos h1] at h; exact absurd h h1
  rw [if_neg h1] at h ⊢
  obtain ⟨hcfg, ht⟩ := tableV_of (Decidable.not_not.1 h1)
  by_cases h2 : checkV d0 d1 d2 ks (asked j) ≠ 0
  · rw [if_pos h2] at h; exact absurd h h2
  rw [if_neg h2] at h ⊢
  have h2' := Decidable.not_not.1 h2
  by_cases h3 : lastB l j = true
  · rw [if_pos h3] at h; exact absurd h (by simp)
  rw [if_neg h3] at h ⊢
  have h3' : lastB l j = false := by simpa using h3
  by_cases h4 : thereB l j = false
  · rw [if_pos h4] at h; exact absurd h (by simp)
  rw [if_neg h4] at h ⊢
  have h4' : thereB l j = true := by simpa using h4
  by_cases h5 : l.length < 24
  · rw [if_pos h5]
    have k : KE l us j (l ++ [asked j]) (l.length + 1) := ⟨by rw [List.eraseIdx_of_length_le (by simp)], .inr rfl, fun h => by omega, up_app ht.rise h3', by omega, fun _ => h5⟩
    exact ⟨tableV_to hcfg (k.tok ht h2' h4'), _, k⟩
  rw [if_neg h5] at h ⊢
  cases hh : (looseUp l us (asked j) l.length).head? with
  | none => rw [hh] at h; exact absurd h (by simp)
  | some i =>
    obtain ⟨hil, y, hy, hly⟩ := loose_mem (List.mem_of_mem_head? hh)
    have k : KE l us j ((l ++ [asked j]).eraseIdx i) i := ⟨rfl, .inl hil, fun _ => ⟨by have := ht.len; omega, fun z hz => by rw [hy] at hz; cases hz; exact loose_facts hly⟩, up_app ht.rise h3', ht.len, fun h => by omega⟩
    exact ⟨tableV_to hcfg (k.tok ht h2' h4'), _, k⟩
theorem addV_bad {d0 d1 d2 bo fr tr ag : Int} {ks : List Cls} {l : List JV} {us : List Int} {j : JV} (h : (addV d0 d1 d2 bo fr tr ag ks l us j).2 ≠ 0) : (addV d0 d1 d2 bo fr tr ag ks l us j).1 = [] := by
  unfold addV at h ⊢
  repeat' split at h
  all_goals first | (simp only [*]; simp; done) | skip
  all_goals simp_all
end Go.Proofs.Ytaldgmmmcbikgaa.AddMath
