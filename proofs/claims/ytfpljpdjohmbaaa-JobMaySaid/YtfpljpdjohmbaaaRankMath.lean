/- Keys and orders, plain. -/
import Derived.Shelf.SlSortCmp.NoneTotal
import Derived.Test.YtfpljpdjohmbaaaDepsMath
namespace Go.Proofs.Ytfpljpdjohmbaaa.RankMath
open Go.RowKit Mem PosMath PartMath TurnMath TurnFitsV JobMath JobCheck DepsMath
open Go.Sort (SWO)
set_option linter.unusedVariables false
set_option linter.unusedSimpArgs false

def keyV (ks : List Cls) (ag : Int) (j : JV) : Int := ((clsOf ks j.cl).1 + j.pr) * ag - j.ca
def waitsB (j : JV) : Bool := decide (j.st = 1) && !j.he
def pairV (ks : List Cls) (ag : Int) (j : JV) : Int × Int := (-(keyV ks ag j), j.id)

def cmpP (x y : Int × Int) : Int := if cmpI x.1 y.1 ≠ 0 then cmpI x.1 y.1 else cmpI x.2 y.2
def leP (x y : Int × Int) : Bool := !(ltOf cmpP) y x
def ordP (l : List (Int × Int)) : List (Int × Int) := l.mergeSort leP
/-- Those that wait, the pairs that they are ordered by. -/
def pairs (ks : List Cls) (ag : Int) (l : List JV) : List (Int × Int) := (l.filter waitsB).map (pairV ks ag)
def orderV (ks : List Cls) (ag : Int) (l : List JV) : List Int := (ordP (pairs ks ag l)).map (·.2)
theorem lt_iff (x y : Int × Int) : ltOf cmpP x y = true ↔ x.1 < y.1 ∨ (x.1 = y.1 ∧ x.2 < y.2) := by
  unfold ltOf cmpP cmpI
  rw [decide_eq_true_eq]
  repeat' split
  all_goals omega
theorem lt_false (x y : Int × Int) : ltOf cmpP x y = false ↔ ¬ (x.1 < y.1 ∨ (x.1 = y.1 ∧ x.2 < y.2)) := by
  rw [← lt_iff, Bool.not_eq_true]
theorem swo : SWO (ltOf cmpP) := by
  refine ⟨fun x => ?_, fun x y z h1 h2 => ?_, fun x y z h1 h2 => ?_⟩
  · rw [lt_false]; omega
  · rw [lt_iff] at *; omega
  · rw [lt_false] at *; omega
theorem parts (x y : Int × Int) (h1 : ltOf cmpP x y = false) (h2 : ltOf cmpP y x = false) : x = y := by
  rw [lt_false] at *
  exact Prod.ext (by omega) (by omega)
theorem le_iff (x y : Int × Int) : leP x y = true ↔ x.1 < y.1 ∨ (x.1 = y.1 ∧ x.2 ≤ y.2) := by
  unfold leP
  rw [Bool.not_eq_true', lt_false]
  omega
theorem le_anti (x y : Int × Int) (h1 : leP x y = true) (h2 : leP y x = true) : x = y := by
  rw [le_iff] at *
  exact Prod.ext (by omega) (by omega)
theorem ord_perm (l : List (Int × Int)) : (ordP l).Perm l := List.mergeSort_perm l leP
theorem ord_sorted (l : List (Int × Int)) : (ordP l).Pairwise fun x y => leP x y = true :=
  List.pairwise_mergeSort (fun a b c h1 h2 => by rw [le_iff] at *; omega) (fun a b => by
    rw [Bool.or_eq_true, le_iff, le_iff]; omega) l
theorem ord_uniq {l m : List (Int × Int)} (hp : m.Perm l) (hs : m.Pairwise fun x y => leP x y = true) : m = ordP l :=
  List.Perm.eq_of_pairwise (fun a b _ _ h1 h2 => le_anti a b h1 h2) hs (ord_sorted l) (hp.trans (ord_perm l).symm)
theorem order_len (ks : List Cls) (ag : Int) (l : List JV) : (orderV ks ag l).length = (l.filter waitsB).length := by
  unfold orderV
  rw [List.length_map, (ord_perm _).length_eq]
  unfold pairs
  rw [List.length_map]
/-- Who is in the order. -/
theorem order_at {ks : List Cls} {ag : Int} {l : List JV} {i : Nat} {p : Int × Int} (h : (ordP (pairs ks ag l))[i]? = some p) : ∃ (k : Nat) (j : JV), l[k]? = some j ∧ waitsB j = true ∧ p = pairV ks ag j := by
  have h1 := (ord_perm _).mem_iff.1 (List.mem_of_getElem? h)
  unfold pairs at h1
  obtain ⟨j, hj, rfl⟩ := List.mem_map.1 h1
  obtain ⟨hj, hw⟩ := List.mem_filter.1 hj
  obtain ⟨k, hk⟩ := List.mem_iff_getElem?.1 hj
  exact ⟨k, j, hk, hw, rfl⟩
theorem order_get {ks : List Cls} {ag : Int} {l : List JV} {i : Nat} {n : Int} (h : (orderV ks ag l)[i]? = some n) : ∃ p, (ordP (pairs ks ag l))[i]? = some p ∧ p.2 = n := by
  unfold orderV at h
  rw [List.getElem?_map] at h
  cases hp : (ordP (pairs ks ag l))[i]? with
  | none => rw [hp] at h; cases h
  | some p => rw [hp] at h; exact ⟨p, rfl, Option.some.inj h⟩
theorem pairs_nodup {ks : List Cls} {ag : Int} {l : List JV} (hu : Up l) : (ordP (pairs ks ag l)).Pairwise fun x y => x.2 ≠ y.2 := by
  have h1 : (pairs ks ag l).Pairwise fun x y => x.2 ≠ y.2 := by
    unfold pairs
    refine List.pairwise_map.2 ?_
    refine List.Pairwise.imp ?_ (List.Pairwise.filter waitsB hu)
    intro a b hab
    show a.id ≠ b.id
    omega
  exact (ord_perm _).symm.pairwise h1 fun hxy => hxy.symm
/-- Two neighbours. -/
theorem order_next {ks : List Cls} {ag : Int} {l : List JV} (hu : Up l) {i : Nat} {p q : Int × Int} (hp : (ordP (pairs ks ag l))[i]? = some p) (hq : (ordP (pairs ks ag l))[i + 1]? = some q) : p.1 < q.1 ∨ (p.1 = q.1 ∧ p.2 < q.2) := by
  obtain ⟨h1, rfl⟩ := List.getElem?_eq_some_iff.1 hp
  obtain ⟨h2, rfl⟩ := List.getElem?_eq_some_iff.1 hq
  have a := List.pairwise_iff_getElem.1 (ord_sorted (pairs ks ag l)) i (i + 1) h1 h2 (by omega)
  have b := List.pairwise_iff_getElem.1 (pairs_nodup (ks := ks) (ag := ag) hu) i (i + 1) h1 h2 (by omega)
  rw [le_iff] at a
  omega
/-- All came as much later. -/
def shift (by_ : Int) (j : JV) : JV := { j with ca := j.ca + by_ }
theorem order_shift (ks : List Cls) (ag by_ : Int) (l : List JV) : orderV ks ag (l.map (shift by_)) = orderV ks ag l := by
  have e : pairs ks ag (l.map (shift by_)) = (pairs ks ag l).map fun p => (p.1 + by_, p.2) := by
    unfold pairs
    rw [List.filter_map, List.map_map, List.map_map]
    have e1 : (waitsB ∘ shift by_) = waitsB := rfl
    rw [e1]
    refine List.map_congr_left fun j _ => ?_
    show (-(((clsOf ks j.cl).1 + j.pr) * ag - (j.ca + by_)), j.id) = (-(((clsOf ks j.cl).1 + j.pr) * ag - j.ca) + by_, j.id)
    exact Prod.ext (by simp; omega) rfl
  unfold orderV
  rw [e]
  have h2 : ordP ((pairs ks ag l).map fun p => (p.1 + by_, p.2)) = (ordP (pairs ks ag l)).map fun p => (p.1 + by_, p.2) := by
    unfold ordP
    rw [List.map_mergeSort]
    intro a _ b _
    have : leP a b = true ↔ leP (a.1 + by_, a.2) (b.1 + by_, b.2) = true := by rw [le_iff, le_iff]; simp only; omega
    exact Bool.eq_iff_iff.2 this
  rw [h2, List.map_map]
  rfl
/-- One of them ended. -/
def done (j : JV) : JV := { j with st := 3, he := false }
theorem filter_set {l : List JV} {at_ : Nat} {x : JV} (hu : Up l) (hx : l[at_]? = some x) : (l.set at_ (done x)).filter waitsB = (l.filter waitsB).filter fun j => decide (j.id ≠ x.id) := by
  induction l generalizing at_ with
  | nil => simp at hx
  | cons y t ih =>
    have hu' := List.pairwise_cons.1 hu
    cases at_ with
    | zero =>
      simp at hx
      subst hx
      rw [List.set_cons_zero]
      have h1 : waitsB (done y) = false := rfl
      rw [List.filter_cons_of_neg (by simp [h1])]
      have h2 : (t.filter waitsB).filter (fun j => decide (j.id ≠ y.id)) = t.filter waitsB := by
        refine List.filter_eq_self.2 fun j hj => ?_
        have := hu'.1 j (List.mem_filter.1 hj).1
        simp
        omega
      cases hw : waitsB y
      · rw [List.filter_cons_of_neg (by simp [hw]), h2]
      · rw [List.filter_cons_of_pos hw, List.filter_cons_of_neg (by simp), h2]
    | succ n =>
      have hx' : t[n]? = some x := by simpa using hx
      rw [List.set_cons_succ]
      have hne : y.id ≠ x.id := by
        have := hu'.1 x (List.mem_of_getElem? hx')
        omega
      cases hw : waitsB y
      · rw [List.filter_cons_of_neg (by simp [hw]), List.filter_cons_of_neg (by simp [hw]), ih hu'.2 hx']
      · rw [List.filter_cons_of_pos hw, List.filter_cons_of_pos hw, List.filter_cons_of_pos (by simp [hne]), ih hu'.2 hx']
theorem order_done {ks : List Cls} {ag : Int} {l : List JV} {at_ : Nat} {x : JV} (hu : Up l) (hx : l[at_]? = some x) : orderV ks ag (l.set at_ (done x)) = (orderV ks ag l).filter fun n => decide (n ≠ x.id) := by
  have e : ordP (pairs ks ag (l.set at_ (done x))) = (ordP (pairs ks ag l)).filter fun p => decide (p.2 ≠ x.id) := by
    refine (ord_uniq ?_ (List.Pairwise.filter _ (ord_sorted _))).symm
    refine ((ord_perm (pairs ks ag l)).filter _).trans ?_
    unfold pairs
    rw [filter_set hu hx, List.filter_map]
    exact List.Perm.refl _
  unfold orderV
  rw [e, List.filter_map]
  rfl
theorem tok_done {d0 d1 d2 : Int} {ks : List Cls} {l : List JV} {at_ : Nat} {x : JV} (h : TOk (checkV d0 d1 d2 ks) l) (hx : l[at_]? = some x) : TOk (checkV d0 d1 d2 ks) (l.set at_ (done x)) := by
  have hl := (List.getElem?_eq_some_iff.1 hx).1
  have hids : (l.set at_ (done x)).map (fun j => j.id) = l.map (fun j => j.id) := by
    rw [List.map_set]
    refine List.ext_getElem? fun i => ?_
    by_cases e : at_ = i
    · subst e
      rw [List.getElem?_set_self (by simpa using hl), List.getElem?_map, hx]
      rfl
    · rw [List.getElem?_set_ne e]
  have hm : ∀ j ∈ l.set at_ (done x), j ∈ l ∨ j = done x := fun j hj => (List.mem_or_eq_of_mem_set hj)
  have hxm := List.mem_of_getElem? hx
  refine ⟨by simpa using h.len, fun j hj => ?_, up_ids hids h.rise, fun j hj => ?_⟩
  · rcases hm j hj with h1 | rfl
    · exact h.each j h1
    · have h0 := h.each x hxm
      have hp := (check_zero h0).1
      have hp2 : plainB ks.length (done x) = true := by
        unfold plainB at hp ⊢
        unfold done
        simp only [Bool.and_eq_true] at hp ⊢
        refine ⟨⟨hp.1.1, hp.1.2⟩, ⟨rfl, rfl⟩, rfl⟩
      unfold checkV at h0 ⊢
      rw [if_neg (by simp [hp])] at h0
      rw [if_neg (by simp [hp2])]
      exact h0
  · unfold thereB
    rw [List.all_eq_true]
    intro v hv
    rw [has_ids hids]
    have haf : ∃ q ∈ l, q.af = j.af := by
      rcases hm j hj with h1 | rfl
      · exact ⟨j, h1, rfl⟩
      · exact ⟨x, hxm, rfl⟩
    obtain ⟨q, hq, e⟩ := haf
    have := h.there q hq
    unfold thereB at this
    rw [List.all_eq_true] at this
    exact this v (e ▸ hv)
/-- A key's size: nothing wraps. -/
theorem key_small {d0 d1 d2 bo fr tr ag : Int} {ks : List Cls} {j : JV} (hc : CfgOk d0 d1 d2 bo fr tr ag ks) (h : checkV d0 d1 d2 ks j = 0) :
    -1000 ≤ (clsOf ks j.cl).1 ∧ (clsOf ks j.cl).1 ≤ 1000 ∧ -1000 ≤ j.pr ∧ j.pr ≤ 1000 ∧ 1 ≤ ag ∧ ag ≤ 1048576 ∧ 0 ≤ j.ca ∧ j.ca ≤ 1099511627776 ∧
    -2097152000 ≤ ((clsOf ks j.cl).1 + j.pr) * ag ∧ ((clsOf ks j.cl).1 + j.pr) * ag ≤ 2097152000 ∧ 0 ≤ j.cl ∧ j.cl ≤ (ks.length : Int) - 1 := by
  have hp := (check_zero h).1
  have hcl := plain_cl hp
  unfold plainB at hp
  simp only [Bool.and_eq_true] at hp
  have hpr := hp.1.2.1
  have hca := hp.1.2.2
  unfold CfgOk at hc
  obtain ⟨_, _, _, _, hag, _, hks⟩ := hc
  unfold inB at hpr hca hag
  simp only [Bool.and_eq_true, decide_eq_true_eq] at hpr hca hag
  obtain ⟨m, hm, hml, hget⟩ := cls_at hcl.1 hcl.2
  rw [List.all_eq_true] at hks
  have hk := hks _ (List.mem_of_getElem? hget)
  unfold clsB inB at hk
  simp only [Bool.and_eq_true, decide_eq_true_eq] at hk
  have h1 := hk.1.1.1
  generalize (clsOf ks j.cl).1 = P at *
  have hs1 : -2000 ≤ P + j.pr := by omega
  have hs2 : P + j.pr ≤ 2000 := by omega
  refine ⟨by omega, by omega, by omega, by omega, by omega, by omega, by omega, by omega, ?_, ?_, hcl.1, hcl.2⟩
  · rcases Int.le_total 0 (P + j.pr) with h0 | h0
    · have := Int.mul_nonneg h0 (show (0 : Int) ≤ ag by omega)
      omega
    · have h2 := Int.mul_le_mul (show -(P + j.pr) ≤ 2000 by omega) hag.2 (by omega) (by omega)
      rw [Int.neg_mul] at h2
      omega
  · rcases Int.le_total 0 (P + j.pr) with h0 | h0
    · have h2 := Int.mul_le_mul hs2 hag.2 (by omega) (by omega)
      omega
    · have h2 := Int.mul_nonneg (show (0 : Int) ≤ -(P + j.pr) by omega) (show (0 : Int) ≤ ag by omega)
      rw [Int.neg_mul] at h2
      omega
end Go.Proofs.Ytfpljpdjohmbaaa.RankMath
