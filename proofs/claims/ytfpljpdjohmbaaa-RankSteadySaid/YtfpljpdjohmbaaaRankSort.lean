/- slices.SortFunc at pairs of numbers, in a row of one's own. -/
import Derived.Test.YtfpljpdjohmbaaaRankLay
import Derived.Test.YtfpljpdjohmbaaaRankKey
import Derived.Test.YtfpljpdjohmbaaaJobRTwin
namespace Go.Proofs.Ytfpljpdjohmbaaa.RankSort
open Go.Shelf Mem TurnMath JobMath RankMath RankKey RankLay JobRTwin
open Go.RowKit (Below)
open Go.Sort (Holds HoldsK putRowK flatK SWO SortedIn PermIn grow)
set_option linter.unusedVariables false
set_option linter.unusedSimpArgs false

def encP (x : Int × Int) : List Value := [.int .i64 x.1, .int .i64 x.2]
def flatP (l : List (Int × Int)) : List Value := l.flatMap encP
theorem flat_len : ∀ l : List (Int × Int), (flatP l).length = l.length * 2
  | [] => rfl
  | x :: l => by
    have : flatP (x :: l) = encP x ++ flatP l := by simp [flatP]
    rw [this, List.length_append, flat_len l, List.length_cons]
    show 2 + _ = _
    omega
theorem flat_get : ∀ (l : List (Int × Int)) (i j : Nat) (x : Int × Int), l[i]? = some x → j < 2 → (flatP l)[i * 2 + j]? = (encP x)[j]?
  | [], _, _, _, h, _ => by simp at h
  | y :: l, 0, j, x, h, hj => by
    simp at h
    subst h
    have : flatP (y :: l) = encP y ++ flatP l := by simp [flatP]
    rw [this, Nat.zero_mul, Nat.zero_add, List.getElem?_append_left (show j < 2 from hj)]
  | y :: l, i + 1, j, x, h, hj => by
    have : flatP (y :: l) = encP y ++ flatP l := by simp [flatP]
    rw [this, List.getElem?_append_right (show 2 ≤ (i + 1) * 2 + j by omega), show (i + 1) * 2 + j - (encP y).length = i * 2 + j from by show (i + 1) * 2 + j - 2 = _; omega]
    exact flat_get l i j x (by simpa using h) hj
theorem flat_snoc (l : List (Int × Int)) (x : Int × Int) : flatP (l ++ [x]) = flatP l ++ encP x := by simp [flatP]
/-- A slice of pairs. -/
def PairsAt (w : World) (v : Value) (l : List (Int × Int)) : Prop := ∃ X c, v = .slice X l.length c ∧ ∀ (i : Nat) (q : Int × Int), l[i]? = some q → ∃ b, X = some ⟨b, 0, none⟩ ∧ b < w.heap.size ∧ w.cell? ⟨b, i * 2, none⟩ = some (.int .i64 q.1) ∧ w.cell? ⟨b, i * 2 + 1, none⟩ = some (.int .i64 q.2)
theorem holds_of {w : World} {g : Nat} {cur : Array Value} {t : TypeId} {fr : Nat × Nat} {ps : List (Int × Int)} (hg : w.heap[g]? = some (.cells cur t fr)) (hfr : ∀ i, i < ps.length * 2 → w.frozen? ⟨g, i, none⟩ = false) (ht : cur.toList.take (ps.length * 2) = flatP ps) : HoldsK encP 2 w g 0 ps.toArray := fun t htt => by
  rw [Go.Sort.size_flatK] at htt
  have htt' : t < ps.length * 2 := by simpa using htt
  have hi : t / 2 < ps.length := by omega
  have hcell : cur[t]? = (encP ps[t / 2])[t % 2]? := by
    have h1 := flat_get ps (t / 2) (t % 2) _ (List.getElem?_eq_getElem hi) (Nat.mod_lt _ (by omega))
    rw [show t / 2 * 2 + t % 2 = t by omega, ← ht, List.getElem?_take_of_lt htt'] at h1
    rw [← h1]; simp
  have hget : (flatK encP 2 ps.toArray)[t]! = (encP ps.toArray[t / 2]!)[t % 2]! := Go.Sort.get_flatK _ _ _ _ (by simpa using htt')
  have hdi : ps.toArray[t / 2]! = ps[t / 2] := by
    rw [getElem!_pos ps.toArray _ (by simpa using hi)]
    simp
  constructor
  · simp only [World.cell?, hg, Nat.zero_add]
    rw [hget, hdi]
    have h7 : t % 2 < (encP ps[t / 2]).length := Nat.mod_lt _ (show 0 < 2 by omega)
    rw [getElem!_pos (encP ps[t / 2]) (t % 2) h7]
    rw [List.getElem?_eq_getElem h7] at hcell
    simpa using hcell
  · rw [Nat.zero_add]; exact hfr t htt'
theorem cmp_lays (blk off size : Nat) (w : World) : CmpLays Try.prog 68 #[] encP 2 cmpP blk off size w := fun m os dk _ x y => less_any x.1 x.2 y.1 y.2 _
theorem sort_below {w : World} {B blk off n : Nat} {d : Array (Int × Int)} {os : Array Obj} (h : B ≤ blk) (hw : B ≤ w.heap.size) : Below B w (sortWorldK encP 2 w blk off n d os) := by
  refine ⟨rfl, rfl, rfl, size_sortWorldK_c .., fun j hj => ?_⟩
  have hne : blk ≠ j := by omega
  have hjs : j < w.heap.size := by omega
  unfold sortWorldK putRowK Go.Sort.putRow
  simp [grow, Go.Sort.mapBlock, Go.Sort.ahead, Array.getElem?_append, hjs, Array.getElem?_modify, hne]
  rw [Array.getElem_modify, if_neg hne]
set_option maxHeartbeats 2000000 in
theorem sortP_any (BB : Nat) (v : Value) (ps : List (Int × Int)) (w : World) (hl : ps.length ≤ 1000) (hB : BB ≤ w.heap.size) (hown : w.ownsRow BB 89 2 v ps.length (flatP ps)) :
    Calls Try.prog 67 #[v, .func (.func 68) #[] #[]] w fun e w' => e = .returned (.tuple #[]) ∧ Below BB w w' ∧ PairsAt w' v (ordP ps) := by
  rcases hown.2 with ⟨rfl, h0⟩ | ⟨g, cap, cur, rfl, hb, hg, hc, hm, hs, ht⟩
  · obtain rfl : ps = [] := List.eq_nil_of_length_eq_zero h0
    refine (AnyF.slices_SortFunc_none sortPairs none 0 _ w).mono ?_
    rintro e w' ⟨rfl, rfl⟩
    have e : ordP [] = [] := by simp [ordP]
    rw [e]
    exact ⟨rfl, Below.refl _ _, none, 0, rfl, fun i q hi => by simp at hi⟩
  · have hglt : g < w.heap.size := (Array.getElem?_eq_some_iff.1 hg).1
    have hH : HoldsK encP 2 w g 0 ps.toArray := holds_of hg (fun i hi => by simp [World.frozen?, hg]) ht
    have h := AnyQ.slices_SortFunc_total sortPairs 2 (fun w => by kernel_rfl) (fun w => by kernel_rfl) encP (fun _ => rfl) (fun x u hu => by simp [encP] at hu; rcases hu with rfl | rfl <;> rfl) cmpP swo 68 #[] g 0 cap ps.toArray w
      (enters_of Try.func68 (by kernel_rfl) rfl) (cmp_lays g 0 ps.toArray.size w) hH hglt (by simp; omega) parts
    refine Calls.mono (show Calls Try.prog 67 _ w _ from h) ?_
    rintro e w' ⟨rfl, n, os, rfl⟩
    have hol : (ordP ps).length = ps.length := (ord_perm ps).length_eq
    refine ⟨rfl, sort_below hb hB, some ⟨g, 0, none⟩, cap, by rw [hol], fun i q hi => ⟨g, rfl, ?_, ?_⟩⟩
    · exact Nat.lt_of_lt_of_le hglt (size_sortWorldK_c ..)
    · have hH2 := holdsK_sortWorldK_c encP 2 w g 0 ps.toArray (ordP ps).toArray n os hH hglt (by simp [hol])
      have hil := (List.getElem?_eq_some_iff.1 hi).1
      have hiD : i < (ordP ps).toArray.size := by simpa using hil
      have e1 : (ordP ps).toArray[i]! = q := by
        rw [getElem!_pos _ i hiD]
        simpa [hil] using hi
      have c0 := (hH2.cell hiD (show 0 < 2 by omega)).1
      have c1 := (hH2.cell hiD (show 1 < 2 by omega)).1
      rw [e1, Nat.zero_add] at c0 c1
      exact ⟨c0, c1⟩
end Go.Proofs.Ytfpljpdjohmbaaa.RankSort
