/- slices.SortedFunc(maps.Keys(m), compare): a slice of the call's own that rises, of the map's keys. No conditions but those named. -/
import Derived.Test.YtaldgmmmcbikgaaTurnSort
namespace Go.Proofs.Ytaldgmmmcbikgaa.TurnSorted
open Go.Shelf Mem TurnMath TurnWalks TurnMap TurnAppend TurnSort
open Go.RowKit (Below)
open Go.Sort (Holds HoldsK putRowK flatK SWO SortedIn PermIn grow insertionSort)
set_option linter.unusedVariables false
set_option linter.unusedSimpArgs false

/-- A slice of wants in memory of the call's own. -/
def WSl (w : World) (B : Nat) (v : Value) (l : List WV) : Prop :=
  ∃ g cap, v = .slice (some ⟨g, 0, none⟩) l.length cap ∧ B ≤ g ∧ l.length ≤ cap ∧ cap ≤ maxLen ∧ ∀ (i : Nat) (x : WV), l[i]? = some x → ∀ (j : Nat) (u : Value), x.cells[j]? = some u → w.cell? ⟨g, i * 7 + j, none⟩ = some u
theorem WSl.keep {w w' : World} {B : Nat} {v : Value} {l : List WV} (h : WSl w B v l) (hB : Below w.heap.size w w') : WSl w' B v l := by
  obtain ⟨g, cap, e, hb, hc, hm, hx⟩ := h
  exact ⟨g, cap, e, hb, hc, hm, fun i x hi j u hu => keep_cell (hx i x hi j u hu) hB⟩
theorem cells_len (x : WV) : x.cells.length = 7 := rfl
theorem cellsL_len : ∀ l : List WV, (cellsL l).length = l.length * 7
  | [] => rfl
  | x :: l => by
    have : cellsL (x :: l) = x.cells ++ cellsL l := by simp [cellsL]
    rw [this, List.length_append, cells_len, cellsL_len l, List.length_cons]; omega
theorem cellsL_get : ∀ (l : List WV) (i j : Nat) (x : WV), l[i]? = some x → j < 7 → (cellsL l)[i * 7 + j]? = x.cells[j]?
  | [], _, _, _, h, _ => by simp at h
  | y :: l, 0, j, x, h, hj => by
    simp at h
    subst h
    have : cellsL (y :: l) = y.cells ++ cellsL l := by simp [cellsL]
    rw [this, Nat.zero_mul, Nat.zero_add, List.getElem?_append_left (by rw [cells_len]; exact hj)]
  | y :: l, i + 1, j, x, h, hj => by
    have : cellsL (y :: l) = y.cells ++ cellsL l := by simp [cellsL]
    rw [this, List.getElem?_append_right (by rw [cells_len]; omega), cells_len, show (i + 1) * 7 + j - 7 = i * 7 + j by omega]
    exact cellsL_get l i j x (by simpa using h) hj
theorem lift : ∀ (l : List WV), (∀ x ∈ l, WOk x) → ∃ d : List OW, d.map (·.1) = l
  | [], _ => ⟨[], rfl⟩
  | x :: l, h => by
    obtain ⟨d, hd⟩ := lift l fun y hy => h y (List.mem_cons_of_mem _ hy)
    exact ⟨⟨x, h x (List.mem_cons_self ..)⟩ :: d, by simp [hd]⟩
theorem holds_of {w : World} {B : Nat} {v : Value} {ys : List WV} {d : Array OW} (h : w.ownsRow B WT 7 v ys.length (cellsL ys)) (hd : d.toList.map (·.1) = ys) (hne : ys ≠ []) :
    ∃ g cap, v = .slice (some ⟨g, 0, none⟩) ys.length cap ∧ B ≤ g ∧ g < w.heap.size ∧ ys.length ≤ cap ∧ cap ≤ maxLen ∧ HoldsK encW 7 w g 0 d := by
  have hn : 0 < ys.length := List.length_pos_iff.2 hne
  have hds : d.size = ys.length := by rw [← hd]; simp
  rcases h.2 with ⟨_, e⟩ | ⟨g, cap, cur, rfl, hb, hg, hc, hm, hs, ht⟩
  · omega
  · refine ⟨g, cap, rfl, hb, (Array.getElem?_eq_some_iff.1 hg).1, hc, hm, fun t htt => ?_⟩
    rw [Go.Sort.size_flatK, hds] at htt
    have hi : t / 7 < ys.length := by omega
    have hcell : cur[t]? = (ys[t / 7]).cells[t % 7]? := by
      have h1 := cellsL_get ys (t / 7) (t % 7) _ (List.getElem?_eq_getElem hi) (Nat.mod_lt _ (by omega))
      rw [show t / 7 * 7 + t % 7 = t by omega, ← ht, List.getElem?_take_of_lt htt] at h1
      rw [← h1]; simp
    have hget : (flatK encW 7 d)[t]! = (encW d[t / 7]!)[t % 7]! := Go.Sort.get_flatK _ _ _ _ (by rw [hds]; exact htt)
    have hdi : d[t / 7]!.1 = ys[t / 7] := by
      have : d[t / 7]! = d[t / 7] := getElem!_pos d _ (by omega)
      rw [this]
      simp only [← hd]
      simp
    constructor
    · simp only [World.cell?, hg, Nat.zero_add]
      rw [hget]
      unfold encW
      rw [hdi]
      have h7 : t % 7 < (ys[t / 7]).cells.length := by rw [cells_len]; omega
      rw [getElem!_pos (ys[t / 7]).cells (t % 7) h7]
      rw [List.getElem?_eq_getElem h7] at hcell
      simpa using hcell
    · simp [World.frozen?, hg]

theorem sorted_list {w w1 : World} {ks ys : List WV} {d : List OW} {D : Array OW} {g cap n : Nat} {os : Array Obj} (hnd : ks.Nodup) (hok : ∀ x ∈ ks, WOk x) (htn : ∀ x ∈ ks, ∀ y ∈ ks, x.tn = y.tn) (hp : ys.Perm ks) (hd : d.map (·.1) = ys) (hds : d.toArray.size = ys.length)
    (hPI : PermIn 0 ys.length d.toArray D) (hsorted : SortedIn (ltOf cfW) 0 ys.length D) (hB : Below w.heap.size w w1) (hg : w.heap.size ≤ g) (hglt : g < w1.heap.size) (hcap : ys.length ≤ cap) (hmax : cap ≤ maxLen) (hH : HoldsK encW 7 w1 g 0 d.toArray) :
    ∃ l : List WV, Rising l ∧ (∀ x, x ∈ l ↔ x ∈ ks) ∧ WSl (sortWorldK encW 7 w1 g 0 n D os) w.heap.size (.slice (some ⟨g, 0, none⟩) ys.length cap) l ∧ Below w.heap.size w (sortWorldK encW 7 w1 g 0 n D os) := by
  obtain ⟨hsz, _, hperm⟩ := hPI
  have hDs : D.size = ys.length := hsz.trans hds
  have hpD : D.toList.Perm d := by
    have e1 : D.extract 0 ys.length = D := by rw [← hDs]; simp
    have e2 : d.toArray.extract 0 ys.length = d.toArray := by rw [← hds]; simp
    rw [e1, e2] at hperm
    simpa using hperm
  have hpl : (D.toList.map (·.1)).Perm ks := ((hpD.map (·.1)).trans (by rw [hd])).trans hp
  have hll : (D.toList.map (·.1)).length = ys.length := by simp [hDs]
  refine ⟨D.toList.map (·.1), ?_, fun x => hpl.mem_iff, ?_, ?_⟩
  · refine rising_of (fun x hx => hok x (hpl.mem_iff.1 hx)) (fun x hx y hy => htn x (hpl.mem_iff.1 hx) y (hpl.mem_iff.1 hy)) (hpl.nodup_iff.2 hnd) ?_
    rw [List.pairwise_map, List.pairwise_iff_getElem]
    intro i j hi hj hij
    have := hsorted i j (Nat.zero_le _) hij (by simp at hj; omega)
    simp at hi hj
    rw [getElem!_pos D j hj, getElem!_pos D i hi] at this
    unfold ltOf cfW at this
    simpa using this
  · refine ⟨g, cap, by rw [hll], hg, by rw [hll]; exact hcap, hmax, fun i x hi j u hu => ?_⟩
    have hH2 := holdsK_sortWorldK_c encW 7 w1 g 0 d.toArray D n os hH hglt (by rw [hDs, hds])
    have hj : j < 7 := by
      have := (List.getElem?_eq_some_iff.1 hu).1
      rwa [cells_len] at this
    have hiD : i < D.size := by
      have := (List.getElem?_eq_some_iff.1 hi).1
      simpa using this
    have hc := (hH2.cell hiD hj).1
    rw [Nat.zero_add] at hc
    rw [hc]
    have e1 : D[i]!.1 = x := by
      rw [getElem!_pos D i hiD]
      simpa [hiD] using hi
    unfold encW
    rw [e1]
    have hjl : j < x.cells.length := by rw [cells_len]; exact hj
    rw [getElem!_pos x.cells j hjl]
    rw [List.getElem?_eq_getElem hjl] at hu
    exact hu
  · exact hB.trans (sort_below hg hB.size)
set_option maxHeartbeats 2000000 in
theorem sortedFunc_any (Bm b : Nat) (ks : List WV) (w : World) (hBm : Bm < w.heap.size) (hm : w.cell? ⟨Bm, 0, none⟩ = some (.map (some b))) (hM : MapOf w b ks) (h6 : ks.length ≤ 6) (hne : ks ≠ []) (htn : ∀ x ∈ ks, ∀ y ∈ ks, x.tn = y.tn) :
    Calls Try.prog 79 #[.func (.func 87) #[] #[.pointer (some ⟨Bm, 0, none⟩)], .func (.func CMP) #[] #[]] w fun e w' =>
      ∃ (v : Value) (l : List WV), e = .returned v ∧ Rising l ∧ (∀ x, x ∈ l ↔ x ∈ ks) ∧ WSl w' w.heap.size v l ∧ Below w.heap.size w w' := by
  have H := Lib.hid (collect_any Bm b ks w hBm hm hM h6)
  obtain ⟨es, clock, _, _, _, _, _, hnd, hok⟩ := hM
  have HK := Lib.hid (And.intro hnd hok)
  have HN := Lib.hid hne
  have HT := Lib.hid htn
  clear hnd hok hne htn hm
  go_enter Try.func79, Try.ntmps79
  go_wp2_with fail
  refine H.out.mono ?_
  rintro e w1 ⟨v, ys, rfl, hp, hrow, hB⟩
  have hyne : ys ≠ [] := fun e => HN.out (by rw [e] at hp; exact (List.nil_perm.1 hp))
  have hyl : ys.length = ks.length := hp.length_eq
  obtain ⟨d, hd⟩ := lift ys fun x hx => HK.out.2 x (hp.mem_iff.1 hx)
  obtain ⟨g, cap, rfl, hg, hglt, hcap, hmax, hH⟩ := holds_of (d := d.toArray) hrow (by simpa using hd) hyne
  have hds : d.toArray.size = ys.length := by rw [← hd]; simp
  have hs := sortFunc_any g 0 cap d.toArray w1 hH hglt (by omega)
  have hsort := Go.Sort.insertionSort_holds (lt := ltOf cfW) swo d.toArray 0 d.toArray.size (Nat.zero_le _) (Nat.le_refl _)
  generalize insertionSort (ltOf cfW) d.toArray 0 d.toArray.size = D at hs hsort
  rw [hds] at hs hsort
  have hl := fun n os => sorted_list (n := n) (os := os) HK.out.1 HK.out.2 HT.out hp hd hds hsort.1 hsort.2 hB hg hglt hcap hmax hH
  have HS := Lib.hid (And.intro hs hl)
  clear hs hsort hp hB hH hrow hl hd hds hcap hmax hyne hyl HK HT HN H
  generalize ys.length = yn at *
  go_wp2_with fail
  refine HS.out.1.mono ?_
  rintro e w' ⟨rfl, n, os, hw'⟩
  have HW := Lib.hid hw'
  clear hw'
  go_wp2_with fail
  go_ret
  obtain ⟨l, h1, h2, h3, h4⟩ := HS.out.2 n os
  rw [← HW.out] at h3 h4
  exact ⟨_, l, rfl, h1, h2, h3, h4⟩
end Go.Proofs.Ytaldgmmmcbikgaa.TurnSorted
