/- TurnFits: the plain law, and the walk. -/
import Derived.Test.YtcapbkihjjhkjaaTurnFitsW0
import Derived.Test.YtcapbkihjjhkjaaTurnFitsW1
import Derived.Test.YtcapbkihjjhkjaaTurnFitsW2
namespace Go.Proofs.Ytcapbkihjjhkjaa.TurnFitsLaw
open Go.RowKit Mem PosMath PosCheck TurnMath TurnWalks TurnMap TurnSorted TurnAll TurnFitsOf TurnAlive TurnFitsW0 TurnFitsW1 TurnFitsW2
set_option linter.unusedVariables false
set_option linter.unusedSimpArgs false

theorem any_iff {x : WV} {f : WV → Bool} (h : WOk x) : (allL x).any f = true ↔ (if x.tn = true then ∃ k, k ≤ 5 ∧ f (perm x k) = true else f x = true) := by
  rw [List.any_eq_true]
  have hm := (allL_is h).2
  split
  · rename_i ht
    constructor
    · rintro ⟨y, hy, hf⟩
      have := (hm y).1 hy
      rw [if_pos ht] at this
      obtain ⟨k, hk, rfl⟩ := mem_rots.1 this
      exact ⟨k, hk, hf⟩
    · rintro ⟨k, hk, hf⟩
      exact ⟨perm x k, (hm _).2 (by rw [if_pos ht]; exact mem_rots.2 ⟨k, hk, rfl⟩), hf⟩
  · rename_i ht
    constructor
    · rintro ⟨y, hy, hf⟩
      have := (hm y).1 hy
      rw [if_neg ht] at this
      rw [← this]; exact hf
    · intro hf
      exact ⟨x, (hm x).2 (by rw [if_neg ht]), hf⟩
/-- Whether any rotation fits. -/
def six (d0 d1 d2 : Int) (x : WV) : Bool := fitB d0 d1 d2 (perm x 0) || fitB d0 d1 d2 (perm x 1) || fitB d0 d1 d2 (perm x 2) || fitB d0 d1 d2 (perm x 3) || fitB d0 d1 d2 (perm x 4) || fitB d0 d1 d2 (perm x 5)
theorem six_iff {d0 d1 d2 : Int} {x : WV} : six d0 d1 d2 x = true ↔ ∃ k, k ≤ 5 ∧ fitB d0 d1 d2 (perm x k) = true := by
  unfold six
  simp only [Bool.or_eq_true]
  constructor
  · rintro (((((h | h) | h) | h) | h) | h)
    · exact ⟨0, by omega, h⟩
    · exact ⟨1, by omega, h⟩
    · exact ⟨2, by omega, h⟩
    · exact ⟨3, by omega, h⟩
    · exact ⟨4, by omega, h⟩
    · exact ⟨5, by omega, h⟩
  · rintro ⟨k, hk, h⟩
    match k, hk with
    | 0, _ => simp [h]
    | 1, _ => simp [h]
    | 2, _ => simp [h]
    | 3, _ => simp [h]
    | 4, _ => simp [h]
    | 5, _ => simp [h]
theorem fit_any_tn {d0 d1 d2 : Int} {x : WV} (h : WOk x) : (allL x).any (fitB d0 d1 d2) = (if x.tn = true then six d0 d1 d2 x else fitB d0 d1 d2 x) := by
  have h2 := any_iff (f := fitB d0 d1 d2) h
  split
  · rename_i ht
    rw [if_pos ht, ← six_iff] at h2
    cases e1 : (allL x).any (fitB d0 d1 d2) <;> cases e2 : six d0 d1 d2 x
    · rfl
    · rw [h2.2 e2] at e1; cases e1
    · rw [h2.1 e1] at e2; cases e2
    · rfl
  · rename_i ht
    rw [if_neg ht] at h2
    cases e1 : (allL x).any (fitB d0 d1 d2) <;> cases e2 : fitB d0 d1 d2 x
    · rfl
    · rw [h2.2 e2] at e1; cases e1
    · rw [h2.1 e1] at e2; cases e2
    · rfl
theorem fitB_mono {d0 d1 d2 e0 e1 e2 : Int} {x : WV} (h0 : d0 ≤ e0) (h1 : d1 ≤ e1) (h2 : d2 ≤ e2) (h : fitB d0 d1 d2 x = true) : fitB e0 e1 e2 x = true := by
  unfold fitB at *
  simp at *
  omega
theorem any_mono {d0 d1 d2 e0 e1 e2 : Int} {l : List WV} (h0 : d0 ≤ e0) (h1 : d1 ≤ e1) (h2 : d2 ≤ e2) (h : l.any (fitB d0 d1 d2) = true) : l.any (fitB e0 e1 e2) = true := by
  rw [List.any_eq_true] at *
  obtain ⟨x, hx, hf⟩ := h
  exact ⟨x, hx, fitB_mono h0 h1 h2 hf⟩
theorem bools : ∀ (x0 x1 x2 y0 y1 y2 z0 z1 z2 : Bool),
    let s := fun (a0 a1 a2 b0 b1 b2 c0 c1 c2 : Bool) => (a0 && b1 && c2) || (a0 && c1 && b2) || (b0 && a1 && c2) || (b0 && c1 && a2) || (c0 && a1 && b2) || (c0 && b1 && a2)
    s x0 x1 x2 y0 y1 y2 z0 z1 z2 = s x1 x0 x2 y1 y0 y2 z1 z0 z2 ∧ s x0 x1 x2 y0 y1 y2 z0 z1 z2 = s x2 x1 x0 y2 y1 y0 z2 z1 z0 ∧ s x0 x1 x2 y0 y1 y2 z0 z1 z2 = s x0 x2 x1 y0 y2 y1 z0 z2 z1 := by decide +kernel
theorem six_form (d0 d1 d2 a b c : Int) (p q r tn : Bool) : six d0 d1 d2 ⟨a, b, c, p, q, r, tn⟩ =
    ((decide (a ≤ d0) && decide (b ≤ d1) && decide (c ≤ d2)) || (decide (a ≤ d0) && decide (c ≤ d1) && decide (b ≤ d2)) || (decide (b ≤ d0) && decide (a ≤ d1) && decide (c ≤ d2)) || (decide (b ≤ d0) && decide (c ≤ d1) && decide (a ≤ d2)) || (decide (c ≤ d0) && decide (a ≤ d1) && decide (b ≤ d2)) || (decide (c ≤ d0) && decide (b ≤ d1) && decide (a ≤ d2))) := rfl
theorem six01 (d0 d1 d2 : Int) (x : WV) : six d1 d0 d2 x = six d0 d1 d2 x := by
  obtain ⟨a, b, c, p, q, r, tn⟩ := x
  rw [six_form, six_form]
  exact (bools _ _ _ _ _ _ _ _ _).1
theorem six02 (d0 d1 d2 : Int) (x : WV) : six d2 d1 d0 x = six d0 d1 d2 x := by
  obtain ⟨a, b, c, p, q, r, tn⟩ := x
  rw [six_form, six_form]
  exact (bools _ _ _ _ _ _ _ _ _).2.1
theorem six12 (d0 d1 d2 : Int) (x : WV) : six d0 d2 d1 x = six d0 d1 d2 x := by
  obtain ⟨a, b, c, p, q, r, tn⟩ := x
  rw [six_form, six_form]
  exact (bools _ _ _ _ _ _ _ _ _).2.2
theorem fits_swap {d0 d1 d2 e0 e1 e2 : Int} {x : WV} (h : WOk x) (ht : x.tn = true) (hs : six e0 e1 e2 x = six d0 d1 d2 x) : (allL x).any (fitB e0 e1 e2) = (allL x).any (fitB d0 d1 d2) := by
  rw [fit_any_tn h, fit_any_tn h, if_pos ht, if_pos ht, hs]
theorem turned_fits {d0 d1 d2 a b c : Int} {p q r tn : Bool} (h : WOk ⟨a, b, c, p, q, r, tn⟩) (hf : (allL ⟨a, b, c, p, q, r, tn⟩).any (fitB d0 d1 d2) = true) : (allL ⟨a, b, c, p, q, r, true⟩).any (fitB d0 d1 d2) = true := by
  cases tn
  · rw [fit_any_tn h] at hf
    simp at hf
    have h' : WOk ⟨a, b, c, p, q, r, true⟩ := h
    rw [fit_any_tn h']
    simp only [if_true]
    exact six_iff.2 ⟨0, by omega, hf⟩
  · exact hf

theorem mod3 {A : Int} (h : (Lit.int .u8 A).wf = true) : A.tmod 3 = 0 ∨ A.tmod 3 = 1 ∨ A.tmod 3 = 2 := by
  have e1 : IntKind.u8.min = 0 := by rfl
  have e2 : IntKind.u8.max = 255 := by rfl
  simp [Lit.wf, e1, e2] at h
  rw [Int.tmod_eq_emod_of_nonneg (by omega)]
  have h1 := Int.emod_nonneg A (show (3 : Int) ≠ 0 by decide)
  have h2 := Int.emod_lt_of_pos A (show (0 : Int) < 3 by decide)
  omega

set_option maxHeartbeats 2000000 in
theorem fitsLaw (w : World) (d0 d1 d2 : Int) (wd0 : (Lit.int .i64 d0).wf = true) (wd1 : (Lit.int .i64 d1).wf = true) (wd2 : (Lit.int .i64 d2).wf = true) (x : WV) (wa : (Lit.int .i64 x.a).wf = true) (wb : (Lit.int .i64 x.b).wf = true) (wc : (Lit.int .i64 x.c).wf = true)
    (A : Int) (wA : (Lit.int .u8 A).wf = true) (B : Int) (wB : (Lit.int .u8 B).wf = true) :
    Calls Try.prog 5 #[.agg #[.int .i64 d0, .int .i64 d1, .int .i64 d2], .agg x.arr, .int .u8 A, .int .u8 B] w fun e w' => e = .returned (.bool true) ∧ Below w.heap.size w w' := by
  obtain ⟨a, b, c, p, q, r, tn⟩ := x
  by_cases h : May d0 d1 d2 ∧ WOk ⟨a, b, c, p, q, r, tn⟩
  · obtain ⟨hd, hw⟩ := h
    have hM : ∀ {e0 e1 e2 : Int}, May e0 e1 e2 → fitsV e0 e1 e2 ⟨a, b, c, p, q, r, tn⟩ = ((allL ⟨a, b, c, p, q, r, tn⟩).any (fitB e0 e1 e2), 0) := fun hm => if_pos ⟨hm, hw⟩
    have hZ : fitsV d0 d1 d2 ⟨a, b, c, p, q, r, true⟩ = ((allL ⟨a, b, c, p, q, r, true⟩).any (fitB d0 d1 d2), 0) := if_pos ⟨hd, hw⟩
    have kz := fun hf => turned_fits (d0 := d0) (d1 := d1) (d2 := d2) hw hf
    have bd := hd
    unfold May at bd
    rcases mod3 wA with hA | hA | hA <;> rcases mod3 wB with hB | hB | hB
    · exact tf_00 d0 d1 d2 a b c p q r tn A B hA hB _ _ _ _ (by omega) (hM hd) (hM (by unfold May; omega)) (hM (by unfold May; omega)) hZ
        (fun hf => ⟨any_mono (by omega) (by omega) (by omega) hf, kz hf⟩) (fun ht => fits_swap hw ht (rfl)) w
    · exact tf_01 d0 d1 d2 a b c p q r tn A B hA hB _ _ _ _ (by omega) (hM hd) (hM (by unfold May; omega)) (hM (by unfold May; omega)) hZ
        (fun hf => ⟨any_mono (by omega) (by omega) (by omega) hf, kz hf⟩) (fun ht => fits_swap hw ht (six01 d0 d1 d2 _)) w
    · exact tf_02 d0 d1 d2 a b c p q r tn A B hA hB _ _ _ _ (by omega) (hM hd) (hM (by unfold May; omega)) (hM (by unfold May; omega)) hZ
        (fun hf => ⟨any_mono (by omega) (by omega) (by omega) hf, kz hf⟩) (fun ht => fits_swap hw ht (six02 d0 d1 d2 _)) w
    · exact tf_10 d0 d1 d2 a b c p q r tn A B hA hB _ _ _ _ (by omega) (hM hd) (hM (by unfold May; omega)) (hM (by unfold May; omega)) hZ
        (fun hf => ⟨any_mono (by omega) (by omega) (by omega) hf, kz hf⟩) (fun ht => fits_swap hw ht (six01 d0 d1 d2 _)) w
    · exact tf_11 d0 d1 d2 a b c p q r tn A B hA hB _ _ _ _ (by omega) (hM hd) (hM (by unfold May; omega)) (hM (by unfold May; omega)) hZ
        (fun hf => ⟨any_mono (by omega) (by omega) (by omega) hf, kz hf⟩) (fun ht => fits_swap hw ht (rfl)) w
    · exact tf_12 d0 d1 d2 a b c p q r tn A B hA hB _ _ _ _ (by omega) (hM hd) (hM (by unfold May; omega)) (hM (by unfold May; omega)) hZ
        (fun hf => ⟨any_mono (by omega) (by omega) (by omega) hf, kz hf⟩) (fun ht => fits_swap hw ht (six12 d0 d1 d2 _)) w
    · exact tf_20 d0 d1 d2 a b c p q r tn A B hA hB _ _ _ _ (by omega) (hM hd) (hM (by unfold May; omega)) (hM (by unfold May; omega)) hZ
        (fun hf => ⟨any_mono (by omega) (by omega) (by omega) hf, kz hf⟩) (fun ht => fits_swap hw ht (six02 d0 d1 d2 _)) w
    · exact tf_21 d0 d1 d2 a b c p q r tn A B hA hB _ _ _ _ (by omega) (hM hd) (hM (by unfold May; omega)) (hM (by unfold May; omega)) hZ
        (fun hf => ⟨any_mono (by omega) (by omega) (by omega) hf, kz hf⟩) (fun ht => fits_swap hw ht (six12 d0 d1 d2 _)) w
    · exact tf_22 d0 d1 d2 a b c p q r tn A B hA hB _ _ _ _ (by omega) (hM hd) (hM (by unfold May; omega)) (hM (by unfold May; omega)) hZ
        (fun hf => ⟨any_mono (by omega) (by omega) (by omega) hf, kz hf⟩) (fun ht => fits_swap hw ht (rfl)) w
  · exact tf_err d0 d1 d2 a b c p q r tn A B 8 (by decide) (if_neg h) w
end Go.Proofs.Ytcapbkihjjhkjaa.TurnFitsLaw
