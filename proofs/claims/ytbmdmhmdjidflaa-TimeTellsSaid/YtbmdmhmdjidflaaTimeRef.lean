/- The contracts of package time's Both, and of the reference's functions, for all numbers and spans. -/
import Derived.Test.YtbmdmhmdjidflaaTimeAsked
namespace Go.Proofs.Ytbmdmhmdjidflaa.TimeRef
open Go.RowKit Mem TimeWalks TimeAsked
set_option linter.unusedVariables false

def mx (a b : Int) : Int := if a < b then b else a
def mn (a b : Int) : Int := if b < a then b else a
def meets (af at_ bf bt : Int) : Prop := af < bt ∧ bf < at_
def inside (af at_ bf bt : Int) : Prop := bf ≤ af ∧ at_ ≤ bt
theorem both_bad (af at_ bf bt : Int) (hab : ¬ (may af at_ ∧ may bf bt)) (w : World) :
    Calls Try.prog 9 #[.agg #[.int .i64 af, .int .i64 at_], .agg #[.int .i64 bf, .int .i64 bt]] w fun e w' => e = .returned (.tuple #[.agg #[.int .i64 0, .int .i64 0], .int .i64 2]) ∧ Below w.heap.size w w' := by
  have HAB := Lib.hid hab
  clear hab
  go_enter Try.func9, Try.ntmps9
  go_wp2_with fail
  refine (meet_bad af at_ bf bt HAB.out _).mono ?_
  rintro e w4 ⟨rfl, hB4⟩
  obtain ⟨hc, hf⟩ := bcell hB4
  have hz : w.heap.size + 1 + 1 < w4.heap.size := by have := hB4.size; simp at this; omega
  have HB4 := Lib.hid hB4
  clear hB4
  go_wp2_with fail
  refine bodyPost_ret (v := .tuple #[.agg #[.int .i64 0, .int .i64 0], .int .i64 2]) (by simp [results, Try.results9, go_sem, hc]) rfl ⟨rfl, ?_⟩
  exact ((((Below.refl _ _).alloc (Nat.le_refl _) _).alloc (by simp) _).alloc (by simp; omega) _).trans (HB4.out.mono (by simp; omega)) |>.setCell (p := ⟨w.heap.size + 1 + 1, 0, none⟩) (by show w.heap.size ≤ w.heap.size + 1 + 1; omega) _ |>.setCell (p := ⟨w.heap.size + 1 + 1, 1, none⟩) (by show w.heap.size ≤ w.heap.size + 1 + 1; omega) _
theorem both_none (af at_ bf bt : Int) (ha : may af at_) (hb : may bf bt) (hh : ¬ meets af at_ bf bt) (w : World) :
    Calls Try.prog 9 #[.agg #[.int .i64 af, .int .i64 at_], .agg #[.int .i64 bf, .int .i64 bt]] w fun e w' => e = .returned (.tuple #[.agg #[.int .i64 0, .int .i64 0], .int .i64 6]) ∧ Below w.heap.size w w' := by
  have HA := Lib.hid ha
  have HB := Lib.hid hb
  have HH := Lib.hid hh
  clear ha hb hh
  go_enter Try.func9, Try.ntmps9
  go_wp2_with fail
  refine (meet_no af at_ bf bt HA.out HB.out HH.out _).mono ?_
  rintro e w4 ⟨rfl, hB4⟩
  obtain ⟨hc, hf⟩ := bcell hB4
  have hz : w.heap.size + 1 + 1 < w4.heap.size := by have := hB4.size; simp at this; omega
  have HB4 := Lib.hid hB4
  clear hB4
  go_wp2_with fail
  refine bodyPost_ret (v := .tuple #[.agg #[.int .i64 0, .int .i64 0], .int .i64 6]) (by simp [results, Try.results9, go_sem, hc]) rfl ⟨rfl, ?_⟩
  exact ((((Below.refl _ _).alloc (Nat.le_refl _) _).alloc (by simp) _).alloc (by simp; omega) _).trans (HB4.out.mono (by simp; omega)) |>.setCell (p := ⟨w.heap.size + 1 + 1, 0, none⟩) (by show w.heap.size ≤ w.heap.size + 1 + 1; omega) _ |>.setCell (p := ⟨w.heap.size + 1 + 1, 1, none⟩) (by show w.heap.size ≤ w.heap.size + 1 + 1; omega) _
theorem both_yes (af at_ bf bt : Int) (ha : may af at_) (hb : may bf bt) (hh : meets af at_ bf bt) (w : World) :
    Calls Try.prog 9 #[.agg #[.int .i64 af, .int .i64 at_], .agg #[.int .i64 bf, .int .i64 bt]] w fun e w' => e = .returned (.tuple #[.agg #[.int .i64 (mx af bf), .int .i64 (mn at_ bt)], .int .i64 0]) ∧ Below w.heap.size w w' := by
  have HA := Lib.hid ha
  have HB := Lib.hid hb
  have HH := Lib.hid hh
  clear ha hb hh
  unfold mx mn
  by_cases h1 : af < bf
  · rw [if_pos h1]
    by_cases h2 : bt < at_
    · rw [if_pos h2]
      go_enter Try.func9, Try.ntmps9
      go_wp2_with fail
      refine (meet_yes af at_ bf bt HA.out HB.out HH.out _).mono ?_
      rintro e w4 ⟨rfl, hB4⟩
      obtain ⟨hc, hf⟩ := bcell hB4
      have hz : w.heap.size + 1 + 1 < w4.heap.size := by have := hB4.size; simp at this; omega
      have HB4 := Lib.hid hB4
      clear hB4
      go_wp2_with fail
      refine bodyPost_ret (v := .tuple #[.agg #[.int .i64 bf, .int .i64 bt], .int .i64 0]) (by simp [results, Try.results9, go_sem, hc]) rfl ⟨rfl, ?_⟩
      exact ((((Below.refl _ _).alloc (Nat.le_refl _) _).alloc (by simp) _).alloc (by simp; omega) _).trans (HB4.out.mono (by simp; omega)) |>.setCell (p := ⟨w.heap.size + 1 + 1, 0, none⟩) (by show w.heap.size ≤ w.heap.size + 1 + 1; omega) _ |>.setCell (p := ⟨w.heap.size + 1 + 1, 1, none⟩) (by show w.heap.size ≤ w.heap.size + 1 + 1; omega) _
    · rw [if_neg h2]
      go_enter Try.func9, Try.ntmps9
      go_wp2_with fail
      refine (meet_yes af at_ bf bt HA.out HB.out HH.out _).mono ?_
      rintro e w4 ⟨rfl, hB4⟩
      obtain ⟨hc, hf⟩ := bcell hB4
      have hz : w.heap.size + 1 + 1 < w4.heap.size := by have := hB4.size; simp at this; omega
      have HB4 := Lib.hid hB4
      clear hB4
      go_wp2_with fail
      refine bodyPost_ret (v := .tuple #[.agg #[.int .i64 bf, .int .i64 at_], .int .i64 0]) (by simp [results, Try.results9, go_sem, hc]) rfl ⟨rfl, ?_⟩
      exact ((((Below.refl _ _).alloc (Nat.le_refl _) _).alloc (by simp) _).alloc (by simp; omega) _).trans (HB4.out.mono (by simp; omega)) |>.setCell (p := ⟨w.heap.size + 1 + 1, 0, none⟩) (by show w.heap.size ≤ w.heap.size + 1 + 1; omega) _ |>.setCell (p := ⟨w.heap.size + 1 + 1, 1, none⟩) (by show w.heap.size ≤ w.heap.size + 1 + 1; omega) _
  · rw [if_neg h1]
    by_cases h2 : bt < at_
    · rw [if_pos h2]
      go_enter Try.func9, Try.ntmps9
      go_wp2_with fail
      refine (meet_yes af at_ bf bt HA.out HB.out HH.out _).mono ?_
      rintro e w4 ⟨rfl, hB4⟩
      obtain ⟨hc, hf⟩ := bcell hB4
      have hz : w.heap.size + 1 + 1 < w4.heap.size := by have := hB4.size; simp at this; omega
      have HB4 := Lib.hid hB4
      clear hB4
      go_wp2_with fail
      refine bodyPost_ret (v := .tuple #[.agg #[.int .i64 af, .int .i64 bt], .int .i64 0]) (by simp [results, Try.results9, go_sem, hc]) rfl ⟨rfl, ?_⟩
      exact ((((Below.refl _ _).alloc (Nat.le_refl _) _).alloc (by simp) _).alloc (by simp; omega) _).trans (HB4.out.mono (by simp; omega)) |>.setCell (p := ⟨w.heap.size + 1 + 1, 0, none⟩) (by show w.heap.size ≤ w.heap.size + 1 + 1; omega) _ |>.setCell (p := ⟨w.heap.size + 1 + 1, 1, none⟩) (by show w.heap.size ≤ w.heap.size + 1 + 1; omega) _
    · rw [if_neg h2]
      go_enter Try.func9, Try.ntmps9
      go_wp2_with fail
      refine (meet_yes af at_ bf bt HA.out HB.out HH.out _).mono ?_
      rintro e w4 ⟨rfl, hB4⟩
      obtain ⟨hc, hf⟩ := bcell hB4
      have hz : w.heap.size + 1 + 1 < w4.heap.size := by have := hB4.size; simp at this; omega
      have HB4 := Lib.hid hB4
      clear hB4
      go_wp2_with fail
      refine bodyPost_ret (v := .tuple #[.agg #[.int .i64 af, .int .i64 at_], .int .i64 0]) (by simp [results, Try.results9, go_sem, hc]) rfl ⟨rfl, ?_⟩
      exact ((((Below.refl _ _).alloc (Nat.le_refl _) _).alloc (by simp) _).alloc (by simp; omega) _).trans (HB4.out.mono (by simp; omega)) |>.setCell (p := ⟨w.heap.size + 1 + 1, 0, none⟩) (by show w.heap.size ≤ w.heap.size + 1 + 1; omega) _ |>.setCell (p := ⟨w.heap.size + 1 + 1, 1, none⟩) (by show w.heap.size ≤ w.heap.size + 1 + 1; omega) _

theorem refwithin_any (n : Int) (w : World) :
    Calls Try.prog 30 #[.int .i64 n] w fun e w' => e = .returned (.int .i64 (wn n)) ∧ w = w' := by
  unfold wn
  by_cases h1 : n < 0
  · rw [if_pos h1]
    go_enter Try.func30, Try.ntmps30
    go_wp2_with fail
    go_ret
    exact ⟨rfl, rfl⟩
  · rw [if_neg h1]
    by_cases h2 : 1099511627776 < n
    · rw [if_pos h2]
      go_enter Try.func30, Try.ntmps30
      go_wp2_with fail
      go_ret
      exact ⟨rfl, rfl⟩
    · rw [if_neg h2]
      go_enter Try.func30, Try.ntmps30
      go_wp2_with fail
      go_ret
      exact ⟨rfl, rfl⟩
theorem refplus_any (a b : Int) (w : World) :
    Calls Try.prog 21 #[.int .i64 a, .int .i64 b] w fun e w' => e = .returned (.int .i64 (plus a b)) ∧ w = w' := by
  have ha := wn_range a
  have hb := wn_range b
  obtain ⟨ha0, ha1⟩ := ha
  obtain ⟨hb0, hb1⟩ := hb
  unfold plus
  go_enter Try.func21, Try.ntmps21
  go_wp2_with fail
  refine (refwithin_any a _).mono ?_
  rintro e w' ⟨rfl, rfl⟩
  go_wp2_with fail
  refine (refwithin_any b _).mono ?_
  rintro e w' ⟨rfl, rfl⟩
  go_wp2_with fail
  refine (refwithin_any (wn a + wn b) _).mono ?_
  rintro e w' ⟨rfl, rfl⟩
  go_wp2_with fail
  go_ret
  exact ⟨rfl, rfl⟩
theorem refmay_yes (f t : Int) (h : may f t) (w : World) :
    Calls Try.prog 27 #[.agg #[.int .i64 f, .int .i64 t]] w fun e w' => e = .returned (.bool true) ∧ Below w.heap.size w w' := by
  obtain ⟨h0, h1, h2⟩ := h
  go_enter Try.func27, Try.ntmps27
  go_wp2_with fail
  go_ret
  exact ⟨rfl, (Below.refl _ _).alloc (Nat.le_refl _) _⟩
theorem refmay_no (f t : Int) (h : ¬ may f t) (w : World) :
    Calls Try.prog 27 #[.agg #[.int .i64 f, .int .i64 t]] w fun e w' => e = .returned (.bool false) ∧ Below w.heap.size w w' := by
  unfold may at h
  by_cases h0 : 0 ≤ f
  · by_cases h1 : f < t
    · have h2 : ¬ t ≤ 1099511627776 := by omega
      clear h
      go_enter Try.func27, Try.ntmps27
      go_wp2_with fail
      go_ret
      exact ⟨rfl, (Below.refl _ _).alloc (Nat.le_refl _) _⟩
    · clear h
      go_enter Try.func27, Try.ntmps27
      go_wp2_with fail
      go_ret
      exact ⟨rfl, (Below.refl _ _).alloc (Nat.le_refl _) _⟩
  · clear h
    go_enter Try.func27, Try.ntmps27
    go_wp2_with fail
    go_ret
    exact ⟨rfl, (Below.refl _ _).alloc (Nat.le_refl _) _⟩
theorem refin_yes (f t x : Int) (h0 : f ≤ x) (h1 : x < t) (w : World) :
    Calls Try.prog 29 #[.agg #[.int .i64 f, .int .i64 t], .int .i64 x] w fun e w' => e = .returned (.bool true) ∧ Below w.heap.size w w' := by
  go_enter Try.func29, Try.ntmps29
  go_wp2_with fail
  go_ret
  exact ⟨rfl, (Below.refl _ _).alloc (Nat.le_refl _) _⟩
theorem refin_no (f t x : Int) (h : ¬ (f ≤ x ∧ x < t)) (w : World) :
    Calls Try.prog 29 #[.agg #[.int .i64 f, .int .i64 t], .int .i64 x] w fun e w' => e = .returned (.bool false) ∧ Below w.heap.size w w' := by
  by_cases h0 : f ≤ x
  · have h1 : ¬ x < t := fun h1 => h ⟨h0, h1⟩
    clear h
    go_enter Try.func29, Try.ntmps29
    go_wp2_with fail
    go_ret
    exact ⟨rfl, (Below.refl _ _).alloc (Nat.le_refl _) _⟩
  · clear h
    go_enter Try.func29, Try.ntmps29
    go_wp2_with fail
    go_ret
    exact ⟨rfl, (Below.refl _ _).alloc (Nat.le_refl _) _⟩
end Go.Proofs.Ytbmdmhmdjidflaa.TimeRef
