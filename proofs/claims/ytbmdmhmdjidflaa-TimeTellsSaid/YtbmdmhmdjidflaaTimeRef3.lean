/- The contracts of the reference's functions on spans, for all spans. -/
import Derived.Test.YtbmdmhmdjidflaaTimeRef2
namespace Go.Proofs.Ytbmdmhmdjidflaa.TimeRef3
open Go.RowKit Mem TimeWalks TimeAsked TimeRef TimeRef2
set_option linter.unusedVariables false

theorem below_set {B : Nat} {a w : World} (h : Below B a w) (g o : Nat) (hg : B ≤ g) (u : Value) : Below B a (w.setCell ⟨g, o, none⟩ u) := h.setCell (p := ⟨g, o, none⟩) hg u
theorem reffrom_ok (a n : Int) (h0 : 0 ≤ a) (h1 : a < 1099511627776) (h2 : 1 ≤ n) (w : World) :
    Calls Try.prog 16 #[.int .i64 a, .int .i64 n] w fun e w' => e = .returned (.tuple #[.agg #[.int .i64 a, .int .i64 (plus a n)], .int .i64 0]) ∧ Below w.heap.size w w' := by
  have h3 : ¬ n ≤ 0 := by omega
  go_enter Try.func16, Try.ntmps16
  go_wp2_with fail
  refine (refplus_any a n _).mono ?_
  rintro e w' ⟨rfl, rfl⟩
  go_wp2_with fail
  refine bodyPost_ret (v := .tuple #[.agg #[.int .i64 a, .int .i64 (plus a n)], .int .i64 0]) (by simp [results, Try.results16, go_sem]) rfl ⟨rfl, (by repeat (first | exact (Below.refl _ _) | refine below_set ?_ _ _ (by first | omega | (simp; done) | (simp; omega)) _ | refine Below.alloc ?_ (by first | omega | (simp; done) | (simp; omega)) _))⟩
theorem reffrom_bad (a n : Int) (h : a < 0 ∨ 1099511627776 ≤ a ∨ n < 1) (w : World) :
    Calls Try.prog 16 #[.int .i64 a, .int .i64 n] w fun e w' => e = .returned (.tuple #[.agg #[.int .i64 0, .int .i64 0], .int .i64 2]) ∧ Below w.heap.size w w' := by
  by_cases h0 : a < 0
  · clear h
    go_enter Try.func16, Try.ntmps16
    go_wp2_with fail
    refine bodyPost_ret (v := .tuple #[.agg #[.int .i64 0, .int .i64 0], .int .i64 2]) (by simp [results, Try.results16, go_sem]) rfl ⟨rfl, (by repeat (first | exact (Below.refl _ _) | refine below_set ?_ _ _ (by first | omega | (simp; done) | (simp; omega)) _ | refine Below.alloc ?_ (by first | omega | (simp; done) | (simp; omega)) _))⟩
  · by_cases h1 : 1099511627776 ≤ a
    · clear h
      go_enter Try.func16, Try.ntmps16
      go_wp2_with fail
      refine bodyPost_ret (v := .tuple #[.agg #[.int .i64 0, .int .i64 0], .int .i64 2]) (by simp [results, Try.results16, go_sem]) rfl ⟨rfl, (by repeat (first | exact (Below.refl _ _) | refine below_set ?_ _ _ (by first | omega | (simp; done) | (simp; omega)) _ | refine Below.alloc ?_ (by first | omega | (simp; done) | (simp; omega)) _))⟩
    · have h2 : n ≤ 0 := by omega
      clear h
      go_enter Try.func16, Try.ntmps16
      go_wp2_with fail
      refine bodyPost_ret (v := .tuple #[.agg #[.int .i64 0, .int .i64 0], .int .i64 2]) (by simp [results, Try.results16, go_sem]) rfl ⟨rfl, (by repeat (first | exact (Below.refl _ _) | refine below_set ?_ _ _ (by first | omega | (simp; done) | (simp; omega)) _ | refine Below.alloc ?_ (by first | omega | (simp; done) | (simp; omega)) _))⟩
theorem refboth_bad (af at_ bf bt : Int) (hab : ¬ (may af at_ ∧ may bf bt)) (w : World) :
    Calls Try.prog 20 #[.agg #[.int .i64 af, .int .i64 at_], .agg #[.int .i64 bf, .int .i64 bt]] w fun e w' => e = .returned (.tuple #[.agg #[.int .i64 0, .int .i64 0], .int .i64 2]) ∧ Below w.heap.size w w' := by
  by_cases ha : may af at_
  · have hb : ¬ may bf bt := fun hb => hab ⟨ha, hb⟩
    have HA := Lib.hid ha
    have HB := Lib.hid hb
    clear ha hb hab
    go_enter Try.func20, Try.ntmps20
    go_wp2_with fail
    refine (refmay_yes af at_ HA.out _).mono ?_
    rintro e w1 ⟨rfl, hB1⟩
    have HB1 : Hid (Below w.heap.size w w1) := up ((((Below.refl _ _).alloc (by simp) _).alloc (by simp) _).alloc (by simp; omega) _) hB1
    obtain ⟨hc1, hf1⟩ := bcell hB1
    have hz1_0 : w.heap.size < w1.heap.size := by have := hB1.size; (try simp at this); omega
    have hz1_1 : w.heap.size + 1 < w1.heap.size := by have := hB1.size; (try simp at this); omega
    have hz1_2 : w.heap.size + 1 + 1 < w1.heap.size := by have := hB1.size; (try simp at this); omega
    clear hB1
    go_wp2_with fail
    refine (refmay_no bf bt HB.out _).mono ?_
    rintro e w2 ⟨rfl, hB2⟩
    have HB2 : Hid (Below w.heap.size w w2) := up HB1.out hB2
    obtain ⟨hc2, hf2⟩ := bcell hB2
    have hz2_0 : w.heap.size < w2.heap.size := by have := hB2.size; (try simp at this); omega
    have hz2_1 : w.heap.size + 1 < w2.heap.size := by have := hB2.size; (try simp at this); omega
    have hz2_2 : w.heap.size + 1 + 1 < w2.heap.size := by have := hB2.size; (try simp at this); omega
    clear hB2
    go_wp2_with fail
    refine bodyPost_ret (v := .tuple #[.agg #[.int .i64 0, .int .i64 0], .int .i64 2]) (by simp [results, Try.results20, go_sem, hc1, hc2, hz1_2]) rfl ⟨rfl, (by repeat (first | exact HB2.out | refine below_set ?_ _ _ (by first | omega | (simp; done) | (simp; omega)) _ | refine Below.alloc ?_ (by first | omega | (simp; done) | (simp; omega)) _))⟩
  · have HA := Lib.hid ha
    clear ha hab
    go_enter Try.func20, Try.ntmps20
    go_wp2_with fail
    refine (refmay_no af at_ HA.out _).mono ?_
    rintro e w1 ⟨rfl, hB1⟩
    have HB1 : Hid (Below w.heap.size w w1) := up ((((Below.refl _ _).alloc (by simp) _).alloc (by simp) _).alloc (by simp; omega) _) hB1
    obtain ⟨hc1, hf1⟩ := bcell hB1
    have hz1_0 : w.heap.size < w1.heap.size := by have := hB1.size; (try simp at this); omega
    have hz1_1 : w.heap.size + 1 < w1.heap.size := by have := hB1.size; (try simp at this); omega
    have hz1_2 : w.heap.size + 1 + 1 < w1.heap.size := by have := hB1.size; (try simp at this); omega
    clear hB1
    go_wp2_with fail
    refine bodyPost_ret (v := .tuple #[.agg #[.int .i64 0, .int .i64 0], .int .i64 2]) (by simp [results, Try.results20, go_sem, hc1]) rfl ⟨rfl, (by repeat (first | exact HB1.out | refine below_set ?_ _ _ (by first | omega | (simp; done) | (simp; omega)) _ | refine Below.alloc ?_ (by first | omega | (simp; done) | (simp; omega)) _))⟩
theorem refboth_none (af at_ bf bt : Int) (ha : may af at_) (hb : may bf bt) (hh : ¬ meets af at_ bf bt) (w : World) :
    Calls Try.prog 20 #[.agg #[.int .i64 af, .int .i64 at_], .agg #[.int .i64 bf, .int .i64 bt]] w fun e w' => e = .returned (.tuple #[.agg #[.int .i64 0, .int .i64 0], .int .i64 6]) ∧ Below w.heap.size w w' := by
  have HA := Lib.hid ha
  have HB := Lib.hid hb
  have HH := Lib.hid hh
  clear ha hb hh
  go_enter Try.func20, Try.ntmps20
  go_wp2_with fail
  refine (refmay_yes af at_ HA.out _).mono ?_
  rintro e w1 ⟨rfl, hB1⟩
  have HB1 : Hid (Below w.heap.size w w1) := up ((((Below.refl _ _).alloc (by simp) _).alloc (by simp) _).alloc (by simp; omega) _) hB1
  obtain ⟨hc1, hf1⟩ := bcell hB1
  have hz1_0 : w.heap.size < w1.heap.size := by have := hB1.size; (try simp at this); omega
  have hz1_1 : w.heap.size + 1 < w1.heap.size := by have := hB1.size; (try simp at this); omega
  have hz1_2 : w.heap.size + 1 + 1 < w1.heap.size := by have := hB1.size; (try simp at this); omega
  clear hB1
  go_wp2_with fail
  refine (refmay_yes bf bt HB.out _).mono ?_
  rintro e w2 ⟨rfl, hB2⟩
  have HB2 : Hid (Below w.heap.size w w2) := up HB1.out hB2
  obtain ⟨hc2, hf2⟩ := bcell hB2
  have hz2_0 : w.heap.size < w2.heap.size := by have := hB2.size; (try simp at this); omega
  have hz2_1 : w.heap.size + 1 < w2.heap.size := by have := hB2.size; (try simp at this); omega
  have hz2_2 : w.heap.size + 1 + 1 < w2.heap.size := by have := hB2.size; (try simp at this); omega
  clear hB2
  go_wp2_with fail
  refine (refmeets_no af at_ bf bt HA.out HB.out HH.out _).mono ?_
  rintro e w3 ⟨rfl, hB3⟩
  have HB3 : Hid (Below w.heap.size w w3) := up HB2.out hB3
  obtain ⟨hc3, hf3⟩ := bcell hB3
  have hz3_0 : w.heap.size < w3.heap.size := by have := hB3.size; (try simp at this); omega
  have hz3_1 : w.heap.size + 1 < w3.heap.size := by have := hB3.size; (try simp at this); omega
  have hz3_2 : w.heap.size + 1 + 1 < w3.heap.size := by have := hB3.size; (try simp at this); omega
  clear hB3
  go_wp2_with fail
  refine bodyPost_ret (v := .tuple #[.agg #[.int .i64 0, .int .i64 0], .int .i64 6]) (by simp [results, Try.results20, go_sem, hc1, hc2, hc3, hz1_2, hz2_2]) rfl ⟨rfl, (by repeat (first | exact HB3.out | refine below_set ?_ _ _ (by first | omega | (simp; done) | (simp; omega)) _ | refine Below.alloc ?_ (by first | omega | (simp; done) | (simp; omega)) _))⟩
theorem refboth_yes (af at_ bf bt : Int) (ha : may af at_) (hb : may bf bt) (hh : meets af at_ bf bt) (w : World) :
    Calls Try.prog 20 #[.agg #[.int .i64 af, .int .i64 at_], .agg #[.int .i64 bf, .int .i64 bt]] w fun e w' => e = .returned (.tuple #[.agg #[.int .i64 (mx af bf), .int .i64 (mn at_ bt)], .int .i64 0]) ∧ Below w.heap.size w w' := by
  have HA := Lib.hid ha
  have HB := Lib.hid hb
  have HH := Lib.hid hh
  clear ha hb hh
  unfold mx mn
  by_cases h1 : af < bf
  · rw [if_pos h1]
    by_cases h2 : bt < at_
    · rw [if_pos h2]
      go_enter Try.func20, Try.ntmps20
      go_wp2_with fail
      refine (refmay_yes af at_ HA.out _).mono ?_
      rintro e w1 ⟨rfl, hB1⟩
      have HB1 : Hid (Below w.heap.size w w1) := up ((((Below.refl _ _).alloc (by simp) _).alloc (by simp) _).alloc (by simp; omega) _) hB1
      obtain ⟨hc1, hf1⟩ := bcell hB1
      have hz1_0 : w.heap.size < w1.heap.size := by have := hB1.size; (try simp at this); omega
      have hz1_1 : w.heap.size + 1 < w1.heap.size := by have := hB1.size; (try simp at this); omega
      have hz1_2 : w.heap.size + 1 + 1 < w1.heap.size := by have := hB1.size; (try simp at this); omega
      clear hB1
      go_wp2_with fail
      refine (refmay_yes bf bt HB.out _).mono ?_
      rintro e w2 ⟨rfl, hB2⟩
      have HB2 : Hid (Below w.heap.size w w2) := up HB1.out hB2
      obtain ⟨hc2, hf2⟩ := bcell hB2
      have hz2_0 : w.heap.size < w2.heap.size := by have := hB2.size; (try simp at this); omega
      have hz2_1 : w.heap.size + 1 < w2.heap.size := by have := hB2.size; (try simp at this); omega
      have hz2_2 : w.heap.size + 1 + 1 < w2.heap.size := by have := hB2.size; (try simp at this); omega
      clear hB2
      go_wp2_with fail
      refine (refmeets_yes af at_ bf bt HA.out HB.out HH.out _).mono ?_
      rintro e w3 ⟨rfl, hB3⟩
      have HB3 : Hid (Below w.heap.size w w3) := up HB2.out hB3
      obtain ⟨hc3, hf3⟩ := bcell hB3
      have hz3_0 : w.heap.size < w3.heap.size := by have := hB3.size; (try simp at this); omega
      have hz3_1 : w.heap.size + 1 < w3.heap.size := by have := hB3.size; (try simp at this); omega
      have hz3_2 : w.heap.size + 1 + 1 < w3.heap.size := by have := hB3.size; (try simp at this); omega
      clear hB3
      go_wp2_with fail
      refine bodyPost_ret (v := .tuple #[.agg #[.int .i64 bf, .int .i64 bt], .int .i64 0]) (by simp [results, Try.results20, go_sem, hc1, hc2, hc3, hz1_2, hz2_2, hz3_2]) rfl ⟨rfl, (by repeat (first | exact HB3.out | refine below_set ?_ _ _ (by first | omega | (simp; done) | (simp; omega)) _ | refine Below.alloc ?_ (by first | omega | (simp; done) | (simp; omega)) _))⟩
    · rw [if_neg h2]
      go_enter Try.func20, Try.ntmps20
      go_wp2_with fail
      refine (refmay_yes af at_ HA.out _).mono ?_
      rintro e w1 ⟨rfl, hB1⟩
      have HB1 : Hid (Below w.heap.size w w1) := up ((((Below.refl _ _).alloc (by simp) _).alloc (by simp) _).alloc (by simp; omega) _) hB1
      obtain ⟨hc1, hf1⟩ := bcell hB1
      have hz1_0 : w.heap.size < w1.heap.size := by have := hB1.size; (try simp at this); omega
      have hz1_1 : w.heap.size + 1 < w1.heap.size := by have := hB1.size; (try simp at this); omega
      have hz1_2 : w.heap.size + 1 + 1 < w1.heap.size := by have := hB1.size; (try simp at this); omega
      clear hB1
      go_wp2_with fail
      refine (refmay_yes bf bt HB.out _).mono ?_
      rintro e w2 ⟨rfl, hB2⟩
      have HB2 : Hid (Below w.heap.size w w2) := up HB1.out hB2
      obtain ⟨hc2, hf2⟩ := bcell hB2
      have hz2_0 : w.heap.size < w2.heap.size := by have := hB2.size; (try simp at this); omega
      have hz2_1 : w.heap.size + 1 < w2.heap.size := by have := hB2.size; (try simp at this); omega
      have hz2_2 : w.heap.size + 1 + 1 < w2.heap.size := by have := hB2.size; (try simp at this); omega
      clear hB2
      go_wp2_with fail
      refine (refmeets_yes af at_ bf bt HA.out HB.out HH.out _).mono ?_
      rintro e w3 ⟨rfl, hB3⟩
      have HB3 : Hid (Below w.heap.size w w3) := up HB2.out hB3
      obtain ⟨hc3, hf3⟩ := bcell hB3
      have hz3_0 : w.heap.size < w3.heap.size := by have := hB3.size; (try simp at this); omega
      have hz3_1 : w.heap.size + 1 < w3.heap.size := by have := hB3.size; (try simp at this); omega
      have hz3_2 : w.heap.size + 1 + 1 < w3.heap.size := by have := hB3.size; (try simp at this); omega
      clear hB3
      go_wp2_with fail
      refine bodyPost_ret (v := .tuple #[.agg #[.int .i64 bf, .int .i64 at_], .int .i64 0]) (by simp [results, Try.results20, go_sem, hc1, hc2, hc3, hz1_2, hz2_2, hz3_2]) rfl ⟨rfl, (by repeat (first | exact HB3.out | refine below_set ?_ _ _ (by first | omega | (simp; done) | (simp; omega)) _ | refine Below.alloc ?_ (by first | omega | (simp; done) | (simp; omega)) _))⟩
  · rw [if_neg h1]
    by_cases h2 : bt < at_
    · rw [if_pos h2]
      go_enter Try.func20, Try.ntmps20
      go_wp2_with fail
      refine (refmay_yes af at_ HA.out _).mono ?_
      rintro e w1 ⟨rfl, hB1⟩
      have HB1 : Hid (Below w.heap.size w w1) := up ((((Below.refl _ _).alloc (by simp) _).alloc (by simp) _).alloc (by simp; omega) _) hB1
      obtain ⟨hc1, hf1⟩ := bcell hB1
      have hz1_0 : w.heap.size < w1.heap.size := by have := hB1.size; (try simp at this); omega
      have hz1_1 : w.heap.size + 1 < w1.heap.size := by have := hB1.size; (try simp at this); omega
      have hz1_2 : w.heap.size + 1 + 1 < w1.heap.size := by have := hB1.size; (try simp at this); omega
      clear hB1
      go_wp2_with fail
      refine (refmay_yes bf bt HB.out _).mono ?_
      rintro e w2 ⟨rfl, hB2⟩
      have HB2 : Hid (Below w.heap.size w w2) := up HB1.out hB2
      obtain ⟨hc2, hf2⟩ := bcell hB2
      have hz2_0 : w.heap.size < w2.heap.size := by have := hB2.size; (try simp at this); omega
      have hz2_1 : w.heap.size + 1 < w2.heap.size := by have := hB2.size; (try simp at this); omega
      have hz2_2 : w.heap.size + 1 + 1 < w2.heap.size := by have := hB2.size; (try simp at this); omega
      clear hB2
      go_wp2_with fail
      refine (refmeets_yes af at_ bf bt HA.out HB.out HH.out _).mono ?_
      rintro e w3 ⟨rfl, hB3⟩
      have HB3 : Hid (Below w.heap.size w w3) := up HB2.out hB3
      obtain ⟨hc3, hf3⟩ := bcell hB3
      have hz3_0 : w.heap.size < w3.heap.size := by have := hB3.size; (try simp at this); omega
      have hz3_1 : w.heap.size + 1 < w3.heap.size := by have := hB3.size; (try simp at this); omega
      have hz3_2 : w.heap.size + 1 + 1 < w3.heap.size := by have := hB3.size; (try simp at this); omega
      clear hB3
      go_wp2_with fail
      refine bodyPost_ret (v := .tuple #[.agg #[.int .i64 af, .int .i64 bt], .int .i64 0]) (by simp [results, Try.results20, go_sem, hc1, hc2, hc3, hz1_2, hz2_2, hz3_2]) rfl ⟨rfl, (by repeat (first | exact HB3.out | refine below_set ?_ _ _ (by first | omega | (simp; done) | (simp; omega)) _ | refine Below.alloc ?_ (by first | omega | (simp; done) | (simp; omega)) _))⟩
    · rw [if_neg h2]
      go_enter Try.func20, Try.ntmps20
      go_wp2_with fail
      refine (refmay_yes af at_ HA.out _).mono ?_
      rintro e w1 ⟨rfl, hB1⟩
      have HB1 : Hid (Below w.heap.size w w1) := up ((((Below.refl _ _).alloc (by simp) _).alloc (by simp) _).alloc (by simp; omega) _) hB1
      obtain ⟨hc1, hf1⟩ := bcell hB1
      have hz1_0 : w.heap.size < w1.heap.size := by have := hB1.size; (try simp at this); omega
      have hz1_1 : w.heap.size + 1 < w1.heap.size := by have := hB1.size; (try simp at this); omega
      have hz1_2 : w.heap.size + 1 + 1 < w1.heap.size := by have := hB1.size; (try simp at this); omega
      clear hB1
      go_wp2_with fail
      refine (refmay_yes bf bt HB.out _).mono ?_
      rintro e w2 ⟨rfl, hB2⟩
      have HB2 : Hid (Below w.heap.size w w2) := up HB1.out hB2
      obtain ⟨hc2, hf2⟩ := bcell hB2
      have hz2_0 : w.heap.size < w2.heap.size := by have := hB2.size; (try simp at this); omega
      have hz2_1 : w.heap.size + 1 < w2.heap.size := by have := hB2.size; (try simp at this); omega
      have hz2_2 : w.heap.size + 1 + 1 < w2.heap.size := by have := hB2.size; (try simp at this); omega
      clear hB2
      go_wp2_with fail
      refine (refmeets_yes af at_ bf bt HA.out HB.out HH.out _).mono ?_
      rintro e w3 ⟨rfl, hB3⟩
      have HB3 : Hid (Below w.heap.size w w3) := up HB2.out hB3
      obtain ⟨hc3, hf3⟩ := bcell hB3
      have hz3_0 : w.heap.size < w3.heap.size := by have := hB3.size; (try simp at this); omega
      have hz3_1 : w.heap.size + 1 < w3.heap.size := by have := hB3.size; (try simp at this); omega
      have hz3_2 : w.heap.size + 1 + 1 < w3.heap.size := by have := hB3.size; (try simp at this); omega
      clear hB3
      go_wp2_with fail
      refine bodyPost_ret (v := .tuple #[.agg #[.int .i64 af, .int .i64 at_], .int .i64 0]) (by simp [results, Try.results20, go_sem, hc1, hc2, hc3, hz1_2, hz2_2, hz3_2]) rfl ⟨rfl, (by repeat (first | exact HB3.out | refine below_set ?_ _ _ (by first | omega | (simp; done) | (simp; omega)) _ | refine Below.alloc ?_ (by first | omega | (simp; done) | (simp; omega)) _))⟩
end Go.Proofs.Ytbmdmhmdjidflaa.TimeRef3
