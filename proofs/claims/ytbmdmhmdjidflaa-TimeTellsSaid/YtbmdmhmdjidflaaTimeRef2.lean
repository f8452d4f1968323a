/- The contracts of the reference's functions on spans, for all spans. -/
import Derived.Test.YtbmdmhmdjidflaaTimeRef
namespace Go.Proofs.Ytbmdmhmdjidflaa.TimeRef2
open Go.RowKit Mem TimeWalks TimeAsked TimeRef
set_option linter.unusedVariables false

theorem up {w W W' : World} (h : Below w.heap.size w W) (h2 : Below W.heap.size W W') : Below w.heap.size w W' := h.trans (h2.mono h.size)
theorem up_alloc {w W W' : World} {o : Obj} (h : Below w.heap.size w W) (h2 : Below (W.alloc o).heap.size (W.alloc o) W') : Below w.heap.size w W' := up (h.alloc h.size o) h2
theorem refcheck_ok (f t : Int) (h : may f t) (w : World) :
    Calls Try.prog 22 #[.agg #[.int .i64 f, .int .i64 t]] w fun e w' => e = .returned (.int .i64 0) ∧ Below w.heap.size w w' := by
  have HM := Lib.hid h
  clear h
  go_enter Try.func22, Try.ntmps22
  go_wp2_with fail
  refine (refmay_yes f t HM.out _).mono ?_
  rintro e w1 ⟨rfl, hB1⟩
  have HB1 : Hid (Below w.heap.size w w1) := up ((Below.refl _ _).alloc (by simp) _) hB1
  obtain ⟨hc1, hf1⟩ := bcell hB1
  have hz1_0 : w.heap.size < w1.heap.size := by have := hB1.size; (try simp at this); omega
  clear hB1
  go_wp2_with fail
  go_ret
  exact ⟨rfl, HB1.out⟩
theorem refcheck_bad (f t : Int) (h : ¬ may f t) (w : World) :
    Calls Try.prog 22 #[.agg #[.int .i64 f, .int .i64 t]] w fun e w' => e = .returned (.int .i64 2) ∧ Below w.heap.size w w' := by
  have HM := Lib.hid h
  clear h
  go_enter Try.func22, Try.ntmps22
  go_wp2_with fail
  refine (refmay_no f t HM.out _).mono ?_
  rintro e w1 ⟨rfl, hB1⟩
  have HB1 : Hid (Below w.heap.size w w1) := up ((Below.refl _ _).alloc (by simp) _) hB1
  obtain ⟨hc1, hf1⟩ := bcell hB1
  have hz1_0 : w.heap.size < w1.heap.size := by have := hB1.size; (try simp at this); omega
  clear hB1
  go_wp2_with fail
  go_ret
  exact ⟨rfl, HB1.out⟩
theorem refmeets_yes (af at_ bf bt : Int) (ha : may af at_) (hb : may bf bt) (hh : meets af at_ bf bt) (w : World) :
    Calls Try.prog 28 #[.agg #[.int .i64 af, .int .i64 at_], .agg #[.int .i64 bf, .int .i64 bt]] w fun e w' => e = .returned (.bool true) ∧ Below w.heap.size w w' := by
  have ha1 := ha.2.1
  have hb1 := hb.2.1
  have h1 := hh.1
  have h2 := hh.2
  clear ha hb hh
  by_cases h : af ≤ bf
  · have h3 : af ≤ bf ∧ bf < at_ := ⟨h, h2⟩
    have H3 := Lib.hid h3
    clear h3 h h1 h2 ha1 hb1
    go_enter Try.func28, Try.ntmps28
    go_wp2_with fail
    refine (refin_yes af at_ bf H3.out.1 H3.out.2 _).mono ?_
    rintro e w1 ⟨rfl, hB1⟩
    have HB1 : Hid (Below w.heap.size w w1) := up (((Below.refl _ _).alloc (by simp) _).alloc (by simp) _) hB1
    obtain ⟨hc1, hf1⟩ := bcell hB1
    have hz1_0 : w.heap.size < w1.heap.size := by have := hB1.size; (try simp at this); omega
    have hz1_1 : w.heap.size + 1 < w1.heap.size := by have := hB1.size; (try simp at this); omega
    clear hB1
    go_wp2_with fail
    go_ret
    exact ⟨rfl, HB1.out⟩
  · have h3 : ¬ (af ≤ bf ∧ bf < at_) := fun x => h x.1
    have H3 := Lib.hid h3
    have h4 : bf ≤ af ∧ af < bt := ⟨by omega, h1⟩
    have H4 := Lib.hid h4
    clear h3 h4 h h1 h2 ha1 hb1
    go_enter Try.func28, Try.ntmps28
    go_wp2_with fail
    refine (refin_no af at_ bf H3.out _).mono ?_
    rintro e w1 ⟨rfl, hB1⟩
    have HB1 : Hid (Below w.heap.size w w1) := up (((Below.refl _ _).alloc (by simp) _).alloc (by simp) _) hB1
    obtain ⟨hc1, hf1⟩ := bcell hB1
    have hz1_0 : w.heap.size < w1.heap.size := by have := hB1.size; (try simp at this); omega
    have hz1_1 : w.heap.size + 1 < w1.heap.size := by have := hB1.size; (try simp at this); omega
    clear hB1
    go_wp2_with fail
    refine (refin_yes bf bt af H4.out.1 H4.out.2 _).mono ?_
    rintro e w2 ⟨rfl, hB2⟩
    have HB2 : Hid (Below w.heap.size w w2) := up HB1.out hB2
    obtain ⟨hc2, hf2⟩ := bcell hB2
    have hz2_0 : w.heap.size < w2.heap.size := by have := hB2.size; (try simp at this); omega
    have hz2_1 : w.heap.size + 1 < w2.heap.size := by have := hB2.size; (try simp at this); omega
    clear hB2
    go_wp2_with fail
    go_ret
    exact ⟨rfl, HB2.out⟩
theorem refmeets_no (af at_ bf bt : Int) (ha : may af at_) (hb : may bf bt) (hh : ¬ meets af at_ bf bt) (w : World) :
    Calls Try.prog 28 #[.agg #[.int .i64 af, .int .i64 at_], .agg #[.int .i64 bf, .int .i64 bt]] w fun e w' => e = .returned (.bool false) ∧ Below w.heap.size w w' := by
  have ha1 := ha.2.1
  have hb1 := hb.2.1
  unfold meets at hh
  have h3 : ¬ (af ≤ bf ∧ bf < at_) := by omega
  have H3 := Lib.hid h3
  have h4 : ¬ (bf ≤ af ∧ af < bt) := by omega
  have H4 := Lib.hid h4
  clear h3 h4 hh ha1 hb1 ha hb
  go_enter Try.func28, Try.ntmps28
  go_wp2_with fail
  refine (refin_no af at_ bf H3.out _).mono ?_
  rintro e w1 ⟨rfl, hB1⟩
  have HB1 : Hid (Below w.heap.size w w1) := up (((Below.refl _ _).alloc (by simp) _).alloc (by simp) _) hB1
  obtain ⟨hc1, hf1⟩ := bcell hB1
  have hz1_0 : w.heap.size < w1.heap.size := by have := hB1.size; (try simp at this); omega
  have hz1_1 : w.heap.size + 1 < w1.heap.size := by have := hB1.size; (try simp at this); omega
  clear hB1
  go_wp2_with fail
  refine (refin_no bf bt af H4.out _).mono ?_
  rintro e w2 ⟨rfl, hB2⟩
  have HB2 : Hid (Below w.heap.size w w2) := up HB1.out hB2
  obtain ⟨hc2, hf2⟩ := bcell hB2
  have hz2_0 : w.heap.size < w2.heap.size := by have := hB2.size; (try simp at this); omega
  have hz2_1 : w.heap.size + 1 < w2.heap.size := by have := hB2.size; (try simp at this); omega
  clear hB2
  go_wp2_with fail
  go_ret
  exact ⟨rfl, HB2.out⟩
theorem refmeet_yes (af at_ bf bt : Int) (ha : may af at_) (hb : may bf bt) (hh : meets af at_ bf bt) (w : World) :
    Calls Try.prog 18 #[.agg #[.int .i64 af, .int .i64 at_], .agg #[.int .i64 bf, .int .i64 bt]] w fun e w' => e = .returned (.tuple #[.bool true, .int .i64 0]) ∧ Below w.heap.size w w' := by
  have HA := Lib.hid ha
  have HB := Lib.hid hb
  have HH := Lib.hid hh
  clear ha hb hh
  go_enter Try.func18, Try.ntmps18
  go_wp2_with fail
  refine (refmay_yes af at_ HA.out _).mono ?_
  rintro e w1 ⟨rfl, hB1⟩
  have HB1 : Hid (Below w.heap.size w w1) := up (((Below.refl _ _).alloc (by simp) _).alloc (by simp) _) hB1
  obtain ⟨hc1, hf1⟩ := bcell hB1
  have hz1_0 : w.heap.size < w1.heap.size := by have := hB1.size; (try simp at this); omega
  have hz1_1 : w.heap.size + 1 < w1.heap.size := by have := hB1.size; (try simp at this); omega
  clear hB1
  go_wp2_with fail
  refine (refmay_yes bf bt HB.out _).mono ?_
  rintro e w2 ⟨rfl, hB2⟩
  have HB2 : Hid (Below w.heap.size w w2) := up HB1.out hB2
  obtain ⟨hc2, hf2⟩ := bcell hB2
  have hz2_0 : w.heap.size < w2.heap.size := by have := hB2.size; (try simp at this); omega
  have hz2_1 : w.heap.size + 1 < w2.heap.size := by have := hB2.size; (try simp at this); omega
  clear hB2
  go_wp2_with fail
  refine (refmeets_yes af at_ bf bt HA.out HB.out HH.out _).mono ?_
  rintro e w3 ⟨rfl, hB3⟩
  have HB3 : Hid (Below w.heap.size w w3) := up HB2.out hB3
  obtain ⟨hc3, hf3⟩ := bcell hB3
  have hz3_0 : w.heap.size < w3.heap.size := by have := hB3.size; (try simp at this); omega
  have hz3_1 : w.heap.size + 1 < w3.heap.size := by have := hB3.size; (try simp at this); omega
  clear hB3
  go_wp2_with fail
  go_ret2
  exact ⟨rfl, HB3.out⟩
theorem refmeet_no (af at_ bf bt : Int) (ha : may af at_) (hb : may bf bt) (hh : ¬ meets af at_ bf bt) (w : World) :
    Calls Try.prog 18 #[.agg #[.int .i64 af, .int .i64 at_], .agg #[.int .i64 bf, .int .i64 bt]] w fun e w' => e = .returned (.tuple #[.bool false, .int .i64 0]) ∧ Below w.heap.size w w' := by
  have HA := Lib.hid ha
  have HB := Lib.hid hb
  have HH := Lib.hid hh
  clear ha hb hh
  go_enter Try.func18, Try.ntmps18
  go_wp2_with fail
  refine (refmay_yes af at_ HA.out _).mono ?_
  rintro e w1 ⟨rfl, hB1⟩
  have HB1 : Hid (Below w.heap.size w w1) := up (((Below.refl _ _).alloc (by simp) _).alloc (by simp) _) hB1
  obtain ⟨hc1, hf1⟩ := bcell hB1
  have hz1_0 : w.heap.size < w1.heap.size := by have := hB1.size; (try simp at this); omega
  have hz1_1 : w.heap.size + 1 < w1.heap.size := by have := hB1.size; (try simp at this); omega
  clear hB1
  go_wp2_with fail
  refine (refmay_yes bf bt HB.out _).mono ?_
  rintro e w2 ⟨rfl, hB2⟩
  have HB2 : Hid (Below w.heap.size w w2) := up HB1.out hB2
  obtain ⟨hc2, hf2⟩ := bcell hB2
  have hz2_0 : w.heap.size < w2.heap.size := by have := hB2.size; (try simp at this); omega
  have hz2_1 : w.heap.size + 1 < w2.heap.size := by have := hB2.size; (try simp at this); omega
  clear hB2
  go_wp2_with fail
  refine (refmeets_no af at_ bf bt HA.out HB.out HH.out _).mono ?_
  rintro e w3 ⟨rfl, hB3⟩
  have HB3 : Hid (Below w.heap.size w w3) := up HB2.out hB3
  obtain ⟨hc3, hf3⟩ := bcell hB3
  have hz3_0 : w.heap.size < w3.heap.size := by have := hB3.size; (try simp at this); omega
  have hz3_1 : w.heap.size + 1 < w3.heap.size := by have := hB3.size; (try simp at this); omega
  clear hB3
  go_wp2_with fail
  go_ret2
  exact ⟨rfl, HB3.out⟩
theorem refmeet_bad (af at_ bf bt : Int) (hab : ¬ (may af at_ ∧ may bf bt)) (w : World) :
    Calls Try.prog 18 #[.agg #[.int .i64 af, .int .i64 at_], .agg #[.int .i64 bf, .int .i64 bt]] w fun e w' => e = .returned (.tuple #[.bool false, .int .i64 2]) ∧ Below w.heap.size w w' := by
  by_cases ha : may af at_
  · have hb : ¬ may bf bt := fun hb => hab ⟨ha, hb⟩
    have HA := Lib.hid ha
    have HB := Lib.hid hb
    clear ha hb hab
    go_enter Try.func18, Try.ntmps18
    go_wp2_with fail
    refine (refmay_yes af at_ HA.out _).mono ?_
    rintro e w1 ⟨rfl, hB1⟩
    have HB1 : Hid (Below w.heap.size w w1) := up (((Below.refl _ _).alloc (by simp) _).alloc (by simp) _) hB1
    obtain ⟨hc1, hf1⟩ := bcell hB1
    have hz1_0 : w.heap.size < w1.heap.size := by have := hB1.size; (try simp at this); omega
    have hz1_1 : w.heap.size + 1 < w1.heap.size := by have := hB1.size; (try simp at this); omega
    clear hB1
    go_wp2_with fail
    refine (refmay_no bf bt HB.out _).mono ?_
    rintro e w2 ⟨rfl, hB2⟩
    have HB2 : Hid (Below w.heap.size w w2) := up HB1.out hB2
    obtain ⟨hc2, hf2⟩ := bcell hB2
    have hz2_0 : w.heap.size < w2.heap.size := by have := hB2.size; (try simp at this); omega
    have hz2_1 : w.heap.size + 1 < w2.heap.size := by have := hB2.size; (try simp at this); omega
    clear hB2
    go_wp2_with fail
    go_ret2
    exact ⟨rfl, HB2.out⟩
  · have HA := Lib.hid ha
    clear ha hab
    go_enter Try.func18, Try.ntmps18
    go_wp2_with fail
    refine (refmay_no af at_ HA.out _).mono ?_
    rintro e w1 ⟨rfl, hB1⟩
    have HB1 : Hid (Below w.heap.size w w1) := up (((Below.refl _ _).alloc (by simp) _).alloc (by simp) _) hB1
    obtain ⟨hc1, hf1⟩ := bcell hB1
    have hz1_0 : w.heap.size < w1.heap.size := by have := hB1.size; (try simp at this); omega
    have hz1_1 : w.heap.size + 1 < w1.heap.size := by have := hB1.size; (try simp at this); omega
    clear hB1
    go_wp2_with fail
    go_ret2
    exact ⟨rfl, HB1.out⟩
theorem refwithin_bad (af at_ bf bt : Int) (hab : ¬ (may af at_ ∧ may bf bt)) (w : World) :
    Calls Try.prog 19 #[.agg #[.int .i64 af, .int .i64 at_], .agg #[.int .i64 bf, .int .i64 bt]] w fun e w' => e = .returned (.tuple #[.bool false, .int .i64 2]) ∧ Below w.heap.size w w' := by
  by_cases ha : may af at_
  · have hb : ¬ may bf bt := fun hb => hab ⟨ha, hb⟩
    have HA := Lib.hid ha
    have HB := Lib.hid hb
    clear ha hb hab
    go_enter Try.func19, Try.ntmps19
    go_wp2_with fail
    refine (refmay_yes af at_ HA.out _).mono ?_
    rintro e w1 ⟨rfl, hB1⟩
    have HB1 : Hid (Below w.heap.size w w1) := up (((Below.refl _ _).alloc (by simp) _).alloc (by simp) _) hB1
    obtain ⟨hc1, hf1⟩ := bcell hB1
    have hz1_0 : w.heap.size < w1.heap.size := by have := hB1.size; (try simp at this); omega
    have hz1_1 : w.heap.size + 1 < w1.heap.size := by have := hB1.size; (try simp at this); omega
    clear hB1
    go_wp2_with fail
    refine (refmay_no bf bt HB.out _).mono ?_
    rintro e w2 ⟨rfl, hB2⟩
    have HB2 : Hid (Below w.heap.size w w2) := up HB1.out hB2
    obtain ⟨hc2, hf2⟩ := bcell hB2
    have hz2_0 : w.heap.size < w2.heap.size := by have := hB2.size; (try simp at this); omega
    have hz2_1 : w.heap.size + 1 < w2.heap.size := by have := hB2.size; (try simp at this); omega
    clear hB2
    go_wp2_with fail
    go_ret2
    exact ⟨rfl, HB2.out⟩
  · have HA := Lib.hid ha
    clear ha hab
    go_enter Try.func19, Try.ntmps19
    go_wp2_with fail
    refine (refmay_no af at_ HA.out _).mono ?_
    rintro e w1 ⟨rfl, hB1⟩
    have HB1 : Hid (Below w.heap.size w w1) := up (((Below.refl _ _).alloc (by simp) _).alloc (by simp) _) hB1
    obtain ⟨hc1, hf1⟩ := bcell hB1
    have hz1_0 : w.heap.size < w1.heap.size := by have := hB1.size; (try simp at this); omega
    have hz1_1 : w.heap.size + 1 < w1.heap.size := by have := hB1.size; (try simp at this); omega
    clear hB1
    go_wp2_with fail
    go_ret2
    exact ⟨rfl, HB1.out⟩
theorem reflong_ok (f t : Int) (h : may f t) (w : World) :
    Calls Try.prog 17 #[.agg #[.int .i64 f, .int .i64 t]] w fun e w' => e = .returned (.tuple #[.int .i64 (t - f), .int .i64 0]) ∧ Below w.heap.size w w' := by
  obtain ⟨h0, h1, h2⟩ := h
  have HM : Hid (may f t) := ⟨h0, h1, h2⟩
  go_enter Try.func17, Try.ntmps17
  go_wp2_with fail
  refine (refmay_yes f t HM.out _).mono ?_
  rintro e w1 ⟨rfl, hB1⟩
  have HB1 : Hid (Below w.heap.size w w1) := up ((Below.refl _ _).alloc (by simp) _) hB1
  obtain ⟨hc1, hf1⟩ := bcell hB1
  have hz1_0 : w.heap.size < w1.heap.size := by have := hB1.size; (try simp at this); omega
  clear hB1
  go_wp2_with fail
  go_ret2
  exact ⟨rfl, HB1.out⟩
theorem reflong_bad (f t : Int) (h : ¬ may f t) (w : World) :
    Calls Try.prog 17 #[.agg #[.int .i64 f, .int .i64 t]] w fun e w' => e = .returned (.tuple #[.int .i64 0, .int .i64 2]) ∧ Below w.heap.size w w' := by
  have HM := Lib.hid h
  clear h
  go_enter Try.func17, Try.ntmps17
  go_wp2_with fail
  refine (refmay_no f t HM.out _).mono ?_
  rintro e w1 ⟨rfl, hB1⟩
  have HB1 : Hid (Below w.heap.size w w1) := up ((Below.refl _ _).alloc (by simp) _) hB1
  obtain ⟨hc1, hf1⟩ := bcell hB1
  have hz1_0 : w.heap.size < w1.heap.size := by have := hB1.size; (try simp at this); omega
  clear hB1
  go_wp2_with fail
  go_ret2
  exact ⟨rfl, HB1.out⟩
theorem refwithin_yes (af at_ bf bt : Int) (ha : may af at_) (hb : may bf bt) (hh : inside af at_ bf bt) (w : World) :
    Calls Try.prog 19 #[.agg #[.int .i64 af, .int .i64 at_], .agg #[.int .i64 bf, .int .i64 bt]] w fun e w' => e = .returned (.tuple #[.bool true, .int .i64 0]) ∧ Below w.heap.size w w' := by
  have ha0 := ha.1
  have ha1 := ha.2.1
  have ha2 := ha.2.2
  have h1 : bf ≤ af ∧ af < bt := ⟨hh.1, by have := hh.2; omega⟩
  have h2 : bf ≤ at_ - 1 ∧ at_ - 1 < bt := ⟨by have := hh.1; omega, by have := hh.2; omega⟩
  have H1 := Lib.hid h1
  have H2 := Lib.hid h2
  clear h1 h2
  have HA := Lib.hid ha
  have HB := Lib.hid hb
  have HH := Lib.hid hh
  clear ha hb hh
  go_enter Try.func19, Try.ntmps19
  go_wp2_with fail
  refine (refmay_yes af at_ HA.out _).mono ?_
  rintro e w1 ⟨rfl, hB1⟩
  have HB1 : Hid (Below w.heap.size w w1) := up (((Below.refl _ _).alloc (by simp) _).alloc (by simp) _) hB1
  obtain ⟨hc1, hf1⟩ := bcell hB1
  have hz1_0 : w.heap.size < w1.heap.size := by have := hB1.size; (try simp at this); omega
  have hz1_1 : w.heap.size + 1 < w1.heap.size := by have := hB1.size; (try simp at this); omega
  clear hB1
  go_wp2_with fail
  refine (refmay_yes bf bt HB.out _).mono ?_
  rintro e w2 ⟨rfl, hB2⟩
  have HB2 : Hid (Below w.heap.size w w2) := up HB1.out hB2
  obtain ⟨hc2, hf2⟩ := bcell hB2
  have hz2_0 : w.heap.size < w2.heap.size := by have := hB2.size; (try simp at this); omega
  have hz2_1 : w.heap.size + 1 < w2.heap.size := by have := hB2.size; (try simp at this); omega
  clear hB2
  go_wp2_with fail
  refine (refin_yes bf bt af H1.out.1 H1.out.2 _).mono ?_
  rintro e w3 ⟨rfl, hB3⟩
  have HB3 : Hid (Below w.heap.size w w3) := up HB2.out hB3
  obtain ⟨hc3, hf3⟩ := bcell hB3
  have hz3_0 : w.heap.size < w3.heap.size := by have := hB3.size; (try simp at this); omega
  have hz3_1 : w.heap.size + 1 < w3.heap.size := by have := hB3.size; (try simp at this); omega
  clear hB3
  go_wp2_with fail
  refine (refin_yes bf bt (at_ - 1) H2.out.1 H2.out.2 _).mono ?_
  rintro e w4 ⟨rfl, hB4⟩
  have HB4 : Hid (Below w.heap.size w w4) := up HB3.out hB4
  obtain ⟨hc4, hf4⟩ := bcell hB4
  have hz4_0 : w.heap.size < w4.heap.size := by have := hB4.size; (try simp at this); omega
  have hz4_1 : w.heap.size + 1 < w4.heap.size := by have := hB4.size; (try simp at this); omega
  clear hB4
  go_wp2_with fail
  go_ret2
  exact ⟨rfl, HB4.out⟩
theorem refwithin_no (af at_ bf bt : Int) (ha : may af at_) (hb : may bf bt) (hh : ¬ inside af at_ bf bt) (w : World) :
    Calls Try.prog 19 #[.agg #[.int .i64 af, .int .i64 at_], .agg #[.int .i64 bf, .int .i64 bt]] w fun e w' => e = .returned (.tuple #[.bool false, .int .i64 0]) ∧ Below w.heap.size w w' := by
  have ha0 := ha.1
  have ha1 := ha.2.1
  have ha2 := ha.2.2
  by_cases h1 : bf ≤ af ∧ af < bt
  · have h2 : ¬ (bf ≤ at_ - 1 ∧ at_ - 1 < bt) := fun h2 => hh ⟨h1.1, by omega⟩
    have H1 := Lib.hid h1
    have H2 := Lib.hid h2
    clear h1 h2
    have HA := Lib.hid ha
    have HB := Lib.hid hb
    have HH := Lib.hid hh
    clear ha hb hh
    go_enter Try.func19, Try.ntmps19
    go_wp2_with fail
    refine (refmay_yes af at_ HA.out _).mono ?_
    rintro e w1 ⟨rfl, hB1⟩
    have HB1 : Hid (Below w.heap.size w w1) := up (((Below.refl _ _).alloc (by simp) _).alloc (by simp) _) hB1
    obtain ⟨hc1, hf1⟩ := bcell hB1
    have hz1_0 : w.heap.size < w1.heap.size := by have := hB1.size; (try simp at this); omega
    have hz1_1 : w.heap.size + 1 < w1.heap.size := by have := hB1.size; (try simp at this); omega
    clear hB1
    go_wp2_with fail
    refine (refmay_yes bf bt HB.out _).mono ?_
    rintro e w2 ⟨rfl, hB2⟩
    have HB2 : Hid (Below w.heap.size w w2) := up HB1.out hB2
    obtain ⟨hc2, hf2⟩ := bcell hB2
    have hz2_0 : w.heap.size < w2.heap.size := by have := hB2.size; (try simp at this); omega
    have hz2_1 : w.heap.size + 1 < w2.heap.size := by have := hB2.size; (try simp at this); omega
    clear hB2
    go_wp2_with fail
    refine (refin_yes bf bt af H1.out.1 H1.out.2 _).mono ?_
    rintro e w3 ⟨rfl, hB3⟩
    have HB3 : Hid (Below w.heap.size w w3) := up HB2.out hB3
    obtain ⟨hc3, hf3⟩ := bcell hB3
    have hz3_0 : w.heap.size < w3.heap.size := by have := hB3.size; (try simp at this); omega
    have hz3_1 : w.heap.size + 1 < w3.heap.size := by have := hB3.size; (try simp at this); omega
    clear hB3
    go_wp2_with fail
    refine (refin_no bf bt (at_ - 1) H2.out _).mono ?_
    rintro e w4 ⟨rfl, hB4⟩
    have HB4 : Hid (Below w.heap.size w w4) := up HB3.out hB4
    obtain ⟨hc4, hf4⟩ := bcell hB4
    have hz4_0 : w.heap.size < w4.heap.size := by have := hB4.size; (try simp at this); omega
    have hz4_1 : w.heap.size + 1 < w4.heap.size := by have := hB4.size; (try simp at this); omega
    clear hB4
    go_wp2_with fail
    go_ret2
    exact ⟨rfl, HB4.out⟩
  · have H1 := Lib.hid h1
    clear h1
    have HA := Lib.hid ha
    have HB := Lib.hid hb
    have HH := Lib.hid hh
    clear ha hb hh
    go_enter Try.func19, Try.ntmps19
    go_wp2_with fail
    refine (refmay_yes af at_ HA.out _).mono ?_
    rintro e w1 ⟨rfl, hB1⟩
    have HB1 : Hid (Below w.heap.size w w1) := up (((Below.refl _ _).alloc (by simp) _).alloc (by simp) _) hB1
    obtain ⟨hc1, hf1⟩ := bcell hB1
    have hz1_0 : w.heap.size < w1.heap.size := by have := hB1.size; (try simp at this); omega
    have hz1_1 : w.heap.size + 1 < w1.heap.size := by have := hB1.size; (try simp at this); omega
    clear hB1
    go_wp2_with fail
    refine (refmay_yes bf bt HB.out _).mono ?_
    rintro e w2 ⟨rfl, hB2⟩
    have HB2 : Hid (Below w.heap.size w w2) := up HB1.out hB2
    obtain ⟨hc2, hf2⟩ := bcell hB2
    have hz2_0 : w.heap.size < w2.heap.size := by have := hB2.size; (try simp at this); omega
    have hz2_1 : w.heap.size + 1 < w2.heap.size := by have := hB2.size; (try simp at this); omega
    clear hB2
    go_wp2_with fail
    refine (refin_no bf bt af H1.out _).mono ?_
    rintro e w3 ⟨rfl, hB3⟩
    have HB3 : Hid (Below w.heap.size w w3) := up HB2.out hB3
    obtain ⟨hc3, hf3⟩ := bcell hB3
    have hz3_0 : w.heap.size < w3.heap.size := by have := hB3.size; (try simp at this); omega
    have hz3_1 : w.heap.size + 1 < w3.heap.size := by have := hB3.size; (try simp at this); omega
    clear hB3
    go_wp2_with fail
    go_ret2
    exact ⟨rfl, HB3.out⟩
end Go.Proofs.Ytbmdmhmdjidflaa.TimeRef2
