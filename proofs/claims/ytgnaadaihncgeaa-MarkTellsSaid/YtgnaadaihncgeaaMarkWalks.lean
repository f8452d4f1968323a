/- The contracts of mark.mixed, mark.power, mark.Join and the reference's Behind and Join: what each returns, for all numbers in the ranges named. -/
import Derived.Test.YtgnaadaihncgeaaRows
import Derived.Test.YtgnaadaihncgeaaMarkMath
import Derived.WalkKit
import Derived.Outline
import Derived.IntWalk
import Derived.Lib.Hide
import Derived.Laws.BitsAllLaws
import Derived.Laws.BitsLemmas
namespace Go.Proofs.Ytgnaadaihncgeaa.MarkWalks
open Go.RowKit MarkMath
set_option linter.unusedVariables false

theorem mixed_any (m by_ more : Int) (w : World) (h0 : 0 ≤ m * by_) (h1 : m * by_ ≤ 18446744030759878681) (h2 : 0 ≤ more) (h3 : more ≤ 4294967295) :
    Calls Try.prog 17 #[.int .u64 m, .int .u64 by_, .int .u64 more] w fun e w' => e = .returned (.int .u64 ((m * by_ + more) % 4294967291)) ∧ w = w' := by
  go_enter Try.func17, Try.ntmps17
  go_wp2
  go_ret
  exact ⟨rfl, rfl⟩

theorem u64_one (n : Nat) (h : n < 9223372036854775808) : bits .and .i64 (n : Int) 1 = ((n % 2 : Nat) : Int) := by
  have h1 : bits .and .i64 (n : Int) ((1 : Nat) : Int) = ((n &&& 1 : Nat) : Int) := by
    have hx : n &&& 1 < 2 ^ 63 := Nat.and_lt_two_pow _ (by omega)
    show IntKind.i64.wrap ((BitVec.ofInt 64 (n : Int) &&& BitVec.ofInt 64 ((1 : Nat) : Int)).toNat : Int) = _
    have e (a : Nat) (ha : a < 9223372036854775808) : (BitVec.ofInt 64 (a : Int)).toNat = a := by
      rw [BitVec.ofInt_natCast, BitVec.toNat_ofNat]; exact Nat.mod_eq_of_lt (by omega)
    rw [BitVec.toNat_and, e n h, e 1 (by omega), IntKind.wrap_i64]
    omega
  rw [Nat.and_one_is_mod] at h1
  exact h1
theorem sq_le {a b : Int} (h0 : 0 ≤ a) (h1 : a < 4294967291) (h2 : 0 ≤ b) (h3 : b < 4294967291) : 0 ≤ a * b ∧ a * b ≤ 18446744030759878681 := by
  refine ⟨Int.mul_nonneg h0 h2, ?_⟩
  have h4 : a * b ≤ 4294967290 * 4294967290 := Int.mul_le_mul (by omega) (by omega) h2 (by omega)
  omega
/-- The power by squares. -/
theorem power_any (n : Nat) (w : World) (hn : n ≤ 9223372036854775807) :
    Calls Try.prog 18 #[.int .i64 n] w fun e w' => (∃ v : Int, e = .returned (.int .u64 v) ∧ 0 ≤ v ∧ v < 4294967291 ∧ R v (65537 ^ n)) ∧ w = w' := by
  go_enter Try.func18, Try.ntmps18
  go_wp2
  go_loop [0, 3, 4] (fun l o s => ∃ (k : Nat) (x y : Int), k ≤ 9223372036854775807 ∧ l = .int .i64 k ∧ o = .int .u64 x ∧ s = .int .u64 y ∧ 0 ≤ x ∧ x < 4294967291 ∧ 0 ≤ y ∧ y < 4294967291 ∧ Hid (R (x * y ^ k) (65537 ^ n)))
    (fun l _ _ => (intOf l).toNat)
  case atStart => exact ⟨n, 1, 65537, hn, rfl, rfl, rfl, by omega, by omega, by omega, by omega, by rw [Int.one_mul]; exact R.refl _⟩
  case round =>
    obtain ⟨k, x, y, hk, rfl, rfl, rfl, hx0, hx1, hy0, hy1, hR⟩ := hrel
    have hxy := sq_le hx0 hx1 hy0 hy1
    have hyy := sq_le hy0 hy1 hy0 hy1
    obtain ⟨ha, hb⟩ := hxy
    obtain ⟨hc, hd⟩ := hyy
    by_cases h0 : 0 < k
    · have hbit := u64_one k (by omega)
      have hrd := round_R x y k
      have HB := Lib.hid hrd
      clear hrd
      rcases Nat.mod_two_eq_zero_or_one k with h2 | h2
      · rw [h2] at hbit
        have H2 := Lib.hid h2
        clear h2
        go_wp2_with fail
        refine (mixed_any y y 0 _ hc hd (by omega) (by omega)).mono ?_
        rintro e w' ⟨rfl, rfl⟩
        go_wp2_with fail
        go_round
        case rel =>
          refine ⟨k / 2, x, y * y % 4294967291, by omega, by go_num, rfl, by simp, hx0, hx1, by omega, by omega, ?_⟩
          have e := HB.out
          rw [if_neg (by rw [H2.out]; omega)] at e
          exact e.trans hR.out
        case measure => simp [intOf]; omega
      · rw [h2] at hbit
        have H2 := Lib.hid h2
        clear h2
        go_wp2_with fail
        refine (mixed_any x y 0 _ ha hb (by omega) (by omega)).mono ?_
        rintro e w' ⟨rfl, rfl⟩
        go_wp2_with fail
        refine (mixed_any y y 0 _ hc hd (by omega) (by omega)).mono ?_
        rintro e w' ⟨rfl, rfl⟩
        go_wp2_with fail
        go_round
        case rel =>
          refine ⟨k / 2, x * y % 4294967291, y * y % 4294967291, by omega, by go_num, by simp, by simp, by omega, by omega, by omega, by omega, ?_⟩
          have e := HB.out
          rw [if_pos H2.out] at e
          exact e.trans hR.out
        case measure => simp [intOf]; omega
    · obtain rfl : k = 0 := by omega
      go_wp2_with fail
      go_ret
      refine ⟨⟨x, rfl, hx0, hx1, ?_⟩, rfl⟩
      have e := hR.out
      rw [Int.pow_zero, Int.mul_one] at e
      exact e

/-- mark.Join at a length from 0 on. -/
theorem join_any (a b : Int) (n : Nat) (w : World) (hn : n ≤ 9223372036854775807) (ha0 : 0 ≤ a) (ha1 : a ≤ 4294967295) (hb0 : 0 ≤ b) (hb1 : b ≤ 4294967295) :
    Calls Try.prog 10 #[.int .u32 a, .int .u32 b, .int .i64 n] w fun e w' => (∃ v : Int, e = .returned (.tuple #[.int .u32 v, .int .i64 0]) ∧ 0 ≤ v ∧ v < 4294967291 ∧ R v (a * 65537 ^ n + b)) ∧ w = w' := by
  go_enter Try.func10, Try.ntmps10
  go_wp2_with fail
  refine (power_any n _ hn).mono ?_
  rintro e w' ⟨⟨v, rfl, hv0, hv1, hR⟩, rfl⟩
  have HR := Lib.hid hR
  clear hR
  have hx := sq_le (a := a % 4294967291) (b := v) (by omega) (by omega) hv0 hv1
  obtain ⟨hx0, hx1⟩ := hx
  go_wp2_with fail
  refine (mixed_any (a % 4294967291) v b _ hx0 hx1 hb0 hb1).mono ?_
  rintro e w' ⟨rfl, rfl⟩
  go_wp2_with fail
  go_ret2
  refine ⟨⟨(a % 4294967291 * v + b) % 4294967291, rfl, by omega, by omega, ?_⟩, rfl⟩
  exact (R.mod _).trans (((R.mod a).mul HR.out).add (R.refl b))
theorem join_neg (a b n : Int) (w : World) (hn : n < 0) :
    Calls Try.prog 10 #[.int .u32 a, .int .u32 b, .int .i64 n] w fun e w' => e = .returned (.tuple #[.int .u32 0, .int .i64 2]) ∧ w = w' := by
  go_enter Try.func10, Try.ntmps10
  go_wp2_with fail
  go_ret2
  exact ⟨rfl, rfl⟩

/-- The reference's Behind. -/
theorem behind_any (a b : Int) (n : Nat) (w : World) (hn : n ≤ 9223372036854775807) (ha0 : 0 ≤ a) (ha1 : a ≤ 4294967295) (hb0 : 0 ≤ b) (hb1 : b ≤ 4294967295) :
    Calls Try.prog 19 #[.int .u32 a, .int .u32 b, .int .i64 n] w fun e w' => (∃ v : Int, e = .returned (.int .u32 v) ∧ 0 ≤ v ∧ v < 4294967291 ∧ R v (a * 65537 ^ n + b)) ∧ w = w' := by
  go_enter Try.func19, Try.ntmps19
  go_wp2
  go_loop [2, 7, 8] (fun l o s => ∃ (k : Nat) (x y : Int), k ≤ 9223372036854775807 ∧ l = .int .i64 k ∧ o = .int .u64 x ∧ s = .int .u64 y ∧ 0 ≤ x ∧ x < 4294967291 ∧ 0 ≤ y ∧ y < 4294967291 ∧ Hid (R (x * y ^ k) (a * 65537 ^ n)))
    (fun l _ _ => (intOf l).toNat)
  case atStart => exact ⟨n, a % 4294967291, 65537, hn, rfl, rfl, rfl, by omega, by omega, by omega, by omega, (R.mod a).mul (R.refl _)⟩
  case round =>
    obtain ⟨k, x, y, hk, rfl, rfl, rfl, hx0, hx1, hy0, hy1, hR⟩ := hrel
    have hxy := sq_le hx0 hx1 hy0 hy1
    have hyy := sq_le hy0 hy1 hy0 hy1
    obtain ⟨hp, hb⟩ := hxy
    obtain ⟨hc, hd⟩ := hyy
    by_cases h0 : 0 < k
    · have hrd := round_R x y k
      have HB := Lib.hid hrd
      clear hrd
      rcases Nat.mod_two_eq_zero_or_one k with h2 | h2
      · have ht : (((k : Int) % 2) == 1) = false := by simp; omega
        have H2 := Lib.hid h2
        clear h2
        go_wp2_with fail
        go_round
        case rel =>
          refine ⟨k / 2, x, y * y % 4294967291, by omega, by go_num, rfl, by simp, hx0, hx1, by omega, by omega, ?_⟩
          have e := HB.out
          rw [if_neg (by rw [H2.out]; omega)] at e
          exact e.trans hR.out
        case measure => simp [intOf]; omega
      · have ht : (((k : Int) % 2) == 1) = true := by simp; omega
        have H2 := Lib.hid h2
        clear h2
        go_wp2_with fail
        go_round
        case rel =>
          refine ⟨k / 2, x * y % 4294967291, y * y % 4294967291, by omega, by go_num, by simp, by simp, by omega, by omega, by omega, by omega, ?_⟩
          have e := HB.out
          rw [if_pos H2.out] at e
          exact e.trans hR.out
        case measure => simp [intOf]; omega
    · obtain rfl : k = 0 := by omega
      go_wp2_with fail
      go_ret
      refine ⟨⟨(x + b) % 4294967291, rfl, by omega, by omega, ?_⟩, rfl⟩
      have e := hR.out
      rw [Int.pow_zero, Int.mul_one] at e
      exact (R.mod _).trans (e.add (R.refl b))
theorem refJoin_any (a b : Int) (n : Nat) (w : World) (hn : n ≤ 9223372036854775807) (ha0 : 0 ≤ a) (ha1 : a ≤ 4294967295) (hb0 : 0 ≤ b) (hb1 : b ≤ 4294967295) :
    Calls Try.prog 11 #[.int .u32 a, .int .u32 b, .int .i64 n] w fun e w' => (∃ v : Int, e = .returned (.tuple #[.int .u32 v, .int .i64 0]) ∧ 0 ≤ v ∧ v < 4294967291 ∧ R v (a * 65537 ^ n + b)) ∧ w = w' := by
  go_enter Try.func11, Try.ntmps11
  go_wp2_with fail
  refine (behind_any a b n _ hn ha0 ha1 hb0 hb1).mono ?_
  rintro e w' ⟨⟨v, rfl, hv0, hv1, hR⟩, rfl⟩
  have HR := Lib.hid hR
  clear hR
  go_wp2_with fail
  go_ret2
  exact ⟨⟨v, rfl, hv0, hv1, HR.out⟩, rfl⟩
theorem refJoin_neg (a b n : Int) (w : World) (hn : n < 0) :
    Calls Try.prog 11 #[.int .u32 a, .int .u32 b, .int .i64 n] w fun e w' => e = .returned (.tuple #[.int .u32 0, .int .i64 2]) ∧ w = w' := by
  go_enter Try.func11, Try.ntmps11
  go_wp2_with fail
  go_ret2
  exact ⟨rfl, rfl⟩
theorem R_eq {v u x : Int} (hv : 0 ≤ v ∧ v < 4294967291) (hu : 0 ≤ u ∧ u < 4294967291) (h1 : R v x) (h2 : R u x) : v = u := by
  have := h1.small hv.1 hv.2
  have := h2.small hu.1 hu.2
  omega
/-- The law MarkJoins. -/
theorem joins_walk (a b n : Int) (w : World) (ha0 : 0 ≤ a) (ha1 : a ≤ 4294967295) (hb0 : 0 ≤ b) (hb1 : b ≤ 4294967295) (hn : n ≤ 9223372036854775807) :
    Calls Try.prog 3 #[.int .u32 a, .int .u32 b, .int .i64 n] w fun e w' => e = .returned (.bool true) ∧ w = w' := by
  by_cases h : n < 0
  · go_enter Try.func3, Try.ntmps3
    go_wp2_with fail
    refine (join_neg a b n _ h).mono ?_
    rintro e w' ⟨rfl, rfl⟩
    go_wp2_with fail
    refine (refJoin_neg a b n _ h).mono ?_
    rintro e w' ⟨rfl, rfl⟩
    go_wp2_with fail
    go_ret
    exact ⟨rfl, rfl⟩
  · obtain ⟨k, rfl⟩ := Int.eq_ofNat_of_zero_le (show 0 ≤ n by omega)
    go_enter Try.func3, Try.ntmps3
    go_wp2_with fail
    refine (join_any a b k _ (by omega) ha0 ha1 hb0 hb1).mono ?_
    rintro e w' ⟨⟨v, rfl, hv0, hv1, hR⟩, rfl⟩
    have HR := Lib.hid hR
    clear hR
    go_wp2_with fail
    refine (refJoin_any a b k _ (by omega) ha0 ha1 hb0 hb1).mono ?_
    rintro e w' ⟨⟨u, rfl, hu0, hu1, hR2⟩, rfl⟩
    have huv : u = v := R_eq ⟨hu0, hu1⟩ ⟨hv0, hv1⟩ hR2 HR.out
    clear hR2 HR
    subst huv
    go_wp2_with fail
    go_ret
    exact ⟨by simp, rfl⟩
theorem u32_bounds {x : Int} (h : (Lit.int .u32 x).wf = true) : 0 ≤ x ∧ x ≤ 4294967295 := by simpa [Lit.wf, IntKind.min, IntKind.max, IntKind.signed, IntKind.bits] using h
theorem i64_bounds {x : Int} (h : (Lit.int .i64 x).wf = true) : -9223372036854775808 ≤ x ∧ x ≤ 9223372036854775807 := by simpa [Lit.wf, IntKind.min, IntKind.max, IntKind.signed, IntKind.bits] using h
theorem u16_bounds {x : Int} (h : (Lit.int .u16 x).wf = true) : 0 ≤ x ∧ x ≤ 65535 := by simpa [Lit.wf, IntKind.min, IntKind.max, IntKind.signed, IntKind.bits] using h
theorem u8_bounds {x : Int} (h : (Lit.int .u8 x).wf = true) : 0 ≤ x ∧ x ≤ 255 := by simpa [Lit.wf, IntKind.min, IntKind.max, IntKind.signed, IntKind.bits] using h
theorem joins (w : World) (a : Int) (wa : (Lit.int .u32 a).wf = true) (b : Int) (wb : (Lit.int .u32 b).wf = true) (n : Int) (wn : (Lit.int .i64 n).wf = true) :
    Calls Try.prog 3 #[.int .u32 a, .int .u32 b, .int .i64 n] w fun e w' => e = .returned (.bool true) ∧ Below w.heap.size w w' :=
  (joins_walk a b n w (u32_bounds wa).1 (u32_bounds wa).2 (u32_bounds wb).1 (u32_bounds wb).2 (i64_bounds wn).2).mono fun e w' h => ⟨h.1, h.2 ▸ Below.refl _ _⟩
end Go.Proofs.Ytgnaadaihncgeaa.MarkWalks
