/- Several texts joined: Plain arithmetic of a torus of midplanes: coordinates and numbers, steps round and round, how far two are apart. No program in sight. -/
import Derived.Below
import Derived.Test.YtfpljpdjohmbaaaGreatRows
import Derived.Test.YtfpljpdjohmbaaaGreatY1
import Derived.WalkKit
import Derived.WalkLawsBesides
import Derived.WalkSpells
import Derived.Outline
import Derived.IntWalk
import Derived.Lib.Hide
import Derived.BigQuiet
import Derived.Deep.QuietTactic
import Derived.Lib.QuietBelow
import Derived.Shelf.SlSortCmp.InsertionK
import Derived.RangeFuncNested
import Derived.Maps.RangeWalk
import Derived.RangeFuncLeaves
import Derived.Test.YtfpljpdjohmbaaaGreatY2
import Derived.Sort.LotA
import Derived.BigRegion
import Derived.Carry
import Derived.Laws.CopyOwn
import Derived.Laws.Tables
import Derived.Laws.Rows
/-! Plain arithmetic of a torus of midplanes: coordinates and numbers, steps round and round, how far two are apart. No program in sight. -/
namespace Go.Proofs.YtfpljpdjohmbaaaGreat.PosMath

/-- Dimensions may be. -/
def May (a b c : Int) : Prop := (1 ≤ a ∧ a ≤ 16) ∧ (1 ≤ b ∧ b ≤ 16) ∧ (1 ≤ c ∧ c ≤ 16)
instance (a b c : Int) : Decidable (May a b c) := by unfold May; infer_instance
def num (a b c : Int) : Int := a * b * c
/-- The midplane at coordinates. -/
def at_ (a b x y z : Int) : Int := x + a * y + a * b * z
def cx (a m : Int) : Int := m % a
def cy (a b m : Int) : Int := m / a % b
def cz (a b c m : Int) : Int := m / (a * b) % c

theorem cz_eq {a b c m : Int} (h : May a b c) (h0 : 0 ≤ m) (h1 : m < num a b c) : cz a b c m = m / a / b := by
  obtain ⟨⟨ha, _⟩, ⟨hb, _⟩, ⟨hc, _⟩⟩ := h
  unfold cz num at *
  have hab : 0 < a * b := Int.mul_pos (by omega) (by omega)
  have h2 : m / (a * b) < c := Int.ediv_lt_of_lt_mul hab (by rw [Int.mul_comm]; exact h1)
  have h3 : 0 ≤ m / (a * b) := Int.ediv_nonneg h0 (by omega)
  rw [Int.emod_eq_of_lt h3 h2, Int.ediv_ediv_of_nonneg (by omega)]

theorem cx_range {a m : Int} (ha : 1 ≤ a) : 0 ≤ cx a m ∧ cx a m < a := ⟨Int.emod_nonneg _ (by omega), Int.emod_lt_of_pos _ (by omega)⟩
theorem cy_range {a b m : Int} (hb : 1 ≤ b) : 0 ≤ cy a b m ∧ cy a b m < b := ⟨Int.emod_nonneg _ (by omega), Int.emod_lt_of_pos _ (by omega)⟩
theorem cz_range {a b c m : Int} (hc : 1 ≤ c) : 0 ≤ cz a b c m ∧ cz a b c m < c := ⟨Int.emod_nonneg _ (by omega), Int.emod_lt_of_pos _ (by omega)⟩

theorem at_of {a b c m : Int} (h : May a b c) (h0 : 0 ≤ m) (h1 : m < num a b c) : at_ a b (cx a m) (cy a b m) (cz a b c m) = m := by
  rw [cz_eq h h0 h1]
  unfold at_ cx cy
  have e1 := Int.emod_add_mul_ediv m a
  have e2 := Int.emod_add_mul_ediv (m / a) b
  rw [Int.mul_assoc, Int.add_assoc, ← Int.mul_add, e2, e1]

theorem at_range {a b c x y z : Int} (h : May a b c) (hx : 0 ≤ x ∧ x < a) (hy : 0 ≤ y ∧ y < b) (hz : 0 ≤ z ∧ z < c) : 0 ≤ at_ a b x y z ∧ at_ a b x y z < num a b c := by
  obtain ⟨⟨ha, _⟩, ⟨hb, _⟩, ⟨hc, _⟩⟩ := h
  unfold at_ num
  have h1 : 0 ≤ a * y := Int.mul_nonneg (by omega) (by omega)
  have h2 : 0 ≤ a * b * z := Int.mul_nonneg (Int.mul_nonneg (by omega) (by omega)) (by omega)
  have h3 : a * y ≤ a * (b - 1) := Int.mul_le_mul_of_nonneg_left (by omega) (by omega)
  have h4 : a * b * z ≤ a * b * (c - 1) := Int.mul_le_mul_of_nonneg_left (by omega) (Int.mul_nonneg (by omega) (by omega))
  rw [Int.mul_sub, Int.mul_one] at h3 h4
  omega

theorem cx_at {a b c x y z : Int} (_h : May a b c) (hx : 0 ≤ x ∧ x < a) : cx a (at_ a b x y z) = x := by
  unfold cx at_
  rw [Int.mul_assoc, Int.add_mul_emod_self_left, Int.add_mul_emod_self_left]
  exact Int.emod_eq_of_lt hx.1 hx.2
theorem at_div {a b x y z : Int} (hx : 0 ≤ x ∧ x < a) : at_ a b x y z / a = y + b * z := by
  unfold at_
  rw [Int.mul_assoc, Int.add_assoc, ← Int.mul_add, Int.add_mul_ediv_left _ _ (by omega), Int.ediv_eq_zero_of_lt hx.1 hx.2, Int.zero_add]
theorem cy_at {a b c x y z : Int} (_h : May a b c) (hx : 0 ≤ x ∧ x < a) (hy : 0 ≤ y ∧ y < b) : cy a b (at_ a b x y z) = y := by
  unfold cy
  rw [at_div hx, Int.add_mul_emod_self_left]
  exact Int.emod_eq_of_lt hy.1 hy.2
theorem cz_at {a b c x y z : Int} (h : May a b c) (hx : 0 ≤ x ∧ x < a) (hy : 0 ≤ y ∧ y < b) (hz : 0 ≤ z ∧ z < c) : cz a b c (at_ a b x y z) = z := by
  have hr := at_range h hx hy hz
  rw [cz_eq h hr.1 hr.2, at_div hx, Int.add_mul_ediv_left _ _ (by omega), Int.ediv_eq_zero_of_lt hy.1 hy.2, Int.zero_add]

/-- One coordinate, some steps on. -/
def stp (p n k : Int) : Int := (p + k) % n
theorem tmod_step {p n k : Int} : (p + k.tmod n + n) % n = stp p n k := by
  unfold stp
  have h1 : k = n * k.tdiv n + k.tmod n := (Int.mul_tdiv_add_tmod k n).symm
  conv => rhs; rw [h1]
  rw [show p + (n * k.tdiv n + k.tmod n) = p + k.tmod n + n * k.tdiv n from by omega, Int.add_mul_emod_self_left, Int.add_emod_right]
theorem tmod_range {n k : Int} (hn : 1 ≤ n) : -n < k.tmod n ∧ k.tmod n < n := by
  have h1 := Int.tmod_lt_of_pos k (show 0 < n by omega)
  have h2 := Int.tmod_lt_of_pos (-k) (show 0 < n by omega)
  rw [Int.neg_tmod] at h2
  omega
theorem stp_range {p n k : Int} (hn : 1 ≤ n) : 0 ≤ stp p n k ∧ stp p n k < n := ⟨Int.emod_nonneg _ (by omega), Int.emod_lt_of_pos _ (by omega)⟩
theorem stp_stp (p n j k : Int) : stp (stp p n j) n k = stp p n (j + k) := by
  unfold stp; rw [Int.emod_add_emod, Int.add_assoc]
theorem stp_zero {p n : Int} (hp : 0 ≤ p ∧ p < n) : stp p n 0 = p := by unfold stp; rw [Int.add_zero]; exact Int.emod_eq_of_lt hp.1 hp.2
theorem stp_home {p n k : Int} (hp : 0 ≤ p ∧ p < n) : stp (stp p n k) n (-k) = p := by rw [stp_stp, Int.add_right_neg, stp_zero hp]
theorem stp_round {p n : Int} (hp : 0 ≤ p ∧ p < n) : stp p n n = p := by unfold stp; rw [Int.add_emod_right]; exact Int.emod_eq_of_lt hp.1 hp.2

/-- How far two are apart along one axis. -/
def dist (p q n : Int) : Int := if n - (q - p + n) % n < (q - p + n) % n then n - (q - p + n) % n else (q - p + n) % n
theorem upto16 {n : Int} (h : 1 ≤ n ∧ n ≤ 16) : n = 1 ∨ n = 2 ∨ n = 3 ∨ n = 4 ∨ n = 5 ∨ n = 6 ∨ n = 7 ∨ n = 8 ∨ n = 9 ∨ n = 10 ∨ n = 11 ∨ n = 12 ∨ n = 13 ∨ n = 14 ∨ n = 15 ∨ n = 16 := by omega
/-- Of two numbers below n, what is left of their difference: two cases. -/
theorem diff_mod {p q n : Int} (hp : 0 ≤ p ∧ p < n) (hq : 0 ≤ q ∧ q < n) : (p ≤ q ∧ (q - p + n) % n = q - p) ∨ (q < p ∧ (q - p + n) % n = q - p + n) := by
  by_cases h : p ≤ q
  · refine .inl ⟨h, ?_⟩
    rw [Int.add_emod_right]; exact Int.emod_eq_of_lt (by omega) (by omega)
  · exact .inr ⟨by omega, Int.emod_eq_of_lt (by omega) (by omega)⟩
theorem dist_range {p q n : Int} (hp : 0 ≤ p ∧ p < n) (hq : 0 ≤ q ∧ q < n) : 0 ≤ dist p q n ∧ dist p q n ≤ n := by
  unfold dist
  rcases diff_mod hp hq with ⟨_, e⟩ | ⟨_, e⟩ <;> rw [e] <;> split <;> omega
theorem dist_comm {p q n : Int} (hp : 0 ≤ p ∧ p < n) (hq : 0 ≤ q ∧ q < n) : dist p q n = dist q p n := by
  unfold dist
  rcases diff_mod hp hq with ⟨_, e⟩ | ⟨_, e⟩ <;> rcases diff_mod hq hp with ⟨_, f⟩ | ⟨_, f⟩ <;> rw [e, f] <;> split <;> split <;> omega
theorem dist_zero {p q n : Int} (hp : 0 ≤ p ∧ p < n) (hq : 0 ≤ q ∧ q < n) : dist p q n = 0 ↔ p = q := by
  unfold dist
  rcases diff_mod hp hq with ⟨_, e⟩ | ⟨_, e⟩ <;> rw [e] <;> split <;> omega
theorem dist_tri {p q r n : Int} (hp : 0 ≤ p ∧ p < n) (hq : 0 ≤ q ∧ q < n) (hr : 0 ≤ r ∧ r < n) : dist p r n ≤ dist p q n + dist q r n := by
  unfold dist
  rcases diff_mod hp hq with ⟨_, e⟩ | ⟨_, e⟩ <;> rcases diff_mod hq hr with ⟨_, f⟩ | ⟨_, f⟩ <;> rcases diff_mod hp hr with ⟨_, g⟩ | ⟨_, g⟩ <;> rw [e, f, g] <;> split <;> split <;> split <;> omega
theorem dist_self {p n : Int} (hp : 0 ≤ p ∧ p < n) : dist p p n = 0 := (dist_zero hp hp).2 rfl
/-- One step on. -/
theorem dist_step {p n : Int} (hp : 0 ≤ p ∧ p < n) : dist p (stp p n 1) n = if 1 < n then 1 else 0 := by
  by_cases h : p + 1 < n
  · have e : stp p n 1 = p + 1 := Int.emod_eq_of_lt (by omega) h
    have hq : 0 ≤ p + 1 ∧ p + 1 < n := ⟨by omega, h⟩
    rw [e]; unfold dist
    rcases diff_mod hp hq with ⟨_, e⟩ | ⟨_, e⟩ <;> rw [e] <;> split <;> split <;> omega
  · have e : stp p n 1 = 0 := by unfold stp; rw [show p + 1 = n from by omega]; exact Int.emod_self
    have hq : 0 ≤ (0 : Int) ∧ 0 < n := ⟨by omega, by omega⟩
    rw [e]; unfold dist
    rcases diff_mod hp hq with ⟨_, e⟩ | ⟨_, e⟩ <;> rw [e] <;> split <;> split <;> omega
/-- Steps on and back lead there just from that distance on: the search's end. -/
theorem dist_least {p q n k : Int} (hp : 0 ≤ p ∧ p < n) (hq : 0 ≤ q ∧ q < n) (hk0 : 0 ≤ k) (hk : k < dist p q n) : stp p n k ≠ q ∧ stp p n (-k) ≠ q := by
  have hd := dist_range hp hq
  have h1 : (p + k < n ∧ stp p n k = p + k) ∨ (n ≤ p + k ∧ stp p n k = p + k - n) := by
    by_cases h : p + k < n
    · exact .inl ⟨h, Int.emod_eq_of_lt (by omega) h⟩
    · refine .inr ⟨by omega, ?_⟩
      unfold stp
      rw [show p + k = p + k - n + n from by omega, Int.add_emod_right, Int.add_sub_cancel]
      exact Int.emod_eq_of_lt (by omega) (by omega)
  have h2 : (0 ≤ p - k ∧ stp p n (-k) = p - k) ∨ (p - k < 0 ∧ stp p n (-k) = p - k + n) := by
    by_cases h : 0 ≤ p - k
    · exact .inl ⟨h, Int.emod_eq_of_lt (by omega) (by omega)⟩
    · refine .inr ⟨by omega, ?_⟩
      unfold stp
      rw [← Int.add_emod_right, show p + -k + n = p - k + n from by omega]
      exact Int.emod_eq_of_lt (by omega) (by omega)
  unfold dist at hk
  rcases diff_mod hp hq with ⟨_, e⟩ | ⟨_, e⟩ <;> rw [e] at hk <;> split at hk <;> rcases h1 with ⟨_, h1⟩ | ⟨_, h1⟩ <;> rcases h2 with ⟨_, h2⟩ | ⟨_, h2⟩ <;> rw [h1, h2] <;> omega
theorem dist_there {p q n : Int} (hq : 0 ≤ q ∧ q < n) : stp p n (dist p q n) = q ∨ stp p n (-(dist p q n)) = q := by
  have e1 : stp p n ((q - p + n) % n) = q := by
    unfold stp; rw [Int.add_emod_emod, show p + (q - p + n) = q + n from by omega, Int.add_emod_right]; exact Int.emod_eq_of_lt hq.1 hq.2
  have e2 : stp p n (-(n - (q - p + n) % n)) = q := by
    unfold stp
    rw [show p + -(n - (q - p + n) % n) = p + (q - p + n) % n - n from by omega, Int.sub_emod_right]
    exact e1
  unfold dist
  split
  · exact .inr e2
  · exact .inl e1
end Go.Proofs.YtfpljpdjohmbaaaGreat.PosMath
/-! The contracts of pos.Check and the reference's May: whether dimensions may be, for all numbers. -/
namespace Go.Proofs.YtfpljpdjohmbaaaGreat.PosCheck
open Go.RowKit Mem PosMath
set_option linter.unusedVariables false

set_option maxHeartbeats 1000000 in
theorem check_ok (a b c : Int) (h : May a b c) (w : World) :
    Calls Tryz.prog 38 #[.agg #[.int .i64 a, .int .i64 b, .int .i64 c]] w fun e w' => e = .returned (.int .i64 0) ∧ Below w.heap.size w w' := by
  have i0 : ∀ w, (Instr.index 23 (.agg #[.int .i64 a, .int .i64 b, .int .i64 c]) (.int .i64 0)).run Tryz.prog w = .ok (.int .i64 a) w := fun _ => by kernel_rfl
  have i1 : ∀ w, (Instr.index 23 (.agg #[.int .i64 a, .int .i64 b, .int .i64 c]) (.int .i64 1)).run Tryz.prog w = .ok (.int .i64 b) w := fun _ => by kernel_rfl
  have i2 : ∀ w, (Instr.index 23 (.agg #[.int .i64 a, .int .i64 b, .int .i64 c]) (.int .i64 2)).run Tryz.prog w = .ok (.int .i64 c) w := fun _ => by kernel_rfl
  have HH := Lib.hid h
  clear h
  go_enter Tryz.func38, Tryz.ntmps38
  go_wp2_with fail
  have hblk : Blk (w.alloc (.cells #[.int .i64 a, .int .i64 b, .int .i64 c] 23)) w.heap.size 23 #[.int .i64 a, .int .i64 b, .int .i64 c] := Blk.new _ _ _
  have hb3 : Below w.heap.size w (w.alloc (.cells #[.int .i64 a, .int .i64 b, .int .i64 c] 23)) := (Below.refl _ _).alloc (Nat.le_refl _) _
  have c0 := hblk.cell 0
  have c1 := hblk.cell 1
  have c2 := hblk.cell 2
  simp only [List.getElem?_toArray, List.getElem?_cons_zero, List.getElem?_cons_succ] at c0 c1 c2
  have HB3 := Lib.hid hb3
  clear hblk hb3
  generalize w.alloc (.cells #[.int .i64 a, .int .i64 b, .int .i64 c] 23) = w3 at *
  go_loop [6] (fun i => ∃ k : Nat, k ≤ 3 ∧ i = .int .i64 k ∧ Hid ((0 < k → 1 ≤ a ∧ a ≤ 16) ∧ (1 < k → 1 ≤ b ∧ b ≤ 16) ∧ (2 < k → 1 ≤ c ∧ c ≤ 16)))
    (fun i => 3 - (intOf i).toNat)
  case atStart => exact ⟨0, by omega, rfl, (fun h => by omega), (fun h => by omega), (fun h => by omega)⟩
  case round =>
    obtain ⟨k, hk, rfl, hp⟩ := hrel
    match k, hk with
    | 0, _ =>
      by_cases h1 : a < 1
      · exact absurd HH.out (by unfold May; omega)
      · by_cases h2 : 16 < a
        · exact absurd HH.out (by unfold May; omega)
        · go_wp2_with fail
          go_round
          case rel => exact ⟨1, by omega, rfl, (fun _ => by omega), (fun h => by omega), (fun h => by omega)⟩
          case measure => simp [intOf]
    | 1, _ =>
      by_cases h1 : b < 1
      · exact absurd HH.out (by unfold May; omega)
      · by_cases h2 : 16 < b
        · exact absurd HH.out (by unfold May; omega)
        · go_wp2_with fail
          go_round
          case rel => exact ⟨2, by omega, rfl, (fun _ => hp.out.1 (by omega)), (fun _ => by omega), (fun h => by omega)⟩
          case measure => simp [intOf]
    | 2, _ =>
      by_cases h1 : c < 1
      · exact absurd HH.out (by unfold May; omega)
      · by_cases h2 : 16 < c
        · exact absurd HH.out (by unfold May; omega)
        · go_wp2_with fail
          go_round
          case rel => exact ⟨3, by omega, rfl, (fun _ => hp.out.1 (by omega)), (fun _ => hp.out.2.1 (by omega)), (fun _ => by omega)⟩
          case measure => simp [intOf]
    | 3, _ =>
      go_wp2_with fail
      go_ret
      exact ⟨rfl, HB3.out⟩
set_option maxHeartbeats 1000000 in
theorem check_bad (a b c : Int) (h : ¬ May a b c) (w : World) :
    Calls Tryz.prog 38 #[.agg #[.int .i64 a, .int .i64 b, .int .i64 c]] w fun e w' => e = .returned (.int .i64 8) ∧ Below w.heap.size w w' := by
  have i0 : ∀ w, (Instr.index 23 (.agg #[.int .i64 a, .int .i64 b, .int .i64 c]) (.int .i64 0)).run Tryz.prog w = .ok (.int .i64 a) w := fun _ => by kernel_rfl
  have i1 : ∀ w, (Instr.index 23 (.agg #[.int .i64 a, .int .i64 b, .int .i64 c]) (.int .i64 1)).run Tryz.prog w = .ok (.int .i64 b) w := fun _ => by kernel_rfl
  have i2 : ∀ w, (Instr.index 23 (.agg #[.int .i64 a, .int .i64 b, .int .i64 c]) (.int .i64 2)).run Tryz.prog w = .ok (.int .i64 c) w := fun _ => by kernel_rfl
  have HH := Lib.hid h
  clear h
  go_enter Tryz.func38, Tryz.ntmps38
  go_wp2_with fail
  have hblk : Blk (w.alloc (.cells #[.int .i64 a, .int .i64 b, .int .i64 c] 23)) w.heap.size 23 #[.int .i64 a, .int .i64 b, .int .i64 c] := Blk.new _ _ _
  have hb3 : Below w.heap.size w (w.alloc (.cells #[.int .i64 a, .int .i64 b, .int .i64 c] 23)) := (Below.refl _ _).alloc (Nat.le_refl _) _
  have c0 := hblk.cell 0
  have c1 := hblk.cell 1
  have c2 := hblk.cell 2
  simp only [List.getElem?_toArray, List.getElem?_cons_zero, List.getElem?_cons_succ] at c0 c1 c2
  have HB3 := Lib.hid hb3
  clear hblk hb3
  generalize w.alloc (.cells #[.int .i64 a, .int .i64 b, .int .i64 c] 23) = w3 at *
  go_loop [6] (fun i => ∃ k : Nat, k ≤ 3 ∧ i = .int .i64 k ∧ Hid ((0 < k → 1 ≤ a ∧ a ≤ 16) ∧ (1 < k → 1 ≤ b ∧ b ≤ 16) ∧ (2 < k → 1 ≤ c ∧ c ≤ 16)))
    (fun i => 3 - (intOf i).toNat)
  case atStart => exact ⟨0, by omega, rfl, (fun h => by omega), (fun h => by omega), (fun h => by omega)⟩
  case round =>
    obtain ⟨k, hk, rfl, hp⟩ := hrel
    match k, hk with
    | 0, _ =>
      by_cases h1 : a < 1
      · go_wp2_with fail
        go_ret
        exact ⟨rfl, HB3.out⟩
      · by_cases h2 : 16 < a
        · go_wp2_with fail
          go_ret
          exact ⟨rfl, HB3.out⟩
        · go_wp2_with fail
          go_round
          case rel => exact ⟨1, by omega, rfl, (fun _ => by omega), (fun h => by omega), (fun h => by omega)⟩
          case measure => simp [intOf]
    | 1, _ =>
      by_cases h1 : b < 1
      · go_wp2_with fail
        go_ret
        exact ⟨rfl, HB3.out⟩
      · by_cases h2 : 16 < b
        · go_wp2_with fail
          go_ret
          exact ⟨rfl, HB3.out⟩
        · go_wp2_with fail
          go_round
          case rel => exact ⟨2, by omega, rfl, (fun _ => hp.out.1 (by omega)), (fun _ => by omega), (fun h => by omega)⟩
          case measure => simp [intOf]
    | 2, _ =>
      by_cases h1 : c < 1
      · go_wp2_with fail
        go_ret
        exact ⟨rfl, HB3.out⟩
      · by_cases h2 : 16 < c
        · go_wp2_with fail
          go_ret
          exact ⟨rfl, HB3.out⟩
        · go_wp2_with fail
          go_round
          case rel => exact ⟨3, by omega, rfl, (fun _ => hp.out.1 (by omega)), (fun _ => hp.out.2.1 (by omega)), (fun _ => by omega)⟩
          case measure => simp [intOf]
    | 3, _ =>
      exact absurd ⟨hp.out.1 (by omega), hp.out.2.1 (by omega), hp.out.2.2 (by omega)⟩ HH.out
set_option maxHeartbeats 1000000 in
theorem may_ok (a b c : Int) (h : May a b c) (w : World) :
    Calls Tryz.prog 70 #[.agg #[.int .i64 a, .int .i64 b, .int .i64 c]] w fun e w' => e = .returned (.bool true) ∧ Below w.heap.size w w' := by
  have HH := Lib.hid h
  clear h
  go_enter Tryz.func70, Tryz.ntmps70
  go_wp2_with fail
  have hblk : Blk (w.alloc (.cells #[.int .i64 a, .int .i64 b, .int .i64 c] 23)) w.heap.size 23 #[.int .i64 a, .int .i64 b, .int .i64 c] := Blk.new _ _ _
  have hb3 : Below w.heap.size w (w.alloc (.cells #[.int .i64 a, .int .i64 b, .int .i64 c] 23)) := (Below.refl _ _).alloc (Nat.le_refl _) _
  have c0 := hblk.cell 0
  have c1 := hblk.cell 1
  have c2 := hblk.cell 2
  simp only [List.getElem?_toArray, List.getElem?_cons_zero, List.getElem?_cons_succ] at c0 c1 c2
  have HB3 := Lib.hid hb3
  clear hblk hb3
  generalize w.alloc (.cells #[.int .i64 a, .int .i64 b, .int .i64 c] 23) = w3 at *
  go_loop [3] (fun i => ∃ k : Nat, k ≤ 3 ∧ i = .int .i64 k ∧ Hid ((0 < k → 1 ≤ a ∧ a ≤ 16) ∧ (1 < k → 1 ≤ b ∧ b ≤ 16) ∧ (2 < k → 1 ≤ c ∧ c ≤ 16)))
    (fun i => 3 - (intOf i).toNat)
  case atStart => exact ⟨0, by omega, rfl, (fun h => by omega), (fun h => by omega), (fun h => by omega)⟩
  case round =>
    obtain ⟨k, hk, rfl, hp⟩ := hrel
    match k, hk with
    | 0, _ =>
      by_cases h1 : a < 1
      · exact absurd HH.out (by unfold May; omega)
      · by_cases h2 : 16 < a
        · exact absurd HH.out (by unfold May; omega)
        · go_wp2_with fail
          go_round
          case rel => exact ⟨1, by omega, rfl, (fun _ => by omega), (fun h => by omega), (fun h => by omega)⟩
          case measure => simp [intOf]
    | 1, _ =>
      by_cases h1 : b < 1
      · exact absurd HH.out (by unfold May; omega)
      · by_cases h2 : 16 < b
        · exact absurd HH.out (by unfold May; omega)
        · go_wp2_with fail
          go_round
          case rel => exact ⟨2, by omega, rfl, (fun _ => hp.out.1 (by omega)), (fun _ => by omega), (fun h => by omega)⟩
          case measure => simp [intOf]
    | 2, _ =>
      by_cases h1 : c < 1
      · exact absurd HH.out (by unfold May; omega)
      · by_cases h2 : 16 < c
        · exact absurd HH.out (by unfold May; omega)
        · go_wp2_with fail
          go_round
          case rel => exact ⟨3, by omega, rfl, (fun _ => hp.out.1 (by omega)), (fun _ => hp.out.2.1 (by omega)), (fun _ => by omega)⟩
          case measure => simp [intOf]
    | 3, _ =>
      go_wp2_with fail
      go_ret
      exact ⟨rfl, HB3.out⟩
set_option maxHeartbeats 1000000 in
theorem may_bad (a b c : Int) (h : ¬ May a b c) (w : World) :
    Calls Tryz.prog 70 #[.agg #[.int .i64 a, .int .i64 b, .int .i64 c]] w fun e w' => e = .returned (.bool false) ∧ Below w.heap.size w w' := by
  have HH := Lib.hid h
  clear h
  go_enter Tryz.func70, Tryz.ntmps70
  go_wp2_with fail
  have hblk : Blk (w.alloc (.cells #[.int .i64 a, .int .i64 b, .int .i64 c] 23)) w.heap.size 23 #[.int .i64 a, .int .i64 b, .int .i64 c] := Blk.new _ _ _
  have hb3 : Below w.heap.size w (w.alloc (.cells #[.int .i64 a, .int .i64 b, .int .i64 c] 23)) := (Below.refl _ _).alloc (Nat.le_refl _) _
  have c0 := hblk.cell 0
  have c1 := hblk.cell 1
  have c2 := hblk.cell 2
  simp only [List.getElem?_toArray, List.getElem?_cons_zero, List.getElem?_cons_succ] at c0 c1 c2
  have HB3 := Lib.hid hb3
  clear hblk hb3
  generalize w.alloc (.cells #[.int .i64 a, .int .i64 b, .int .i64 c] 23) = w3 at *
  go_loop [3] (fun i => ∃ k : Nat, k ≤ 3 ∧ i = .int .i64 k ∧ Hid ((0 < k → 1 ≤ a ∧ a ≤ 16) ∧ (1 < k → 1 ≤ b ∧ b ≤ 16) ∧ (2 < k → 1 ≤ c ∧ c ≤ 16)))
    (fun i => 3 - (intOf i).toNat)
  case atStart => exact ⟨0, by omega, rfl, (fun h => by omega), (fun h => by omega), (fun h => by omega)⟩
  case round =>
    obtain ⟨k, hk, rfl, hp⟩ := hrel
    match k, hk with
    | 0, _ =>
      by_cases h1 : a < 1
      · go_wp2_with fail
        go_ret
        exact ⟨rfl, HB3.out⟩
      · by_cases h2 : 16 < a
        · go_wp2_with fail
          go_ret
          exact ⟨rfl, HB3.out⟩
        · go_wp2_with fail
          go_round
          case rel => exact ⟨1, by omega, rfl, (fun _ => by omega), (fun h => by omega), (fun h => by omega)⟩
          case measure => simp [intOf]
    | 1, _ =>
      by_cases h1 : b < 1
      · go_wp2_with fail
        go_ret
        exact ⟨rfl, HB3.out⟩
      · by_cases h2 : 16 < b
        · go_wp2_with fail
          go_ret
          exact ⟨rfl, HB3.out⟩
        · go_wp2_with fail
          go_round
          case rel => exact ⟨2, by omega, rfl, (fun _ => hp.out.1 (by omega)), (fun _ => by omega), (fun h => by omega)⟩
          case measure => simp [intOf]
    | 2, _ =>
      by_cases h1 : c < 1
      · go_wp2_with fail
        go_ret
        exact ⟨rfl, HB3.out⟩
      · by_cases h2 : 16 < c
        · go_wp2_with fail
          go_ret
          exact ⟨rfl, HB3.out⟩
        · go_wp2_with fail
          go_round
          case rel => exact ⟨3, by omega, rfl, (fun _ => hp.out.1 (by omega)), (fun _ => hp.out.2.1 (by omega)), (fun _ => by omega)⟩
          case measure => simp [intOf]
    | 3, _ =>
      exact absurd ⟨hp.out.1 (by omega), hp.out.2.1 (by omega), hp.out.2.2 (by omega)⟩ HH.out
end Go.Proofs.YtfpljpdjohmbaaaGreat.PosCheck
/-! The contracts of turn.Check, turn.compare, and of the reference's May: for all wants. -/
namespace Go.Proofs.YtfpljpdjohmbaaaGreat.TurnWalks
open Go.RowKit Go.Sort Go.Lib Mem TurnMath
set_option linter.unusedVariables false
set_option linter.unusedSimpArgs false

theorem stepD {W0 wr : World} (h : ∃ q, wr = W0.drewN q) (n : Nat) : ∃ q, wr.drewN n = W0.drewN q := by
  obtain ⟨q, rfl⟩ := h
  exact ⟨q + n, by rw [World.drewN_drewN]⟩
theorem finD {w W0 wr : World} (h : ∃ os, W0 = grow w os) (k : ∃ q, wr = W0.drewN q) : ∃ q os, wr = grow (w.drewN q) os := by
  obtain ⟨os, rfl⟩ := h
  obtain ⟨q, rfl⟩ := k
  exact ⟨q, os, rfl⟩
set_option maxHeartbeats 1000000 in
theorem wcheck_ok (a b c : Int) (p q r tn : Bool) (h : inD a ∧ inD b ∧ inD c) (w : World) :
    Calls Tryz.prog 42 #[.agg #[.int .i64 a, .int .i64 b, .int .i64 c, .bool p, .bool q, .bool r, .bool tn]] w fun e w' => e = .returned (.int .i64 0) ∧ Below w.heap.size w w' := by
  have i0 : ∀ w, (Instr.index 22 (.agg #[.int .i64 a, .int .i64 b, .int .i64 c]) (.int .i64 0)).run Tryz.prog w = .ok (.int .i64 a) w := fun _ => by kernel_rfl
  have i1 : ∀ w, (Instr.index 22 (.agg #[.int .i64 a, .int .i64 b, .int .i64 c]) (.int .i64 1)).run Tryz.prog w = .ok (.int .i64 b) w := fun _ => by kernel_rfl
  have i2 : ∀ w, (Instr.index 22 (.agg #[.int .i64 a, .int .i64 b, .int .i64 c]) (.int .i64 2)).run Tryz.prog w = .ok (.int .i64 c) w := fun _ => by kernel_rfl
  have HH := Lib.hid h
  clear h
  go_enter Tryz.func42, Tryz.ntmps42
  go_wp2_with fail
  have hblk : Blk (w.alloc (.cells #[.int .i64 a, .int .i64 b, .int .i64 c, .bool p, .bool q, .bool r, .bool tn] 30)) w.heap.size 30 #[.int .i64 a, .int .i64 b, .int .i64 c, .bool p, .bool q, .bool r, .bool tn] := Blk.new _ _ _
  have hb3 : Below w.heap.size w (w.alloc (.cells #[.int .i64 a, .int .i64 b, .int .i64 c, .bool p, .bool q, .bool r, .bool tn] 30)) := (Below.refl _ _).alloc (Nat.le_refl _) _
  have c0 := hblk.cell 0
  have c1 := hblk.cell 1
  have c2 := hblk.cell 2
  simp only [List.getElem?_toArray, List.getElem?_cons_zero, List.getElem?_cons_succ] at c0 c1 c2
  have HB3 := Lib.hid hb3
  clear hblk hb3
  generalize w.alloc (.cells #[.int .i64 a, .int .i64 b, .int .i64 c, .bool p, .bool q, .bool r, .bool tn] 30) = w3 at *
  go_loop [7] (fun i => ∃ k : Nat, k ≤ 3 ∧ i = .int .i64 k ∧ Hid ((0 < k → 1 ≤ a ∧ a ≤ 16) ∧ (1 < k → 1 ≤ b ∧ b ≤ 16) ∧ (2 < k → 1 ≤ c ∧ c ≤ 16)))
    (fun i => 3 - (intOf i).toNat)
  case atStart => exact ⟨0, by omega, rfl, (fun h => by omega), (fun h => by omega), (fun h => by omega)⟩
  case round =>
    obtain ⟨k, hk, rfl, hp⟩ := hrel
    match k, hk with
    | 0, _ =>
      by_cases h1 : a < 1
      · exact absurd HH.out (by unfold inD; omega)
      · by_cases h2 : 16 < a
        · exact absurd HH.out (by unfold inD; omega)
        · go_wp2_with fail
          go_round
          case rel => exact ⟨1, by omega, rfl, (fun _ => by omega), (fun h => by omega), (fun h => by omega)⟩
          case measure => simp [intOf]
    | 1, _ =>
      by_cases h1 : b < 1
      · exact absurd HH.out (by unfold inD; omega)
      · by_cases h2 : 16 < b
        · exact absurd HH.out (by unfold inD; omega)
        · go_wp2_with fail
          go_round
          case rel => exact ⟨2, by omega, rfl, (fun _ => hp.out.1 (by omega)), (fun _ => by omega), (fun h => by omega)⟩
          case measure => simp [intOf]
    | 2, _ =>
      by_cases h1 : c < 1
      · exact absurd HH.out (by unfold inD; omega)
      · by_cases h2 : 16 < c
        · exact absurd HH.out (by unfold inD; omega)
        · go_wp2_with fail
          go_round
          case rel => exact ⟨3, by omega, rfl, (fun _ => hp.out.1 (by omega)), (fun _ => hp.out.2.1 (by omega)), (fun _ => by omega)⟩
          case measure => simp [intOf]
    | 3, _ =>
      go_wp2_with fail
      go_ret
      exact ⟨rfl, HB3.out⟩
set_option maxHeartbeats 1000000 in
theorem wcheck_bad (a b c : Int) (p q r tn : Bool) (h : ¬ (inD a ∧ inD b ∧ inD c)) (w : World) :
    Calls Tryz.prog 42 #[.agg #[.int .i64 a, .int .i64 b, .int .i64 c, .bool p, .bool q, .bool r, .bool tn]] w fun e w' => e = .returned (.int .i64 8) ∧ Below w.heap.size w w' := by
  have i0 : ∀ w, (Instr.index 22 (.agg #[.int .i64 a, .int .i64 b, .int .i64 c]) (.int .i64 0)).run Tryz.prog w = .ok (.int .i64 a) w := fun _ => by kernel_rfl
  have i1 : ∀ w, (Instr.index 22 (.agg #[.int .i64 a, .int .i64 b, .int .i64 c]) (.int .i64 1)).run Tryz.prog w = .ok (.int .i64 b) w := fun _ => by kernel_rfl
  have i2 : ∀ w, (Instr.index 22 (.agg #[.int .i64 a, .int .i64 b, .int .i64 c]) (.int .i64 2)).run Tryz.prog w = .ok (.int .i64 c) w := fun _ => by kernel_rfl
  have HH := Lib.hid h
  clear h
  go_enter Tryz.func42, Tryz.ntmps42
  go_wp2_with fail
  have hblk : Blk (w.alloc (.cells #[.int .i64 a, .int .i64 b, .int .i64 c, .bool p, .bool q, .bool r, .bool tn] 30)) w.heap.size 30 #[.int .i64 a, .int .i64 b, .int .i64 c, .bool p, .bool q, .bool r, .bool tn] := Blk.new _ _ _
  have hb3 : Below w.heap.size w (w.alloc (.cells #[.int .i64 a, .int .i64 b, .int .i64 c, .bool p, .bool q, .bool r, .bool tn] 30)) := (Below.refl _ _).alloc (Nat.le_refl _) _
  have c0 := hblk.cell 0
  have c1 := hblk.cell 1
  have c2 := hblk.cell 2
  simp only [List.getElem?_toArray, List.getElem?_cons_zero, List.getElem?_cons_succ] at c0 c1 c2
  have HB3 := Lib.hid hb3
  clear hblk hb3
  generalize w.alloc (.cells #[.int .i64 a, .int .i64 b, .int .i64 c, .bool p, .bool q, .bool r, .bool tn] 30) = w3 at *
  go_loop [7] (fun i => ∃ k : Nat, k ≤ 3 ∧ i = .int .i64 k ∧ Hid ((0 < k → 1 ≤ a ∧ a ≤ 16) ∧ (1 < k → 1 ≤ b ∧ b ≤ 16) ∧ (2 < k → 1 ≤ c ∧ c ≤ 16)))
    (fun i => 3 - (intOf i).toNat)
  case atStart => exact ⟨0, by omega, rfl, (fun h => by omega), (fun h => by omega), (fun h => by omega)⟩
  case round =>
    obtain ⟨k, hk, rfl, hp⟩ := hrel
    match k, hk with
    | 0, _ =>
      by_cases h1 : a < 1
      · go_wp2_with fail
        go_ret
        exact ⟨rfl, HB3.out⟩
      · by_cases h2 : 16 < a
        · go_wp2_with fail
          go_ret
          exact ⟨rfl, HB3.out⟩
        · go_wp2_with fail
          go_round
          case rel => exact ⟨1, by omega, rfl, (fun _ => by omega), (fun h => by omega), (fun h => by omega)⟩
          case measure => simp [intOf]
    | 1, _ =>
      by_cases h1 : b < 1
      · go_wp2_with fail
        go_ret
        exact ⟨rfl, HB3.out⟩
      · by_cases h2 : 16 < b
        · go_wp2_with fail
          go_ret
          exact ⟨rfl, HB3.out⟩
        · go_wp2_with fail
          go_round
          case rel => exact ⟨2, by omega, rfl, (fun _ => hp.out.1 (by omega)), (fun _ => by omega), (fun h => by omega)⟩
          case measure => simp [intOf]
    | 2, _ =>
      by_cases h1 : c < 1
      · go_wp2_with fail
        go_ret
        exact ⟨rfl, HB3.out⟩
      · by_cases h2 : 16 < c
        · go_wp2_with fail
          go_ret
          exact ⟨rfl, HB3.out⟩
        · go_wp2_with fail
          go_round
          case rel => exact ⟨3, by omega, rfl, (fun _ => hp.out.1 (by omega)), (fun _ => hp.out.2.1 (by omega)), (fun _ => by omega)⟩
          case measure => simp [intOf]
    | 3, _ =>
      exact absurd ⟨hp.out.1 (by omega), hp.out.2.1 (by omega), hp.out.2.2 (by omega)⟩ HH.out
set_option maxHeartbeats 1000000 in
theorem wmay_ok (a b c : Int) (p q r tn : Bool) (h : inD a ∧ inD b ∧ inD c) (w : World) :
    Calls Tryz.prog 49 #[.agg #[.int .i64 a, .int .i64 b, .int .i64 c, .bool p, .bool q, .bool r, .bool tn]] w fun e w' => e = .returned (.bool true) ∧ Below w.heap.size w w' := by
  have HH := Lib.hid h
  clear h
  go_enter Tryz.func49, Tryz.ntmps49
  go_wp2_with fail
  have hblk : Blk (w.alloc (.cells #[.int .i64 a, .int .i64 b, .int .i64 c, .bool p, .bool q, .bool r, .bool tn] 30)) w.heap.size 30 #[.int .i64 a, .int .i64 b, .int .i64 c, .bool p, .bool q, .bool r, .bool tn] := Blk.new _ _ _
  have hb3 : Below w.heap.size w (w.alloc (.cells #[.int .i64 a, .int .i64 b, .int .i64 c, .bool p, .bool q, .bool r, .bool tn] 30)) := (Below.refl _ _).alloc (Nat.le_refl _) _
  have c0 := hblk.cell 0
  have c1 := hblk.cell 1
  have c2 := hblk.cell 2
  simp only [List.getElem?_toArray, List.getElem?_cons_zero, List.getElem?_cons_succ] at c0 c1 c2
  have HB3 := Lib.hid hb3
  clear hblk hb3
  generalize w.alloc (.cells #[.int .i64 a, .int .i64 b, .int .i64 c, .bool p, .bool q, .bool r, .bool tn] 30) = w3 at *
  go_loop [3] (fun i => ∃ k : Nat, k ≤ 3 ∧ i = .int .i64 k ∧ Hid ((0 < k → 1 ≤ a ∧ a ≤ 16) ∧ (1 < k → 1 ≤ b ∧ b ≤ 16) ∧ (2 < k → 1 ≤ c ∧ c ≤ 16)))
    (fun i => 3 - (intOf i).toNat)
  case atStart => exact ⟨0, by omega, rfl, (fun h => by omega), (fun h => by omega), (fun h => by omega)⟩
  case round =>
    obtain ⟨k, hk, rfl, hp⟩ := hrel
    match k, hk with
    | 0, _ =>
      by_cases h1 : a < 1
      · exact absurd HH.out (by unfold inD; omega)
      · by_cases h2 : 16 < a
        · exact absurd HH.out (by unfold inD; omega)
        · go_wp2_with fail
          go_round
          case rel => exact ⟨1, by omega, rfl, (fun _ => by omega), (fun h => by omega), (fun h => by omega)⟩
          case measure => simp [intOf]
    | 1, _ =>
      by_cases h1 : b < 1
      · exact absurd HH.out (by unfold inD; omega)
      · by_cases h2 : 16 < b
        · exact absurd HH.out (by unfold inD; omega)
        · go_wp2_with fail
          go_round
          case rel => exact ⟨2, by omega, rfl, (fun _ => hp.out.1 (by omega)), (fun _ => by omega), (fun h => by omega)⟩
          case measure => simp [intOf]
    | 2, _ =>
      by_cases h1 : c < 1
      · exact absurd HH.out (by unfold inD; omega)
      · by_cases h2 : 16 < c
        · exact absurd HH.out (by unfold inD; omega)
        · go_wp2_with fail
          go_round
          case rel => exact ⟨3, by omega, rfl, (fun _ => hp.out.1 (by omega)), (fun _ => hp.out.2.1 (by omega)), (fun _ => by omega)⟩
          case measure => simp [intOf]
    | 3, _ =>
      go_wp2_with fail
      go_ret
      exact ⟨rfl, HB3.out⟩
set_option maxHeartbeats 1000000 in
theorem wmay_bad (a b c : Int) (p q r tn : Bool) (h : ¬ (inD a ∧ inD b ∧ inD c)) (w : World) :
    Calls Tryz.prog 49 #[.agg #[.int .i64 a, .int .i64 b, .int .i64 c, .bool p, .bool q, .bool r, .bool tn]] w fun e w' => e = .returned (.bool false) ∧ Below w.heap.size w w' := by
  have HH := Lib.hid h
  clear h
  go_enter Tryz.func49, Tryz.ntmps49
  go_wp2_with fail
  have hblk : Blk (w.alloc (.cells #[.int .i64 a, .int .i64 b, .int .i64 c, .bool p, .bool q, .bool r, .bool tn] 30)) w.heap.size 30 #[.int .i64 a, .int .i64 b, .int .i64 c, .bool p, .bool q, .bool r, .bool tn] := Blk.new _ _ _
  have hb3 : Below w.heap.size w (w.alloc (.cells #[.int .i64 a, .int .i64 b, .int .i64 c, .bool p, .bool q, .bool r, .bool tn] 30)) := (Below.refl _ _).alloc (Nat.le_refl _) _
  have c0 := hblk.cell 0
  have c1 := hblk.cell 1
  have c2 := hblk.cell 2
  simp only [List.getElem?_toArray, List.getElem?_cons_zero, List.getElem?_cons_succ] at c0 c1 c2
  have HB3 := Lib.hid hb3
  clear hblk hb3
  generalize w.alloc (.cells #[.int .i64 a, .int .i64 b, .int .i64 c, .bool p, .bool q, .bool r, .bool tn] 30) = w3 at *
  go_loop [3] (fun i => ∃ k : Nat, k ≤ 3 ∧ i = .int .i64 k ∧ Hid ((0 < k → 1 ≤ a ∧ a ≤ 16) ∧ (1 < k → 1 ≤ b ∧ b ≤ 16) ∧ (2 < k → 1 ≤ c ∧ c ≤ 16)))
    (fun i => 3 - (intOf i).toNat)
  case atStart => exact ⟨0, by omega, rfl, (fun h => by omega), (fun h => by omega), (fun h => by omega)⟩
  case round =>
    obtain ⟨k, hk, rfl, hp⟩ := hrel
    match k, hk with
    | 0, _ =>
      by_cases h1 : a < 1
      · go_wp2_with fail
        go_ret
        exact ⟨rfl, HB3.out⟩
      · by_cases h2 : 16 < a
        · go_wp2_with fail
          go_ret
          exact ⟨rfl, HB3.out⟩
        · go_wp2_with fail
          go_round
          case rel => exact ⟨1, by omega, rfl, (fun _ => by omega), (fun h => by omega), (fun h => by omega)⟩
          case measure => simp [intOf]
    | 1, _ =>
      by_cases h1 : b < 1
      · go_wp2_with fail
        go_ret
        exact ⟨rfl, HB3.out⟩
      · by_cases h2 : 16 < b
        · go_wp2_with fail
          go_ret
          exact ⟨rfl, HB3.out⟩
        · go_wp2_with fail
          go_round
          case rel => exact ⟨2, by omega, rfl, (fun _ => hp.out.1 (by omega)), (fun _ => by omega), (fun h => by omega)⟩
          case measure => simp [intOf]
    | 2, _ =>
      by_cases h1 : c < 1
      · go_wp2_with fail
        go_ret
        exact ⟨rfl, HB3.out⟩
      · by_cases h2 : 16 < c
        · go_wp2_with fail
          go_ret
          exact ⟨rfl, HB3.out⟩
        · go_wp2_with fail
          go_round
          case rel => exact ⟨3, by omega, rfl, (fun _ => hp.out.1 (by omega)), (fun _ => hp.out.2.1 (by omega)), (fun _ => by omega)⟩
          case measure => simp [intOf]
    | 3, _ =>
      exact absurd ⟨hp.out.1 (by omega), hp.out.2.1 (by omega), hp.out.2.2 (by omega)⟩ HH.out
theorem bit_any (b : Bool) (w : World) : Calls Tryz.prog 91 #[.bool b] w fun e w' => e = .returned (.int .i64 (bitI b)) ∧ w' = w := by
  cases b
  · go_enter Tryz.func91, Tryz.ntmps91
    go_wp2_with fail
    go_ret
    exact ⟨rfl, rfl⟩
  · go_enter Tryz.func91, Tryz.ntmps91
    go_wp2_with fail
    go_ret
    exact ⟨rfl, rfl⟩
theorem nan_any (n : Int) (w : World) : Calls Tryz.prog 33 #[.int .i64 n] w fun e w' => e = .returned (.bool false) ∧ w' = w := by
  have hn : (n != n) = false := by simp
  go_enter Tryz.func33, Tryz.ntmps33
  go_wp2_with fail
  go_ret
  exact ⟨rfl, rfl⟩
theorem compare_any (x y : Int) (w : World) : Calls Tryz.prog 20 #[.int .i64 x, .int .i64 y] w fun e w' => e = .returned (.int .i64 (cmpI x y)) ∧ w' = w := by
  rcases cmpI_eq x y with ⟨h, e⟩ | ⟨h, e⟩ | ⟨h, e⟩ <;> rw [e]
  · have h2 : ¬ y < x := by omega
    go_enter Tryz.func20, Tryz.ntmps20
    go_wp2_with (first | (go_at_call 33; refine (nan_any _ _).mono ?_; rintro e w' ⟨rfl, rfl⟩))
    go_ret
    exact ⟨rfl, rfl⟩
  · subst h
    have h2 : ¬ x < x := by omega
    go_enter Tryz.func20, Tryz.ntmps20
    go_wp2_with (first | (go_at_call 33; refine (nan_any _ _).mono ?_; rintro e w' ⟨rfl, rfl⟩))
    go_ret
    exact ⟨rfl, rfl⟩
  · have h2 : ¬ x < y := by omega
    go_enter Tryz.func20, Tryz.ntmps20
    go_wp2_with (first | (go_at_call 33; refine (nan_any _ _).mono ?_; rintro e w' ⟨rfl, rfl⟩))
    go_ret
    exact ⟨rfl, rfl⟩
theorem compare_to (x y r : Int) (h : cmpI x y = r) (w : World) : Calls Tryz.prog 20 #[.int .i64 x, .int .i64 y] w fun e w' => e = .returned (.int .i64 r) ∧ w' = w := by
  subst h; exact compare_any x y w
set_option maxRecDepth 100000 in
set_option maxHeartbeats 4000000 in
theorem wcompare (a1 b1 c1 : Int) (p1 q1 r1 tn1 : Bool) (a2 b2 c2 : Int) (p2 q2 r2 tn2 : Bool) (z : Int) (hz : cmpW ⟨a1, b1, c1, p1, q1, r1, tn1⟩ ⟨a2, b2, c2, p2, q2, r2, tn2⟩ = z) (w : World) :
    Calls Tryz.prog 83 #[.agg #[.int .i64 a1, .int .i64 b1, .int .i64 c1, .bool p1, .bool q1, .bool r1, .bool tn1], .agg #[.int .i64 a2, .int .i64 b2, .int .i64 c2, .bool p2, .bool q2, .bool r2, .bool tn2]] w fun e w' => e = .returned (.int .i64 z) ∧ ∃ q os, w' = grow (w.drewN q) os := by
  have HZ := Lib.hid hz
  clear hz
  go_enter Tryz.func83, Tryz.ntmps83
  go_wp2_with fail
  have k1 : Blk ((w.alloc (.cells #[.int .i64 a1, .int .i64 b1, .int .i64 c1, .bool p1, .bool q1, .bool r1, .bool tn1] 30)).alloc (.cells #[.int .i64 a2, .int .i64 b2, .int .i64 c2, .bool p2, .bool q2, .bool r2, .bool tn2] 30)) w.heap.size 30 #[.int .i64 a1, .int .i64 b1, .int .i64 c1, .bool p1, .bool q1, .bool r1, .bool tn1] := (Blk.new w _ _).alloc _
  have k2 : Blk ((w.alloc (.cells #[.int .i64 a1, .int .i64 b1, .int .i64 c1, .bool p1, .bool q1, .bool r1, .bool tn1] 30)).alloc (.cells #[.int .i64 a2, .int .i64 b2, .int .i64 c2, .bool p2, .bool q2, .bool r2, .bool tn2] 30)) (w.heap.size + 1) 30 #[.int .i64 a2, .int .i64 b2, .int .i64 c2, .bool p2, .bool q2, .bool r2, .bool tn2] := blk1 w _ _
  have hb0 : ∃ os, ((w.alloc (.cells #[.int .i64 a1, .int .i64 b1, .int .i64 c1, .bool p1, .bool q1, .bool r1, .bool tn1] 30)).alloc (.cells #[.int .i64 a2, .int .i64 b2, .int .i64 c2, .bool p2, .bool q2, .bool r2, .bool tn2] 30)) = grow w os := ⟨_, by rw [alloc_eq_grow, alloc_eq_grow, grow_grow]⟩
  generalize hW0 : ((w.alloc (.cells #[.int .i64 a1, .int .i64 b1, .int .i64 c1, .bool p1, .bool q1, .bool r1, .bool tn1] 30)).alloc (.cells #[.int .i64 a2, .int .i64 b2, .int .i64 c2, .bool p2, .bool q2, .bool r2, .bool tn2] 30)) = W0 at *
  clear hW0
  have HB0 := Lib.hid hb0
  have K1 := Lib.hid k1
  have K2 := Lib.hid k2
  clear k1 k2 hb0
  go_loopw [9] (fun i wr => ∃ k : Nat, k ≤ 3 ∧ i = .int .i64 k ∧ Hid ((0 < k → cmpI a1 a2 = 0) ∧ (1 < k → cmpI b1 b2 = 0) ∧ (2 < k → cmpI c1 c2 = 0)) ∧ Hid (∃ q, wr = W0.drewN q) ∧ Hid (Blk wr w.heap.size 30 #[.int .i64 a1, .int .i64 b1, .int .i64 c1, .bool p1, .bool q1, .bool r1, .bool tn1]) ∧ Hid (Blk wr (w.heap.size + 1) 30 #[.int .i64 a2, .int .i64 b2, .int .i64 c2, .bool p2, .bool q2, .bool r2, .bool tn2]))
    (fun i _ => 3 - (intOf i).toNat)
  case atStart => exact ⟨0, by omega, rfl, ⟨(fun h => by omega), (fun h => by omega), (fun h => by omega)⟩, ⟨0, rfl⟩, K1.out, K2.out⟩
  case round =>
    obtain ⟨k, hk, rfl, hp, hB, h1, h2⟩ := hrel
    clear K1 K2
    have k1 := h1.out
    have k2 := h2.out
    have d0 : wr.cell? ⟨w.heap.size, 0, none⟩ = some (.int .i64 a1) := k1.cell 0
    have e0 : wr.cell? ⟨w.heap.size + 1, 0, none⟩ = some (.int .i64 a2) := k2.cell 0
    have d1 : wr.cell? ⟨w.heap.size, 1, none⟩ = some (.int .i64 b1) := k1.cell 1
    have e1 : wr.cell? ⟨w.heap.size + 1, 1, none⟩ = some (.int .i64 b2) := k2.cell 1
    have d2 : wr.cell? ⟨w.heap.size, 2, none⟩ = some (.int .i64 c1) := k1.cell 2
    have e2 : wr.cell? ⟨w.heap.size + 1, 2, none⟩ = some (.int .i64 c2) := k2.cell 2
    have d3 : wr.cell? ⟨w.heap.size, 3, none⟩ = some (.bool p1) := k1.cell 3
    have e3 : wr.cell? ⟨w.heap.size + 1, 3, none⟩ = some (.bool p2) := k2.cell 3
    have d4 : wr.cell? ⟨w.heap.size, 4, none⟩ = some (.bool q1) := k1.cell 4
    have e4 : wr.cell? ⟨w.heap.size + 1, 4, none⟩ = some (.bool q2) := k2.cell 4
    have d5 : wr.cell? ⟨w.heap.size, 5, none⟩ = some (.bool r1) := k1.cell 5
    have e5 : wr.cell? ⟨w.heap.size + 1, 5, none⟩ = some (.bool r2) := k2.cell 5
    clear k1 k2
    match k, hk with
    | 0, _ =>
      obtain ⟨v, hv⟩ : ∃ v, cmpI a1 a2 = v := ⟨_, rfl⟩
      have HV := Lib.hid hv
      clear hv
      by_cases hv0 : v = 0
      · have t0 : (v != 0) = false := by simpa using hv0
        go_wp2_with fail
        go_quiet (first | exact Calls.quiet_of_same (compare_to _ _ v HV.out _))
        go_wp2_with fail
        go_roundw
        case rel => exact ⟨1, by omega, rfl, ⟨(fun _ => by rw [HV.out]; exact hv0), (fun h => by omega), (fun h => by omega)⟩, (stepD hB.out _), h1.out.drewN _, h2.out.drewN _⟩
        case measure => simp [intOf]
      · have t0 : (v != 0) = true := by simpa using hv0
        go_wp2_with fail
        go_quiet (first | exact Calls.quiet_of_same (compare_to _ _ v HV.out _))
        go_wp2_with fail
        go_ret
        have ez : z = v := by
          rw [← HZ.out]
          unfold cmpW
          dsimp only
          skip
          rw [HV.out, if_pos hv0]
        rw [ez]
        exact ⟨rfl, finD HB0.out (stepD hB.out _)⟩
    | 1, _ =>
      obtain ⟨v, hv⟩ : ∃ v, cmpI b1 b2 = v := ⟨_, rfl⟩
      have HV := Lib.hid hv
      clear hv
      by_cases hv0 : v = 0
      · have t0 : (v != 0) = false := by simpa using hv0
        go_wp2_with fail
        go_quiet (first | exact Calls.quiet_of_same (compare_to _ _ v HV.out _))
        go_wp2_with fail
        go_roundw
        case rel => exact ⟨2, by omega, rfl, ⟨(fun _ => hp.out.1 (by omega)), (fun _ => by rw [HV.out]; exact hv0), (fun h => by omega)⟩, (stepD hB.out _), h1.out.drewN _, h2.out.drewN _⟩
        case measure => simp [intOf]
      · have t0 : (v != 0) = true := by simpa using hv0
        go_wp2_with fail
        go_quiet (first | exact Calls.quiet_of_same (compare_to _ _ v HV.out _))
        go_wp2_with fail
        go_ret
        have ez : z = v := by
          rw [← HZ.out]
          unfold cmpW
          dsimp only
          rw [if_neg (by simp [hp.out.1 (by omega)])]
          rw [HV.out, if_pos hv0]
        rw [ez]
        exact ⟨rfl, finD HB0.out (stepD hB.out _)⟩
    | 2, _ =>
      obtain ⟨v, hv⟩ : ∃ v, cmpI c1 c2 = v := ⟨_, rfl⟩
      have HV := Lib.hid hv
      clear hv
      by_cases hv0 : v = 0
      · have t0 : (v != 0) = false := by simpa using hv0
        go_wp2_with fail
        go_quiet (first | exact Calls.quiet_of_same (compare_to _ _ v HV.out _))
        go_wp2_with fail
        go_roundw
        case rel => exact ⟨3, by omega, rfl, ⟨(fun _ => hp.out.1 (by omega)), (fun _ => hp.out.2.1 (by omega)), (fun _ => by rw [HV.out]; exact hv0)⟩, (stepD hB.out _), h1.out.drewN _, h2.out.drewN _⟩
        case measure => simp [intOf]
      · have t0 : (v != 0) = true := by simpa using hv0
        go_wp2_with fail
        go_quiet (first | exact Calls.quiet_of_same (compare_to _ _ v HV.out _))
        go_wp2_with fail
        go_ret
        have ez : z = v := by
          rw [← HZ.out]
          unfold cmpW
          dsimp only
          rw [if_neg (by simp [hp.out.1 (by omega)])]
          rw [if_neg (by simp [hp.out.2.1 (by omega)])]
          rw [HV.out, if_pos hv0]
        rw [ez]
        exact ⟨rfl, finD HB0.out (stepD hB.out _)⟩
    | 3, _ =>
      go_wp2_with fail
      go_loopw [25] (fun i wi => ∃ k : Nat, k ≤ 3 ∧ i = .int .i64 k ∧ Hid ((0 < k → cmpI (bitI p1) (bitI p2) = 0) ∧ (1 < k → cmpI (bitI q1) (bitI q2) = 0) ∧ (2 < k → cmpI (bitI r1) (bitI r2) = 0)) ∧ Hid (∃ q, wi = W0.drewN q) ∧ Hid (Blk wi w.heap.size 30 #[.int .i64 a1, .int .i64 b1, .int .i64 c1, .bool p1, .bool q1, .bool r1, .bool tn1]) ∧ Hid (Blk wi (w.heap.size + 1) 30 #[.int .i64 a2, .int .i64 b2, .int .i64 c2, .bool p2, .bool q2, .bool r2, .bool tn2]))
        (fun i _ => 3 - (intOf i).toNat)
      case atStart => exact ⟨0, by omega, rfl, ⟨(fun h => by omega), (fun h => by omega), (fun h => by omega)⟩, hB.out, h1.out, h2.out⟩
      case round =>
        obtain ⟨k, hk, rfl, hq, hB, h1, h2⟩ := hrel
        clear d0 d1 d2 d3 d4 d5 e0 e1 e2 e3 e4 e5
        have k1 := h1.out
        have k2 := h2.out
        have d0 : wr.cell? ⟨w.heap.size, 0, none⟩ = some (.int .i64 a1) := k1.cell 0
        have e0 : wr.cell? ⟨w.heap.size + 1, 0, none⟩ = some (.int .i64 a2) := k2.cell 0
        have d1 : wr.cell? ⟨w.heap.size, 1, none⟩ = some (.int .i64 b1) := k1.cell 1
        have e1 : wr.cell? ⟨w.heap.size + 1, 1, none⟩ = some (.int .i64 b2) := k2.cell 1
        have d2 : wr.cell? ⟨w.heap.size, 2, none⟩ = some (.int .i64 c1) := k1.cell 2
        have e2 : wr.cell? ⟨w.heap.size + 1, 2, none⟩ = some (.int .i64 c2) := k2.cell 2
        have d3 : wr.cell? ⟨w.heap.size, 3, none⟩ = some (.bool p1) := k1.cell 3
        have e3 : wr.cell? ⟨w.heap.size + 1, 3, none⟩ = some (.bool p2) := k2.cell 3
        have d4 : wr.cell? ⟨w.heap.size, 4, none⟩ = some (.bool q1) := k1.cell 4
        have e4 : wr.cell? ⟨w.heap.size + 1, 4, none⟩ = some (.bool q2) := k2.cell 4
        have d5 : wr.cell? ⟨w.heap.size, 5, none⟩ = some (.bool r1) := k1.cell 5
        have e5 : wr.cell? ⟨w.heap.size + 1, 5, none⟩ = some (.bool r2) := k2.cell 5
        clear k1 k2
        match k, hk with
        | 0, _ =>
          obtain ⟨v, hv⟩ : ∃ v, cmpI (bitI p1) (bitI p2) = v := ⟨_, rfl⟩
          have HV := Lib.hid hv
          clear hv
          by_cases hv0 : v = 0
          · have t0 : (v != 0) = false := by simpa using hv0
            go_wp2_with fail
            go_quiet (first | exact Calls.quiet_of_same (bit_any _ _) | exact Calls.quiet_of_same (compare_to _ _ v HV.out _))
            go_wp2_with fail
            go_roundw
            case rel => exact ⟨1, by omega, rfl, ⟨(fun _ => by rw [HV.out]; exact hv0), (fun h => by omega), (fun h => by omega)⟩, (stepD hB.out _), h1.out.drewN _, h2.out.drewN _⟩
            case measure => simp [intOf]
          · have t0 : (v != 0) = true := by simpa using hv0
            go_wp2_with fail
            go_quiet (first | exact Calls.quiet_of_same (bit_any _ _) | exact Calls.quiet_of_same (compare_to _ _ v HV.out _))
            go_wp2_with fail
            go_ret
            have ez : z = v := by
              rw [← HZ.out]
              unfold cmpW
              dsimp only
              rw [if_neg (by simp [hp.out.1 (by omega)])]
              rw [if_neg (by simp [hp.out.2.1 (by omega)])]
              rw [if_neg (by simp [hp.out.2.2 (by omega)])]
              rw [HV.out, if_pos hv0]
            rw [ez]
            exact ⟨rfl, finD HB0.out (stepD hB.out _)⟩
        | 1, _ =>
          obtain ⟨v, hv⟩ : ∃ v, cmpI (bitI q1) (bitI q2) = v := ⟨_, rfl⟩
          have HV := Lib.hid hv
          clear hv
          by_cases hv0 : v = 0
          · have t0 : (v != 0) = false := by simpa using hv0
            go_wp2_with fail
            go_quiet (first | exact Calls.quiet_of_same (bit_any _ _) | exact Calls.quiet_of_same (compare_to _ _ v HV.out _))
            go_wp2_with fail
            go_roundw
            case rel => exact ⟨2, by omega, rfl, ⟨(fun _ => hq.out.1 (by omega)), (fun _ => by rw [HV.out]; exact hv0), (fun h => by omega)⟩, (stepD hB.out _), h1.out.drewN _, h2.out.drewN _⟩
            case measure => simp [intOf]
          · have t0 : (v != 0) = true := by simpa using hv0
            go_wp2_with fail
            go_quiet (first | exact Calls.quiet_of_same (bit_any _ _) | exact Calls.quiet_of_same (compare_to _ _ v HV.out _))
            go_wp2_with fail
            go_ret
            have ez : z = v := by
              rw [← HZ.out]
              unfold cmpW
              dsimp only
              rw [if_neg (by simp [hp.out.1 (by omega)])]
              rw [if_neg (by simp [hp.out.2.1 (by omega)])]
              rw [if_neg (by simp [hp.out.2.2 (by omega)])]
              rw [if_neg (by simp [hq.out.1 (by omega)])]
              rw [HV.out, if_pos hv0]
            rw [ez]
            exact ⟨rfl, finD HB0.out (stepD hB.out _)⟩
        | 2, _ =>
          obtain ⟨v, hv⟩ : ∃ v, cmpI (bitI r1) (bitI r2) = v := ⟨_, rfl⟩
          have HV := Lib.hid hv
          clear hv
          by_cases hv0 : v = 0
          · have t0 : (v != 0) = false := by simpa using hv0
            go_wp2_with fail
            go_quiet (first | exact Calls.quiet_of_same (bit_any _ _) | exact Calls.quiet_of_same (compare_to _ _ v HV.out _))
            go_wp2_with fail
            go_roundw
            case rel => exact ⟨3, by omega, rfl, ⟨(fun _ => hq.out.1 (by omega)), (fun _ => hq.out.2.1 (by omega)), (fun _ => by rw [HV.out]; exact hv0)⟩, (stepD hB.out _), h1.out.drewN _, h2.out.drewN _⟩
            case measure => simp [intOf]
          · have t0 : (v != 0) = true := by simpa using hv0
            go_wp2_with fail
            go_quiet (first | exact Calls.quiet_of_same (bit_any _ _) | exact Calls.quiet_of_same (compare_to _ _ v HV.out _))
            go_wp2_with fail
            go_ret
            have ez : z = v := by
              rw [← HZ.out]
              unfold cmpW
              dsimp only
              rw [if_neg (by simp [hp.out.1 (by omega)])]
              rw [if_neg (by simp [hp.out.2.1 (by omega)])]
              rw [if_neg (by simp [hp.out.2.2 (by omega)])]
              rw [if_neg (by simp [hq.out.1 (by omega)])]
              rw [if_neg (by simp [hq.out.2.1 (by omega)])]
              rw [HV.out]
            rw [ez]
            exact ⟨rfl, finD HB0.out (stepD hB.out _)⟩
        | 3, _ =>
          go_wp2_with fail
          go_ret
          have ez : z = 0 := by
            rw [← HZ.out]
            unfold cmpW
            dsimp only
            rw [if_neg (by simp [hp.out.1 (by omega)]), if_neg (by simp [hp.out.2.1 (by omega)]), if_neg (by simp [hp.out.2.2 (by omega)]), if_neg (by simp [hq.out.1 (by omega)]), if_neg (by simp [hq.out.2.1 (by omega)]), hq.out.2.2 (by omega)]
          rw [ez]
          exact ⟨rfl, finD HB0.out hB.out⟩
end Go.Proofs.YtfpljpdjohmbaaaGreat.TurnWalks
/-! slices.AppendSeq(nil, maps.Keys(m)), slices.Collect: a slice of the call's own that holds each key once, in some order. No conditions but those named. -/
namespace Go.Proofs.YtfpljpdjohmbaaaGreat.TurnAppend
open Go.RowKit Go.Shelf Mem SeqKit TurnMath TurnMap TurnKeys Go.ChangeMaps
attribute [local go_sem] Oper.semAt_some
set_option linter.unusedVariables false
set_option linter.unusedSimpArgs false

abbrev ST : TypeId := 101
abbrev zeroW : Value := .agg #[.int .i64 0, .int .i64 0, .int .i64 0, .bool false, .bool false, .bool false, .bool false]
theorem w_info : (Tryz.prog.info? WT).map (fun i => (i.zero, i.size, i.bytes)) = some (some zeroW, 7, 32) := by kernel_rfl
def cellsL (l : List WV) : List Value := l.flatMap WV.cells
theorem cellsL_snoc (l : List WV) (x : WV) : cellsL (l ++ [x]) = cellsL l ++ x.cells := by simp [cellsL]
theorem ne_ST : ST ≠ WT := by decide
theorem cell_one (W : World) (x : WV) : ∀ j u, x.cells[j]? = some u → (W.alloc (.cells x.arr WT)).cell? ((⟨W.heap.size, 0, none⟩ : Addr).add j) = some u := fun j u hu => by
  rw [add_flat, Nat.zero_add]
  rw [(Blk.new W WT x.arr).cell j]
  simpa [WV.arr, WV.cells] using hu
theorem one_cell (x : WV) : ∀ u ∈ x.cells, u.oneCell' = true := fun u hu => by
  simp only [WV.cells, List.mem_cons, List.not_mem_nil, or_false] at hu
  rcases hu with h | h | h | h | h | h | h <;> rw [h] <;> rfl

theorem keys_stops (F : Fence) (n : Nat) (hf : F.fn 90) (hro : F.round = none) (hn : 1 ≤ n) (Bm b : Nat) (ks : List WV) (w : World) (hBm : Bm < w.heap.size) (hm : w.cell? ⟨Bm, 0, none⟩ = some (.map (some b))) (hM : MapOf w b ks) :
    SeqStopsK F n Tryz.prog 90 #[.pointer (some ⟨Bm, 0, none⟩)] (fun x : WV => #[Value.agg x.arr]) KeepsWalks (fun ys => ys.Perm ks) (fun _ => True) ks.length w := fun l J Jx W hW hJ _ hY h0 =>
  keys1_in F n hf hro hn l Bm b ks J Jx hY W hJ ((hW.cell (p := ⟨Bm, 0, none⟩) hBm).trans hm) (hM.same (hW.block b hM.lt)) h0

set_option maxRecDepth 100000 in
set_option maxHeartbeats 4000000 in
theorem appendSeq_any (Bm b : Nat) (ks : List WV) (w : World) (hBm : Bm < w.heap.size) (hm : w.cell? ⟨Bm, 0, none⟩ = some (.map (some b))) (hM : MapOf w b ks) (h6 : ks.length ≤ 6) :
    Calls Tryz.prog 93 #[.slice none 0 0, .func (.func 90) #[] #[.pointer (some ⟨Bm, 0, none⟩)]] w fun e w' =>
      ∃ (v : Value) (ys : List WV), e = .returned v ∧ ys.Perm ks ∧ w'.ownsRow w.heap.size WT 7 v ys.length (cellsL ys) ∧ Below w.heap.size w w' := by
  refine (callsIn_wide (n := 5)).1 ?_
  refine callsIn_of_wp_marks Tryz.func93 rfl trivial ?_ rfl
  simp only [Tryz.ntmps93, List.size_toArray, List.length_cons, List.length_nil, Nat.reduceAdd, Nat.reduceSub, Array.replicate_succ, Array.replicate_zero, List.push_toArray, List.append_toArray, List.nil_append, List.cons_append]
  obtain ⟨i0, hi0, hz0, hz1, hz2⟩ := info_parts w_info
  have HM := Lib.hid (And.intro hm hM)
  have HI := Lib.hid (And.intro hi0 (And.intro hz0 (And.intro hz1 hz2)))
  clear hm hM hi0 hz0 hz1 hz2
  gi_wp2
  have bS := Boxed.new w ST (.slice none 0 0)
  have hB0 : Below w.heap.size w (w.alloc (.cells #[.slice none 0 0] ST)) := (Below.refl _ w).alloc (Nat.le_refl _) _
  have hM0 : MapOf (w.alloc (.cells #[.slice none 0 0] ST)) b ks := HM.out.2.same (hB0.block b HM.out.2.lt)
  have hm0 : (w.alloc (.cells #[.slice none 0 0] ST)).cell? ⟨Bm, 0, none⟩ = some (.map (some b)) := (hB0.cell (p := ⟨Bm, 0, none⟩) hBm).trans HM.out.1
  have hs0 : (w.alloc (.cells #[.slice none 0 0] ST)).heap.size = w.heap.size + 1 := by simp
  refine wpIn_rangeFunc_ownH rfl (by omega) (gf := 90) (lb := #[.pointer (some ⟨Bm, 0, none⟩)]) rfl trivial (enters_of Tryz.func90 (by kernel_rfl) rfl)
    (keys_stops Fence.wide 4 trivial rfl (by omega) Bm b ks _ (Nat.lt_of_lt_of_le hBm hB0.size) hm0 hM0) walksK_t walksK_b (Below.refl _ _) (fun _ => rfl)
    (fun pre W => (∃ v, Boxed W w.heap.size ST v ∧ W.ownsRow w.heap.size WT 7 v pre.length (cellsL pre) ∧ True) ∧ Below w.heap.size w W)
    (fun _ _ _ => False)
    (OwnFrom.and (Own.from (holdsRow_own w.heap.size w.heap.size ST WT 7 List.length cellsL (fun _ _ => True)) _) (ownFrom_below (Nat.le_refl _) hB0.size))
    (fun _ _ _ _ _ hs _ _ => hs)
    ⟨⟨_, bS, ⟨rfl, .inl ⟨rfl, rfl⟩⟩, trivial⟩, hB0⟩
    (fun x a' W => ∃ eb, w.heap.size < eb ∧ Blk W eb WT x.arr ∧ a' = { tmps := #[.slice none 0 0, .func (.func 90) #[] #[.pointer (some ⟨Bm, 0, none⟩)], .pointer (some ⟨w.heap.size, 0, none⟩), undef, .slice none 0 0, .pointer (some ⟨eb, 0, none⟩), .func (.func 90) #[] #[.pointer (some ⟨Bm, 0, none⟩)], .agg x.arr, undef, undef, undef, undef, undef], defers := [] })
    (fun x a' _ X Y row hs hg hr => by
      obtain ⟨eb, h1, h2, h3⟩ := hs
      refine ⟨eb, h1, h2.grown hg (fun e' => ?_), h3⟩
      obtain ⟨_, o, ho, hc⟩ := hr eb e'.symm
      rw [show X.heap[eb]? = _ from h2] at ho; cases ho; cases hc)
    ?assign ?body ?done ?stop
  case assign =>
    rintro l pre x W K ⟨⟨v, bS1, hrow, _⟩, hB1⟩ hK
    have HK := Lib.hid hK
    have H1 := Lib.hid (And.intro bS1 (And.intro hrow hB1))
    have hlt : w.heap.size < W.heap.size := bS1.lt
    clear hK bS1 hrow hB1
    unfold WV.arr
    gi_wp2
    exact HK.out _ _ ((KeepsOthers.alloc _ _).from _) (KeepsWalks.alloc _ _) ⟨⟨v, H1.out.1.alloc _, H1.out.2.1.alloc _, trivial⟩, H1.out.2.2.alloc H1.out.2.2.size _⟩ ⟨W.heap.size, hlt, Blk.new W WT _, rfl⟩
  case body =>
    rintro l pre x a' W hl ⟨r, hr⟩ ⟨⟨v, bS1, hrow, _⟩, hB1⟩ ⟨eb, heb, bX, rfl⟩ hlt
    have cB := bS1.cell
    have fB := bS1.frozen
    have x0 : W.cell? ⟨eb, 0, none⟩ = some (.int .i64 x.a) := bX.cell 0
    have x1 : W.cell? ⟨eb, 1, none⟩ = some (.int .i64 x.b) := bX.cell 1
    have x2 : W.cell? ⟨eb, 2, none⟩ = some (.int .i64 x.c) := bX.cell 2
    have x3 : W.cell? ⟨eb, 3, none⟩ = some (.bool x.p) := bX.cell 3
    have x4 : W.cell? ⟨eb, 4, none⟩ = some (.bool x.q) := bX.cell 4
    have x5 : W.cell? ⟨eb, 5, none⟩ = some (.bool x.r) := bX.cell 5
    have x6 : W.cell? ⟨eb, 6, none⟩ = some (.bool x.tn) := bX.cell 6
    have hsW := hB1.size
    have H1 := Lib.hid (And.intro bS1 (And.intro hrow hB1))
    clear bS1 hrow hB1 bX hr
    gi_wp2_with (first
      | (gi_at_builtin
         refine wpListIn_append_own _ rfl _ _ ST rfl w.heap.size WT i0 zeroW 7 32 Tryz.underlying101 HI.out.1 HI.out.2.1 HI.out.2.2.1 HI.out.2.2.2 rfl (by decide) _ _ _ rfl (H1.out.2.1.alloc _) ⟨W.heap.size, 0, none⟩ 1 1 x.cells rfl rfl (cell_one W x) (one_cell x) (by unfold maxLen; omega) (by omega) (by simp; omega) ?_
         intro v' w3 hown' hg3 _
         obtain ⟨g', cap', rfl⟩ := ownsRow_succ hown'
         obtain ⟨a1, a2, a3, a4, a5⟩ := H1.out.1.appended ne_ST H1.out.2.1 hsW (Nat.le_refl _) hown' hg3
         have ca := a1.cell
         have fa := a1.frozen
         have HA := Lib.hid (And.intro a2 (And.intro a3 (And.intro a4 a5)))
         clear a1 a2 a3 a4 a5 hown' hg3
         go_frame)
      | gi_in)
    refine ⟨HA.out.2.2.1.from _, HA.out.2.2.1.walks, ⟨⟨_, HA.out.1, ?_, trivial⟩, H1.out.2.2.trans HA.out.2.2.2⟩⟩
    rw [List.length_append, cellsL_snoc]
    exact HA.out.2.1
  case done =>
    rintro D ys W hD hS ⟨⟨v, bS1, hrow, _⟩, hB1⟩ hK
    have cB := bS1.cell
    have H1 := Lib.hid (And.intro hrow hB1)
    have HS := Lib.hid hS
    clear bS1 hrow hB1 hS
    gi_wp2
    refine ⟨by simp, .inl ⟨_, _, rfl, run_takeDeferred hK, ?_⟩⟩
    refine ⟨_, results_tmp rfl _ _ _, v, ys, rfl, HS.out, ownsRow_putObj H1.out.1 _ hK rfl, ?_⟩
    exact H1.out.2.trans (belowK_b (w := w) (Nat.le_refl _) W D _ _ (by simp at hD; omega) hK rfl rfl)
  case stop =>
    rintro D c pre W _ _ h _
    exact h.elim

theorem collect_any (Bm b : Nat) (ks : List WV) (w : World) (hBm : Bm < w.heap.size) (hm : w.cell? ⟨Bm, 0, none⟩ = some (.map (some b))) (hM : MapOf w b ks) (h6 : ks.length ≤ 6) :
    Calls Tryz.prog 88 #[.func (.func 90) #[] #[.pointer (some ⟨Bm, 0, none⟩)]] w fun e w' =>
      ∃ (v : Value) (ys : List WV), e = .returned v ∧ ys.Perm ks ∧ w'.ownsRow w.heap.size WT 7 v ys.length (cellsL ys) ∧ Below w.heap.size w w' := by
  have H := Lib.hid (appendSeq_any Bm b ks w hBm hm hM h6)
  clear hM hm
  go_enter Tryz.func88, Tryz.ntmps88
  go_wp2_with fail
  refine H.out.mono ?_
  rintro e w' ⟨v, ys, rfl, hp, hrow, hB⟩
  have HR := Lib.hid (And.intro hp (And.intro hrow hB))
  clear hp hrow hB
  go_wp2_with fail
  go_ret
  exact ⟨v, ys, rfl, HR.out⟩
end Go.Proofs.YtfpljpdjohmbaaaGreat.TurnAppend
/-! slices.SortFunc at wants, at most 6 of them: the slice holds them sorted. No conditions but those named. -/
namespace Go.Proofs.YtfpljpdjohmbaaaGreat.TurnSort
open Go.Shelf Mem TurnMath TurnWalks TurnMap TurnAppend
open Go.RowKit (Below)
open Go.Sort (Holds HoldsK putRowK flatK SWO SortedIn PermIn grow)
set_option linter.unusedVariables false
set_option linter.unusedSimpArgs false

abbrev INS := 96
abbrev CMP := 83
def rn : Ren := ⟨fun n => if n = 20 then INS else n, fun n => if n = 0 then 0 else if n = 3 then 3 else if n = 4 then 4 else if n = 22 then 101 else if n = 24 then 30 else if n = 25 then 122 else n, fun n => n⟩
theorem lay : SlLaysF0.n20 Tryz.prog rn := {
  mixed := by kernel_rfl
  f20 := ⟨Tryz.f96.name, by decide, Tryz.func96.trans (by kernel_rfl)⟩
  t0 := Tryz.underlying0
  a0 := fun w => by kernel_rfl
  z0 := fun w => by kernel_rfl
  v0 := fun w => by kernel_rfl
  t3 := Tryz.underlying3
  a3 := fun w => by kernel_rfl
  z3 := fun w => by kernel_rfl
  v3 := fun w => by kernel_rfl
  t4 := Tryz.underlying4
  a4 := fun w => by kernel_rfl
  z4 := fun w => by kernel_rfl
  v4 := fun w => by kernel_rfl
  t22 := Tryz.underlying101
  a22 := fun w => by kernel_rfl
  z22 := fun w => by kernel_rfl
  v22 := fun w => by kernel_rfl
  t25 := Tryz.underlying122
  a25 := fun w => by kernel_rfl
  z25 := fun w => by kernel_rfl
  v25 := fun w => by kernel_rfl }

abbrev OW := { x : WV // WOk x }
instance : Inhabited OW := ⟨⟨⟨1, 1, 1, false, false, false, false⟩, by unfold WOk inD; decide⟩⟩
def encW (x : OW) : List Value := x.1.cells
def cfW (x y : OW) : Int := cmpW x.1 y.1
theorem lt_num (x y : OW) : ltOf cfW x y = decide (numW x.1 < numW y.1) := by
  unfold ltOf cfW
  rw [cmpW_num x.2 y.2]
  rcases cmpI_eq (numW x.1) (numW y.1) with ⟨h, e⟩ | ⟨h, e⟩ | ⟨h, e⟩ <;> rw [e]
  · simp [h]
  · simp [h]
  · have : ¬ numW x.1 < numW y.1 := by omega
    simp [this]
theorem swo : SWO (ltOf cfW) := by
  refine ⟨fun x => ?_, fun x y z => ?_, fun x y z => ?_⟩
  · rw [lt_num]; simp
  · rw [lt_num, lt_num, lt_num]; simp; omega
  · rw [lt_num, lt_num, lt_num]; simp; omega
theorem cmp_lays (blk off size : Nat) (w : World) : CmpLays Tryz.prog CMP #[] encW 7 cfW blk off size w := fun m os dk _ x y => by
  obtain ⟨⟨a1, b1, c1, p1, q1, r1, n1⟩, hx⟩ := x
  obtain ⟨⟨a2, b2, c2, p2, q2, r2, n2⟩, hy⟩ := y
  exact wcompare a1 b1 c1 p1 q1 r1 n1 a2 b2 c2 p2 q2 r2 n2 _ rfl _

theorem sort_below {w : World} {B blk off n : Nat} {d : Array OW} {os : Array Obj} (h : B ≤ blk) (hw : B ≤ w.heap.size) : Below B w (sortWorldK encW 7 w blk off n d os) := by
  refine ⟨rfl, rfl, rfl, size_sortWorldK_c .., fun j hj => ?_⟩
  have hne : blk ≠ j := by omega
  have hjs : j < w.heap.size := by omega
  unfold sortWorldK putRowK Go.Sort.putRow
  simp [grow, Go.Sort.mapBlock, Go.Sort.ahead, Array.getElem?_append, hjs, Array.getElem?_modify, hne]
  rw [Array.getElem_modify, if_neg hne]

set_option maxHeartbeats 2000000 in
theorem insertion_any (blk off cap : Nat) (d : Array OW) (w : World) (hH : HoldsK encW 7 w blk off d) (hblk : blk < w.heap.size) (hsz : d.size ≤ 6) :
    Calls Tryz.prog INS #[.slice (some ⟨blk, off, none⟩) d.size cap, .int .i64 0, .int .i64 d.size, .func (.func CMP) #[] #[]] w fun e w' =>
      e = .returned (.tuple #[]) ∧ ∃ n os, w' = sortWorldK encW 7 w blk off n (Go.Sort.insertionSort (ltOf cfW) d 0 d.size) os :=
  AnyQ.insertionSortCmpFunc lay 7 (fun w => by kernel_rfl) (fun w => by kernel_rfl) encW (fun _ => rfl) (fun x v hv => one_cell x.1 v hv) cfW CMP #[] blk off cap 0 d.size d w
    (enters_of Tryz.func83 (by kernel_rfl) rfl) (cmp_lays blk off d.size w) hH hblk (Nat.zero_le _) (Nat.le_refl _) (by omega)

theorem len64_any (n : Nat) (h : n ≤ 6) (w : World) : Calls Tryz.prog 62 #[.int .u64 n] w fun e w' => (∃ l : Int, e = .returned (.int .i64 l)) ∧ w' = w := by
  have h7 : n = 0 ∨ n = 1 ∨ n = 2 ∨ n = 3 ∨ n = 4 ∨ n = 5 ∨ n = 6 := by omega
  rcases h7 with rfl | rfl | rfl | rfl | rfl | rfl | rfl
  all_goals
    go_enter Tryz.func62, Tryz.ntmps62
    go_wp2_with fail
    go_ret
    exact ⟨⟨_, rfl⟩, rfl⟩
theorem len_any (n : Nat) (h : n ≤ 6) (w : World) : Calls Tryz.prog 32 #[.int .u64 n] w fun e w' => (∃ l : Int, e = .returned (.int .i64 l)) ∧ w' = w := by
  have H := Lib.hid (len64_any n h w)
  go_enter Tryz.func32, Tryz.ntmps32
  go_wp2_with fail
  refine H.out.mono ?_
  rintro e w' ⟨⟨l, rfl⟩, rfl⟩
  go_wp2_with fail
  go_ret
  exact ⟨⟨_, rfl⟩, rfl⟩

set_option maxRecDepth 100000 in
set_option maxHeartbeats 2000000 in
theorem pdq_any (blk off cap : Nat) (d : Array OW) (lim : Int) (w : World) (hH : HoldsK encW 7 w blk off d) (hblk : blk < w.heap.size) (hsz : d.size ≤ 6) :
    Calls Tryz.prog 94 #[.slice (some ⟨blk, off, none⟩) d.size cap, .int .i64 0, .int .i64 d.size, .int .i64 lim, .func (.func CMP) #[] #[]] w fun e w' =>
      e = .returned (.tuple #[]) ∧ ∃ n os, w' = sortWorldK encW 7 w blk off n (Go.Sort.insertionSort (ltOf cfW) d 0 d.size) os := by
  have H := Lib.hid (insertion_any blk off cap d w hH hblk hsz)
  have h12 : (d.size : Int) ≤ 12 := by omega
  have hw : IntKind.i64.wrap (d.size : Int) = (d.size : Int) := IntWalk.i64_in _ (by omega)
  clear hH
  go_enter Tryz.func94, Tryz.ntmps94
  go_wp2_with fail
  refine wp_loop_rounds 1 ?_
  rw [rounds_succ]
  go_wp2_with fail
  refine H.out.mono ?_
  rintro e w' ⟨rfl, n, os, rfl⟩
  go_wp2_with fail
  refine bodyPost_ret (results_none rfl _ _ _) rfl ?_
  exact ⟨rfl, n, os, rfl⟩

set_option maxRecDepth 100000 in
theorem sortFunc_any (blk off cap : Nat) (d : Array OW) (w : World) (hH : HoldsK encW 7 w blk off d) (hblk : blk < w.heap.size) (hsz : d.size ≤ 6) :
    Calls Tryz.prog 89 #[.slice (some ⟨blk, off, none⟩) d.size cap, .func (.func CMP) #[] #[]] w fun e w' =>
      e = .returned (.tuple #[]) ∧ ∃ n os, w' = sortWorldK encW 7 w blk off n (Go.Sort.insertionSort (ltOf cfW) d 0 d.size) os := by
  have H := Lib.hid (fun lim => pdq_any blk off cap d lim w hH hblk hsz)
  have HL := Lib.hid (len_any d.size hsz w)
  have hw : IntKind.u64.wrap (d.size : Int) = (d.size : Int) := by rw [IntKind.wrap_u64]; omega
  clear hH
  go_enter Tryz.func89, Tryz.ntmps89
  go_wp2_with fail
  refine HL.out.mono ?_
  rintro e w' ⟨⟨l, rfl⟩, rfl⟩
  go_wp2_with fail
  refine (H.out l).mono ?_
  rintro e w' ⟨rfl, n, os, rfl⟩
  go_wp2_with fail
  go_end0
  exact ⟨rfl, n, os, rfl⟩
end Go.Proofs.YtfpljpdjohmbaaaGreat.TurnSort
/-! slices.SortedFunc(maps.Keys(m), compare): a slice of the call's own that rises, of the map's keys. No conditions but those named. -/
namespace Go.Proofs.YtfpljpdjohmbaaaGreat.TurnSorted
open Go.Shelf Mem TurnMath TurnWalks TurnMap TurnAppend TurnSort
open Go.RowKit (Below)
open Go.Sort (Holds HoldsK putRowK flatK SWO SortedIn PermIn grow insertionSort)
set_option linter.unusedVariables false
set_option linter.unusedSimpArgs false

/-- A slice of wants in memory of the call's own. -/
def WSl (w : World) (B : Nat) (v : Value) (l : List WV) : Prop :=
  ∃ g cap, v = .slice (some ⟨g, 0, none⟩) l.length cap ∧ B ≤ g ∧ l.length ≤ cap ∧ cap ≤ maxLen ∧ ∀ (i : Nat) (x : WV), l[i]? = some x → ∀ (j : Nat) (u : Value), x.cells[j]? = some u → w.cell? ⟨g, i * 7 + j, none⟩ = some u
theorem WSl.keep {w w' : World} {B : Nat} {v : Value} {l : List WV} (h : WSl w B v l) (hB : Below w.heap.size w w') : WSl w' B v l := by
  obtain ⟨g, cap, e, hb, hc, hm, hx⟩ := h
  exact ⟨g, cap, e, hb, hc, hm, fun i x hi j u hu => keep_cell (hx i x hi j u hu) hB⟩
theorem cells_len (x : WV) : x.cells.length = 7 := rfl
theorem cellsL_len : ∀ l : List WV, (cellsL l).length = l.length * 7
  | [] => rfl
  | x :: l => by
    have : cellsL (x :: l) = x.cells ++ cellsL l := by simp [cellsL]
    rw [this, List.length_append, cells_len, cellsL_len l, List.length_cons]; omega
theorem cellsL_get : ∀ (l : List WV) (i j : Nat) (x : WV), l[i]? = some x → j < 7 → (cellsL l)[i * 7 + j]? = x.cells[j]?
  | [], _, _, _, h, _ => by simp at h
  | y :: l, 0, j, x, h, hj => by
    simp at h
    subst h
    have : cellsL (y :: l) = y.cells ++ cellsL l := by simp [cellsL]
    rw [this, Nat.zero_mul, Nat.zero_add, List.getElem?_append_left (by rw [cells_len]; exact hj)]
  | y :: l, i + 1, j, x, h, hj => by
    have : cellsL (y :: l) = y.cells ++ cellsL l := by simp [cellsL]
    rw [this, List.getElem?_append_right (by rw [cells_len]; omega), cells_len, show (i + 1) * 7 + j - 7 = i * 7 + j by omega]
    exact cellsL_get l i j x (by simpa using h) hj
theorem lift : ∀ (l : List WV), (∀ x ∈ l, WOk x) → ∃ d : List OW, d.map (·.1) = l
  | [], _ => ⟨[], rfl⟩
  | x :: l, h => by
    obtain ⟨d, hd⟩ := lift l fun y hy => h y (List.mem_cons_of_mem _ hy)
    exact ⟨⟨x, h x (List.mem_cons_self ..)⟩ :: d, by simp [hd]⟩
theorem holds_of {w : World} {B : Nat} {v : Value} {ys : List WV} {d : Array OW} (h : w.ownsRow B WT 7 v ys.length (cellsL ys)) (hd : d.toList.map (·.1) = ys) (hne : ys ≠ []) :
    ∃ g cap, v = .slice (some ⟨g, 0, none⟩) ys.length cap ∧ B ≤ g ∧ g < w.heap.size ∧ ys.length ≤ cap ∧ cap ≤ maxLen ∧ HoldsK encW 7 w g 0 d := by
  have hn : 0 < ys.length := List.length_pos_iff.2 hne
  have hds : d.size = ys.length := by rw [← hd]; simp
  rcases h.2 with ⟨_, e⟩ | ⟨g, cap, cur, rfl, hb, hg, hc, hm, hs, ht⟩
  · omega
  · refine ⟨g, cap, rfl, hb, (Array.getElem?_eq_some_iff.1 hg).1, hc, hm, fun t htt => ?_⟩
    rw [Go.Sort.size_flatK, hds] at htt
    have hi : t / 7 < ys.length := by omega
    have hcell : cur[t]? = (ys[t / 7]).cells[t % 7]? := by
      have h1 := cellsL_get ys (t / 7) (t % 7) _ (List.getElem?_eq_getElem hi) (Nat.mod_lt _ (by omega))
      rw [show t / 7 * 7 + t % 7 = t by omega, ← ht, List.getElem?_take_of_lt htt] at h1
      rw [← h1]; simp
    have hget : (flatK encW 7 d)[t]! = (encW d[t / 7]!)[t % 7]! := Go.Sort.get_flatK _ _ _ _ (by rw [hds]; exact htt)
    have hdi : d[t / 7]!.1 = ys[t / 7] := by
      have : d[t / 7]! = d[t / 7] := getElem!_pos d _ (by omega)
      rw [this]
      simp only [← hd]
      simp
    constructor
    · simp only [World.cell?, hg, Nat.zero_add]
      rw [hget]
      unfold encW
      rw [hdi]
      have h7 : t % 7 < (ys[t / 7]).cells.length := by rw [cells_len]; omega
      rw [getElem!_pos (ys[t / 7]).cells (t % 7) h7]
      rw [List.getElem?_eq_getElem h7] at hcell
      simpa using hcell
    · simp [World.frozen?, hg]

theorem sorted_list {w w1 : World} {ks ys : List WV} {d : List OW} {D : Array OW} {g cap n : Nat} {os : Array Obj} (hnd : ks.Nodup) (hok : ∀ x ∈ ks, WOk x) (htn : ∀ x ∈ ks, ∀ y ∈ ks, x.tn = y.tn) (hp : ys.Perm ks) (hd : d.map (·.1) = ys) (hds : d.toArray.size = ys.length)
    (hPI : PermIn 0 ys.length d.toArray D) (hsorted : SortedIn (ltOf cfW) 0 ys.length D) (hB : Below w.heap.size w w1) (hg : w.heap.size ≤ g) (hglt : g < w1.heap.size) (hcap : ys.length ≤ cap) (hmax : cap ≤ maxLen) (hH : HoldsK encW 7 w1 g 0 d.toArray) :
    ∃ l : List WV, Rising l ∧ (∀ x, x ∈ l ↔ x ∈ ks) ∧ WSl (sortWorldK encW 7 w1 g 0 n D os) w.heap.size (.slice (some ⟨g, 0, none⟩) ys.length cap) l ∧ Below w.heap.size w (sortWorldK encW 7 w1 g 0 n D os) := by
  obtain ⟨hsz, _, hperm⟩ := hPI
  have hDs : D.size = ys.length := hsz.trans hds
  have hpD : D.toList.Perm d := by
    have e1 : D.extract 0 ys.length = D := by rw [← hDs]; simp
    have e2 : d.toArray.extract 0 ys.length = d.toArray := by rw [← hds]; simp
    rw [e1, e2] at hperm
    simpa using hperm
  have hpl : (D.toList.map (·.1)).Perm ks := ((hpD.map (·.1)).trans (by rw [hd])).trans hp
  have hll : (D.toList.map (·.1)).length = ys.length := by simp [hDs]
  refine ⟨D.toList.map (·.1), ?_, fun x => hpl.mem_iff, ?_, ?_⟩
  · refine rising_of (fun x hx => hok x (hpl.mem_iff.1 hx)) (fun x hx y hy => htn x (hpl.mem_iff.1 hx) y (hpl.mem_iff.1 hy)) (hpl.nodup_iff.2 hnd) ?_
    rw [List.pairwise_map, List.pairwise_iff_getElem]
    intro i j hi hj hij
    have := hsorted i j (Nat.zero_le _) hij (by simp at hj; omega)
    simp at hi hj
    rw [getElem!_pos D j hj, getElem!_pos D i hi] at this
    unfold ltOf cfW at this
    simpa using this
  · refine ⟨g, cap, by rw [hll], hg, by rw [hll]; exact hcap, hmax, fun i x hi j u hu => ?_⟩
    have hH2 := holdsK_sortWorldK_c encW 7 w1 g 0 d.toArray D n os hH hglt (by rw [hDs, hds])
    have hj : j < 7 := by
      have := (List.getElem?_eq_some_iff.1 hu).1
      rwa [cells_len] at this
    have hiD : i < D.size := by
      have := (List.getElem?_eq_some_iff.1 hi).1
      simpa using this
    have hc := (hH2.cell hiD hj).1
    rw [Nat.zero_add] at hc
    rw [hc]
    have e1 : D[i]!.1 = x := by
      rw [getElem!_pos D i hiD]
      simpa [hiD] using hi
    unfold encW
    rw [e1]
    have hjl : j < x.cells.length := by rw [cells_len]; exact hj
    rw [getElem!_pos x.cells j hjl]
    rw [List.getElem?_eq_getElem hjl] at hu
    exact hu
  · exact hB.trans (sort_below hg hB.size)
set_option maxHeartbeats 2000000 in
theorem sortedFunc_any (Bm b : Nat) (ks : List WV) (w : World) (hBm : Bm < w.heap.size) (hm : w.cell? ⟨Bm, 0, none⟩ = some (.map (some b))) (hM : MapOf w b ks) (h6 : ks.length ≤ 6) (hne : ks ≠ []) (htn : ∀ x ∈ ks, ∀ y ∈ ks, x.tn = y.tn) :
    Calls Tryz.prog 81 #[.func (.func 90) #[] #[.pointer (some ⟨Bm, 0, none⟩)], .func (.func CMP) #[] #[]] w fun e w' =>
      ∃ (v : Value) (l : List WV), e = .returned v ∧ Rising l ∧ (∀ x, x ∈ l ↔ x ∈ ks) ∧ WSl w' w.heap.size v l ∧ Below w.heap.size w w' := by
  have H := Lib.hid (collect_any Bm b ks w hBm hm hM h6)
  obtain ⟨es, clock, _, _, _, _, _, hnd, hok⟩ := hM
  have HK := Lib.hid (And.intro hnd hok)
  have HN := Lib.hid hne
  have HT := Lib.hid htn
  clear hnd hok hne htn hm
  go_enter Tryz.func81, Tryz.ntmps81
  go_wp2_with fail
  refine H.out.mono ?_
  rintro e w1 ⟨v, ys, rfl, hp, hrow, hB⟩
  have hyne : ys ≠ [] := fun e => HN.out (by rw [e] at hp; exact (List.nil_perm.1 hp))
  have hyl : ys.length = ks.length := hp.length_eq
  obtain ⟨d, hd⟩ := lift ys fun x hx => HK.out.2 x (hp.mem_iff.1 hx)
  obtain ⟨g, cap, rfl, hg, hglt, hcap, hmax, hH⟩ := holds_of (d := d.toArray) hrow (by simpa using hd) hyne
  have hds : d.toArray.size = ys.length := by rw [← hd]; simp
  have hs := sortFunc_any g 0 cap d.toArray w1 hH hglt (by omega)
  have hsort := Go.Sort.insertionSort_holds (lt := ltOf cfW) swo d.toArray 0 d.toArray.size (Nat.zero_le _) (Nat.le_refl _)
  generalize insertionSort (ltOf cfW) d.toArray 0 d.toArray.size = D at hs hsort
  rw [hds] at hs hsort
  have hl := fun n os => sorted_list (n := n) (os := os) HK.out.1 HK.out.2 HT.out hp hd hds hsort.1 hsort.2 hB hg hglt hcap hmax hH
  have HS := Lib.hid (And.intro hs hl)
  clear hs hsort hp hB hH hrow hl hd hds hcap hmax hyne hyl HK HT HN H
  generalize ys.length = yn at *
  go_wp2_with fail
  refine HS.out.1.mono ?_
  rintro e w' ⟨rfl, n, os, hw'⟩
  have HW := Lib.hid hw'
  clear hw'
  go_wp2_with fail
  go_ret
  obtain ⟨l, h1, h2, h3, h4⟩ := HS.out.2 n os
  rw [← HW.out] at h3 h4
  exact ⟨_, l, rfl, h1, h2, h3, h4⟩
end Go.Proofs.YtfpljpdjohmbaaaGreat.TurnSorted
/-! turn.All: the rotations of what is asked for, each once, rising: for all wants. -/
namespace Go.Proofs.YtfpljpdjohmbaaaGreat.TurnAll
open Go.RowKit Mem TurnMath TurnWalks TurnMap TurnSorted
set_option linter.unusedVariables false
set_option linter.unusedSimpArgs false

theorem wpList_build_to {P : Program} {ops : Array Oper} {rest : List Oper} {o : Oper} {a : Act} {w : World} {Q : Exit → Act → World → Prop} (hg : o.guard = none) (t : TypeId) (parts : Array (Nat × Operand)) (ho : o.op = .build t parts) (cs : Array Value)
    (hb : P.built t (parts.map fun (i, x) => (i, a.eval x)).toList = some cs) (h : wpList P ops Q rest (a.put o.dst (.agg cs)) w) : wpList P ops Q (o :: rest) a w :=
  wpList_build hg t parts ho (by rw [hb]; rfl) (by rw [hb]; exact h)
def zeroO : Array Value := #[.int .i64 0, .int .i64 0, .int .i64 0, .int .i64 0, .int .i64 0, .int .i64 0, .int .i64 0, .int .i64 0, .int .i64 0, .int .i64 0, .int .i64 0, .int .i64 0, .int .i64 0, .int .i64 0, .int .i64 0, .int .i64 0, .int .i64 0, .int .i64 0]
def ordO : Array Value := #[.int .i64 0, .int .i64 1, .int .i64 2, .int .i64 0, .int .i64 2, .int .i64 1, .int .i64 1, .int .i64 0, .int .i64 2, .int .i64 1, .int .i64 2, .int .i64 0, .int .i64 2, .int .i64 0, .int .i64 1, .int .i64 2, .int .i64 1, .int .i64 0]
set_option maxRecDepth 100000 in
set_option maxHeartbeats 4000000 in
theorem orders_any (w : World) : Calls Tryz.prog 80 #[] w fun e w' => e = .returned (.agg ordO) ∧ Below w.heap.size w w' := by
  have zv : ∀ w, (zeroValue 116).run Tryz.prog w = .ok (.agg zeroO) w := fun _ => by kernel_rfl
  have kb := Blk.new w 116 zeroO
  have KB := Lib.hid kb
  clear kb
  go_enter Tryz.func80, Tryz.ntmps80
  go_wp2_with (first | (refine wpList_build_to rfl 116 #[(0, .tmp 1), (1, .tmp 2), (2, .tmp 3), (3, .tmp 4), (4, .tmp 5), (5, .tmp 6)] rfl ordO (by kernel_rfl) ?_) | (refine wpList_store_row rfl 116 (.tmp 0) (.tmp 7) rfl w.heap.size ordO rfl rfl 116 zeroO KB.out (by kernel_rfl) (by kernel_rfl) (by kernel_rfl) ?_))
  exact bodyPost_ret (v := .agg ordO) (results_cell_row rfl _ _ w.heap.size 116 ordO (0, 0) _ rfl (setRow_heap (w.alloc (.cells zeroO 116)) w.heap.size zeroO ordO _ _ KB.out) Tryz.underlying116 rfl (by kernel_rfl)) rfl ⟨rfl, below_setRow (below_alloc (Below.refl _ _)) (Nat.le_refl _) _⟩
/-- What is answered: the rotations, or an error. -/
def AllRes (w w' : World) (x : WV) (v : Value) (e : Int) : Prop :=
  (WOk x ∧ e = 0 ∧ WSl w' w.heap.size v (allL x)) ∨ (¬ WOk x ∧ e = 8 ∧ v = .slice none 0 0)
theorem all_bad (a b c : Int) (p q r tn : Bool) (h : ¬ WOk ⟨a, b, c, p, q, r, tn⟩) (w : World) :
    Calls Tryz.prog 67 #[.agg #[.int .i64 a, .int .i64 b, .int .i64 c, .bool p, .bool q, .bool r, .bool tn]] w fun e w' => e = .returned (.tuple #[.slice none 0 0, .int .i64 8]) ∧ Below w.heap.size w w' := by
  have HH := Lib.hid h
  clear h
  go_enter Tryz.func67, Tryz.ntmps67
  go_wp2_with fail
  refine (wcheck_bad a b c p q r tn HH.out _).mono ?_
  rintro e w1 ⟨rfl, hB1⟩
  have HB1 := Lib.hid (below_up (below_alloc (Below.refl _ w)) hB1)
  clear hB1
  go_wp2_with fail
  go_ret2
  exact ⟨rfl, HB1.out⟩
theorem all_one (a b c : Int) (p q r : Bool) (h : WOk ⟨a, b, c, p, q, r, false⟩) (w : World) :
    Calls Tryz.prog 67 #[.agg #[.int .i64 a, .int .i64 b, .int .i64 c, .bool p, .bool q, .bool r, .bool false]] w fun e w' => ∃ v, e = .returned (.tuple #[v, .int .i64 0]) ∧ WSl w' w.heap.size v [⟨a, b, c, p, q, r, false⟩] ∧ Below w.heap.size w w' := by
  have HH := Lib.hid h
  clear h
  go_enter Tryz.func67, Tryz.ntmps67
  go_wp2_with fail
  refine (wcheck_ok a b c p q r false HH.out _).mono ?_
  rintro e w1 ⟨rfl, hB1⟩
  have kx : Blk w1 w.heap.size 30 #[.int .i64 a, .int .i64 b, .int .i64 c, .bool p, .bool q, .bool r, .bool false] := (Blk.new w _ _).below hB1 (by simp)
  have x0 : w1.cell? ⟨w.heap.size, 0, none⟩ = some (.int .i64 a) := kx.cell 0
  have x1 : w1.cell? ⟨w.heap.size, 1, none⟩ = some (.int .i64 b) := kx.cell 1
  have x2 : w1.cell? ⟨w.heap.size, 2, none⟩ = some (.int .i64 c) := kx.cell 2
  have x3 : w1.cell? ⟨w.heap.size, 3, none⟩ = some (.bool p) := kx.cell 3
  have x4 : w1.cell? ⟨w.heap.size, 4, none⟩ = some (.bool q) := kx.cell 4
  have x5 : w1.cell? ⟨w.heap.size, 5, none⟩ = some (.bool r) := kx.cell 5
  have x6 : w1.cell? ⟨w.heap.size, 6, none⟩ = some (.bool false) := kx.cell 6
  have HB1 := Lib.hid (below_up (below_alloc (Below.refl _ w)) hB1)
  clear hB1 kx
  go_wp2_with fail
  go_ret2
  refine ⟨_, rfl, ⟨w1.heap.size, 1, rfl, HB1.out.size, Nat.le_refl _, by decide, fun i x hi j u hu => ?_⟩, below_alloc HB1.out⟩
  match i, hi with
  | 0, hi =>
    simp at hi
    subst hi
    rw [Nat.zero_mul, Nat.zero_add, (Blk.new w1 _ _).cell j]
    simpa [WV.cells] using hu
  | i + 1, hi => simp at hi
def stepK (x : WV) : Nat → List WV
  | 0 => []
  | k + 1 => addK (stepK x k) (perm x k)
theorem stepK_mem {x y : WV} : ∀ k, y ∈ stepK x k ↔ ∃ i, i < k ∧ y = perm x i
  | 0 => by simp [stepK]
  | k + 1 => by
    unfold stepK addK
    split
    · rename_i h
      rw [stepK_mem k]
      constructor
      · rintro ⟨i, hi, e⟩; exact ⟨i, by omega, e⟩
      · rintro ⟨i, hi, e⟩
        by_cases hik : i = k
        · subst hik; rw [e]; exact (stepK_mem i).1 h
        · exact ⟨i, by omega, e⟩
    · rw [List.mem_append, List.mem_singleton, stepK_mem k]
      constructor
      · rintro (⟨i, hi, e⟩ | e)
        · exact ⟨i, by omega, e⟩
        · exact ⟨k, by omega, e⟩
      · rintro ⟨i, hi, e⟩
        by_cases hik : i = k
        · subst hik; exact .inr e
        · exact .inl ⟨i, by omega, e⟩
theorem stepK_len (x : WV) : ∀ k, (stepK x k).length ≤ k
  | 0 => by simp [stepK]
  | k + 1 => by
    have := stepK_len x k
    unfold stepK addK
    split
    · omega
    · rw [List.length_append, List.length_singleton]; omega
theorem stepK_six (x y : WV) : y ∈ stepK x 6 ↔ y ∈ rots x := by
  rw [stepK_mem, mem_rots]
  constructor
  · rintro ⟨i, hi, e⟩; exact ⟨i, by omega, e⟩
  · rintro ⟨i, hi, e⟩; exact ⟨i, by omega, e⟩
def innerC (a b c : Int) (p q r : Bool) (k m : Nat) : Array Value := match k, m with
  | 0, 0 => #[.int .i64 a, .int .i64 b, .int .i64 c, .bool p, .bool q, .bool r, .bool true]
  | 0, 1 => #[.int .i64 a, .int .i64 b, .int .i64 c, .bool p, .bool q, .bool r, .bool true]
  | 0, 2 => #[.int .i64 a, .int .i64 b, .int .i64 c, .bool p, .bool q, .bool r, .bool true]
  | 0, 3 => #[.int .i64 a, .int .i64 b, .int .i64 c, .bool p, .bool q, .bool r, .bool true]
  | 1, 0 => #[.int .i64 a, .int .i64 b, .int .i64 c, .bool p, .bool q, .bool r, .bool true]
  | 1, 1 => #[.int .i64 a, .int .i64 b, .int .i64 c, .bool p, .bool q, .bool r, .bool true]
  | 1, 2 => #[.int .i64 a, .int .i64 c, .int .i64 c, .bool p, .bool r, .bool r, .bool true]
  | 1, 3 => #[.int .i64 a, .int .i64 c, .int .i64 b, .bool p, .bool r, .bool q, .bool true]
  | 2, 0 => #[.int .i64 a, .int .i64 b, .int .i64 c, .bool p, .bool q, .bool r, .bool true]
  | 2, 1 => #[.int .i64 b, .int .i64 b, .int .i64 c, .bool q, .bool q, .bool r, .bool true]
  | 2, 2 => #[.int .i64 b, .int .i64 a, .int .i64 c, .bool q, .bool p, .bool r, .bool true]
  | 2, 3 => #[.int .i64 b, .int .i64 a, .int .i64 c, .bool q, .bool p, .bool r, .bool true]
  | 3, 0 => #[.int .i64 a, .int .i64 b, .int .i64 c, .bool p, .bool q, .bool r, .bool true]
  | 3, 1 => #[.int .i64 b, .int .i64 b, .int .i64 c, .bool q, .bool q, .bool r, .bool true]
  | 3, 2 => #[.int .i64 b, .int .i64 c, .int .i64 c, .bool q, .bool r, .bool r, .bool true]
  | 3, 3 => #[.int .i64 b, .int .i64 c, .int .i64 a, .bool q, .bool r, .bool p, .bool true]
  | 4, 0 => #[.int .i64 a, .int .i64 b, .int .i64 c, .bool p, .bool q, .bool r, .bool true]
  | 4, 1 => #[.int .i64 c, .int .i64 b, .int .i64 c, .bool r, .bool q, .bool r, .bool true]
  | 4, 2 => #[.int .i64 c, .int .i64 a, .int .i64 c, .bool r, .bool p, .bool r, .bool true]
  | 4, 3 => #[.int .i64 c, .int .i64 a, .int .i64 b, .bool r, .bool p, .bool q, .bool true]
  | 5, 0 => #[.int .i64 a, .int .i64 b, .int .i64 c, .bool p, .bool q, .bool r, .bool true]
  | 5, 1 => #[.int .i64 c, .int .i64 b, .int .i64 c, .bool r, .bool q, .bool r, .bool true]
  | 5, 2 => #[.int .i64 c, .int .i64 b, .int .i64 c, .bool r, .bool q, .bool r, .bool true]
  | 5, 3 => #[.int .i64 c, .int .i64 b, .int .i64 a, .bool r, .bool q, .bool p, .bool true]
  | _, _ => #[]
set_option maxRecDepth 100000 in
set_option maxHeartbeats 16000000 in
theorem all_six (a b c : Int) (p q r : Bool) (h : WOk ⟨a, b, c, p, q, r, true⟩) (w : World) :
    Calls Tryz.prog 67 #[.agg #[.int .i64 a, .int .i64 b, .int .i64 c, .bool p, .bool q, .bool r, .bool true]] w fun e w' => ∃ v, e = .returned (.tuple #[v, .int .i64 0]) ∧ WSl w' w.heap.size v (allL ⟨a, b, c, p, q, r, true⟩) ∧ Below w.heap.size w w' := by
  have HH := Lib.hid h
  clear h
  have ix0 : ∀ w, (Instr.index 116 (.agg ordO) (.int .i64 0)).run Tryz.prog w = .ok (.agg #[.int .i64 0, .int .i64 1, .int .i64 2]) w := fun _ => by kernel_rfl
  have iy0_0 : ∀ w, (Instr.index 22 (.agg #[.int .i64 0, .int .i64 1, .int .i64 2]) (.int .i64 0)).run Tryz.prog w = .ok (.int .i64 0) w := fun _ => by kernel_rfl
  have iy0_1 : ∀ w, (Instr.index 22 (.agg #[.int .i64 0, .int .i64 1, .int .i64 2]) (.int .i64 1)).run Tryz.prog w = .ok (.int .i64 1) w := fun _ => by kernel_rfl
  have iy0_2 : ∀ w, (Instr.index 22 (.agg #[.int .i64 0, .int .i64 1, .int .i64 2]) (.int .i64 2)).run Tryz.prog w = .ok (.int .i64 2) w := fun _ => by kernel_rfl
  have ix1 : ∀ w, (Instr.index 116 (.agg ordO) (.int .i64 1)).run Tryz.prog w = .ok (.agg #[.int .i64 0, .int .i64 2, .int .i64 1]) w := fun _ => by kernel_rfl
  have iy1_0 : ∀ w, (Instr.index 22 (.agg #[.int .i64 0, .int .i64 2, .int .i64 1]) (.int .i64 0)).run Tryz.prog w = .ok (.int .i64 0) w := fun _ => by kernel_rfl
  have iy1_1 : ∀ w, (Instr.index 22 (.agg #[.int .i64 0, .int .i64 2, .int .i64 1]) (.int .i64 1)).run Tryz.prog w = .ok (.int .i64 2) w := fun _ => by kernel_rfl
  have iy1_2 : ∀ w, (Instr.index 22 (.agg #[.int .i64 0, .int .i64 2, .int .i64 1]) (.int .i64 2)).run Tryz.prog w = .ok (.int .i64 1) w := fun _ => by kernel_rfl
  have ix2 : ∀ w, (Instr.index 116 (.agg ordO) (.int .i64 2)).run Tryz.prog w = .ok (.agg #[.int .i64 1, .int .i64 0, .int .i64 2]) w := fun _ => by kernel_rfl
  have iy2_0 : ∀ w, (Instr.index 22 (.agg #[.int .i64 1, .int .i64 0, .int .i64 2]) (.int .i64 0)).run Tryz.prog w = .ok (.int .i64 1) w := fun _ => by kernel_rfl
  have iy2_1 : ∀ w, (Instr.index 22 (.agg #[.int .i64 1, .int .i64 0, .int .i64 2]) (.int .i64 1)).run Tryz.prog w = .ok (.int .i64 0) w := fun _ => by kernel_rfl
  have iy2_2 : ∀ w, (Instr.index 22 (.agg #[.int .i64 1, .int .i64 0, .int .i64 2]) (.int .i64 2)).run Tryz.prog w = .ok (.int .i64 2) w := fun _ => by kernel_rfl
  have ix3 : ∀ w, (Instr.index 116 (.agg ordO) (.int .i64 3)).run Tryz.prog w = .ok (.agg #[.int .i64 1, .int .i64 2, .int .i64 0]) w := fun _ => by kernel_rfl
  have iy3_0 : ∀ w, (Instr.index 22 (.agg #[.int .i64 1, .int .i64 2, .int .i64 0]) (.int .i64 0)).run Tryz.prog w = .ok (.int .i64 1) w := fun _ => by kernel_rfl
  have iy3_1 : ∀ w, (Instr.index 22 (.agg #[.int .i64 1, .int .i64 2, .int .i64 0]) (.int .i64 1)).run Tryz.prog w = .ok (.int .i64 2) w := fun _ => by kernel_rfl
  have iy3_2 : ∀ w, (Instr.index 22 (.agg #[.int .i64 1, .int .i64 2, .int .i64 0]) (.int .i64 2)).run Tryz.prog w = .ok (.int .i64 0) w := fun _ => by kernel_rfl
  have ix4 : ∀ w, (Instr.index 116 (.agg ordO) (.int .i64 4)).run Tryz.prog w = .ok (.agg #[.int .i64 2, .int .i64 0, .int .i64 1]) w := fun _ => by kernel_rfl
  have iy4_0 : ∀ w, (Instr.index 22 (.agg #[.int .i64 2, .int .i64 0, .int .i64 1]) (.int .i64 0)).run Tryz.prog w = .ok (.int .i64 2) w := fun _ => by kernel_rfl
  have iy4_1 : ∀ w, (Instr.index 22 (.agg #[.int .i64 2, .int .i64 0, .int .i64 1]) (.int .i64 1)).run Tryz.prog w = .ok (.int .i64 0) w := fun _ => by kernel_rfl
  have iy4_2 : ∀ w, (Instr.index 22 (.agg #[.int .i64 2, .int .i64 0, .int .i64 1]) (.int .i64 2)).run Tryz.prog w = .ok (.int .i64 1) w := fun _ => by kernel_rfl
  have ix5 : ∀ w, (Instr.index 116 (.agg ordO) (.int .i64 5)).run Tryz.prog w = .ok (.agg #[.int .i64 2, .int .i64 1, .int .i64 0]) w := fun _ => by kernel_rfl
  have iy5_0 : ∀ w, (Instr.index 22 (.agg #[.int .i64 2, .int .i64 1, .int .i64 0]) (.int .i64 0)).run Tryz.prog w = .ok (.int .i64 2) w := fun _ => by kernel_rfl
  have iy5_1 : ∀ w, (Instr.index 22 (.agg #[.int .i64 2, .int .i64 1, .int .i64 0]) (.int .i64 1)).run Tryz.prog w = .ok (.int .i64 1) w := fun _ => by kernel_rfl
  have iy5_2 : ∀ w, (Instr.index 22 (.agg #[.int .i64 2, .int .i64 1, .int .i64 0]) (.int .i64 2)).run Tryz.prog w = .ok (.int .i64 0) w := fun _ => by kernel_rfl
  have hmm := @run_makeMap Tryz.prog
  go_enter Tryz.func67, Tryz.ntmps67
  go_wp2_with fail
  refine (wcheck_ok a b c p q r true HH.out _).mono ?_
  rintro e w1 ⟨rfl, hB1⟩
  have kx : Blk w1 w.heap.size 30 #[.int .i64 a, .int .i64 b, .int .i64 c, .bool p, .bool q, .bool r, .bool true] := (Blk.new w _ _).below hB1 (by simp)
  have x6 : w1.cell? ⟨w.heap.size, 6, none⟩ = some (.bool true) := kx.cell 6
  have HB1 := Lib.hid (below_up (below_alloc (Below.refl _ w)) hB1)
  have KX1 := Lib.hid kx
  have hlt1 : w.heap.size < w1.heap.size := kx.lt
  clear hB1 kx
  go_wp2_with fail
  refine (orders_any _).mono ?_
  rintro e w2 ⟨rfl, hB2⟩
  have hM : MapOf w2 w1.heap.size [] := (MapOf.new w1).same (hB2.block _ (by simp))
  have kx : Blk w2 w.heap.size 30 #[.int .i64 a, .int .i64 b, .int .i64 c, .bool p, .bool q, .bool r, .bool true] := (KX1.out.alloc _).below hB2 (by simp; omega)
  have HB2 := Lib.hid (below_up (below_alloc HB1.out) hB2)
  have HM := Lib.hid (And.intro hM kx)
  clear hB2 x6 hM kx KX1
  go_wp2_with fail
  go_loopw [23] (fun i wr => ∃ k : Nat, k ≤ 6 ∧ i = .int .i64 k ∧ Hid (MapOf wr w1.heap.size (stepK ⟨a, b, c, p, q, r, true⟩ k)) ∧ Hid (Blk wr w.heap.size 30 #[.int .i64 a, .int .i64 b, .int .i64 c, .bool p, .bool q, .bool r, .bool true]) ∧ Hid (Below w.heap.size w wr))
    (fun i _ => 6 - (intOf i).toNat)
  case atStart => exact ⟨0, by omega, rfl, HM.out.1, HM.out.2, HB2.out⟩
  case round =>
    obtain ⟨k, hk, rfl, hM, hX, hB⟩ := hrel
    clear HM HB2
    have kx := hX.out
    have x0 : wr.cell? ⟨w.heap.size, 0, none⟩ = some (.int .i64 a) := kx.cell 0
    have x1 : wr.cell? ⟨w.heap.size, 1, none⟩ = some (.int .i64 b) := kx.cell 1
    have x2 : wr.cell? ⟨w.heap.size, 2, none⟩ = some (.int .i64 c) := kx.cell 2
    have x3 : wr.cell? ⟨w.heap.size, 3, none⟩ = some (.bool p) := kx.cell 3
    have x4 : wr.cell? ⟨w.heap.size, 4, none⟩ = some (.bool q) := kx.cell 4
    have x5 : wr.cell? ⟨w.heap.size, 5, none⟩ = some (.bool r) := kx.cell 5
    have x6 : wr.cell? ⟨w.heap.size, 6, none⟩ = some (.bool true) := kx.cell 6
    have hltx : w.heap.size < wr.heap.size := kx.lt
    have hltm : w1.heap.size < wr.heap.size := hM.out.lt
    clear kx
    match k, hk, hM with
    | 0, _, hM =>
      go_wp2_with fail
      obtain ⟨wo, hwo⟩ : ∃ wo : World, wo = (wr.alloc (.cells #[.int .i64 0, .int .i64 1, .int .i64 2] 22)).alloc (.cells #[.int .i64 a, .int .i64 b, .int .i64 c, .bool p, .bool q, .bool r, .bool true] 30) := ⟨_, rfl⟩
      have kq : Blk wo (wr.heap.size + 1) 30 (innerC a b c p q r 0 0) := by rw [hwo]; exact blk1 wr _ _
      have kx : Blk wo w.heap.size 30 #[.int .i64 a, .int .i64 b, .int .i64 c, .bool p, .bool q, .bool r, .bool true] := by rw [hwo]; exact (hX.out.alloc _).alloc _
      have hMo : MapOf wo w1.heap.size (stepK ⟨a, b, c, p, q, r, true⟩ 0) := by rw [hwo]; exact hM.out.same ((Below.heap_alloc _ _ _ (by simp; omega)).trans (Below.heap_alloc _ _ _ hltm))
      have hBo : Below w.heap.size w wo := by rw [hwo]; exact below_alloc (below_alloc hB.out)
      have KO := Lib.hid (And.intro kq (And.intro kx (And.intro hMo hBo)))
      clear kq kx hMo hBo x0 x1 x2 x3 x4 x5 x6
      rw [← hwo]
      clear hwo
      have h8a : w.heap.size < wr.heap.size + 1 := by omega
      have h8b : w1.heap.size < wr.heap.size + 1 := by omega
      have h8c : w.heap.size ≤ w1.heap.size := HB1.out.size
      generalize wr.heap.size + 1 = g8 at *
      go_loopw [28] (fun j wi => ∃ m : Nat, m ≤ 3 ∧ j = .int .i64 m ∧ Hid (Blk wi g8 30 (innerC a b c p q r 0 m)) ∧ Hid (Blk wi w.heap.size 30 #[.int .i64 a, .int .i64 b, .int .i64 c, .bool p, .bool q, .bool r, .bool true]) ∧ Hid (MapOf wi w1.heap.size (stepK ⟨a, b, c, p, q, r, true⟩ 0)) ∧ Hid (Below w.heap.size w wi))
        (fun j _ => 3 - (intOf j).toNat)
      case atStart => exact ⟨0, by omega, rfl, KO.out.1, KO.out.2.1, KO.out.2.2.1, KO.out.2.2.2⟩
      case round =>
        obtain ⟨m, hm, rfl, hQ, hX2, hM2, hB2⟩ := hrel
        have kx := hX2.out
        have hltx2 : w.heap.size < wr.heap.size := kx.lt
        have x0 : wr.cell? ⟨w.heap.size, 0, none⟩ = some (.int .i64 a) := kx.cell 0
        have x1 : wr.cell? ⟨w.heap.size, 1, none⟩ = some (.int .i64 b) := kx.cell 1
        have x2 : wr.cell? ⟨w.heap.size, 2, none⟩ = some (.int .i64 c) := kx.cell 2
        have x3 : wr.cell? ⟨w.heap.size, 3, none⟩ = some (.bool p) := kx.cell 3
        have x4 : wr.cell? ⟨w.heap.size, 4, none⟩ = some (.bool q) := kx.cell 4
        have x5 : wr.cell? ⟨w.heap.size, 5, none⟩ = some (.bool r) := kx.cell 5
        have x6 : wr.cell? ⟨w.heap.size, 6, none⟩ = some (.bool true) := kx.cell 6
        clear kx
        match m, hm, hQ with
        | 0, _, hQ =>
          have kq : Blk wr g8 30 #[.int .i64 a, .int .i64 b, .int .i64 c, .bool p, .bool q, .bool r, .bool true] := hQ.out
          have hltq := kq.lt
          have q0 := kq.cell 0
          have f0 := kq.frozen 0
          simp only [List.getElem?_toArray, List.getElem?_cons_zero, List.getElem?_cons_succ] at q0
          have q3 := kq.cell 3
          have f3 := kq.frozen 3
          simp only [List.getElem?_toArray, List.getElem?_cons_zero, List.getElem?_cons_succ] at q3
          have KQ := Lib.hid kq
          clear kq
          go_wp2_with fail
          go_region
          all_goals
            go_wp2_with fail
            go_roundw
            case rel =>
              refine ⟨1, by omega, rfl, ?_, ?_, ?_, ?_⟩
              · first
                  | exact ((KQ.out.drew.set_ 0 (.int .i64 a)).set_ 3 (.bool p))
                  | exact ((KQ.out.drew.set_ 3 (.bool p)).set_ 0 (.int .i64 a))
              · exact ((hX2.out.drew.far (p := ⟨_, _, none⟩) (by simp; omega) _).far (p := ⟨_, _, none⟩) (by simp; omega) _)
              · exact (hM2.out.same (show wr.drew.heap[w1.heap.size]? = _ from rfl)).same ((Below.heap_setCell _ _ _ _ (by simp; omega)).trans (Below.heap_setCell _ _ _ _ (by simp; omega)))
              · exact ((hB2.out.drew.setCell (p := ⟨_, _, none⟩) (by simp; omega) _).setCell (p := ⟨_, _, none⟩) (by simp; omega) _)
            case measure => simp [intOf]
        | 1, _, hQ =>
          have kq : Blk wr g8 30 #[.int .i64 a, .int .i64 b, .int .i64 c, .bool p, .bool q, .bool r, .bool true] := hQ.out
          have hltq := kq.lt
          have q1 := kq.cell 1
          have f1 := kq.frozen 1
          simp only [List.getElem?_toArray, List.getElem?_cons_zero, List.getElem?_cons_succ] at q1
          have q4 := kq.cell 4
          have f4 := kq.frozen 4
          simp only [List.getElem?_toArray, List.getElem?_cons_zero, List.getElem?_cons_succ] at q4
          have KQ := Lib.hid kq
          clear kq
          go_wp2_with fail
          go_region
          all_goals
            go_wp2_with fail
            go_roundw
            case rel =>
              refine ⟨2, by omega, rfl, ?_, ?_, ?_, ?_⟩
              · first
                  | exact ((KQ.out.drew.set_ 1 (.int .i64 b)).set_ 4 (.bool q))
                  | exact ((KQ.out.drew.set_ 4 (.bool q)).set_ 1 (.int .i64 b))
              · exact ((hX2.out.drew.far (p := ⟨_, _, none⟩) (by simp; omega) _).far (p := ⟨_, _, none⟩) (by simp; omega) _)
              · exact (hM2.out.same (show wr.drew.heap[w1.heap.size]? = _ from rfl)).same ((Below.heap_setCell _ _ _ _ (by simp; omega)).trans (Below.heap_setCell _ _ _ _ (by simp; omega)))
              · exact ((hB2.out.drew.setCell (p := ⟨_, _, none⟩) (by simp; omega) _).setCell (p := ⟨_, _, none⟩) (by simp; omega) _)
            case measure => simp [intOf]
        | 2, _, hQ =>
          have kq : Blk wr g8 30 #[.int .i64 a, .int .i64 b, .int .i64 c, .bool p, .bool q, .bool r, .bool true] := hQ.out
          have hltq := kq.lt
          have q2 := kq.cell 2
          have f2 := kq.frozen 2
          simp only [List.getElem?_toArray, List.getElem?_cons_zero, List.getElem?_cons_succ] at q2
          have q5 := kq.cell 5
          have f5 := kq.frozen 5
          simp only [List.getElem?_toArray, List.getElem?_cons_zero, List.getElem?_cons_succ] at q5
          have KQ := Lib.hid kq
          clear kq
          go_wp2_with fail
          go_region
          all_goals
            go_wp2_with fail
            go_roundw
            case rel =>
              refine ⟨3, by omega, rfl, ?_, ?_, ?_, ?_⟩
              · first
                  | exact ((KQ.out.drew.set_ 2 (.int .i64 c)).set_ 5 (.bool r))
                  | exact ((KQ.out.drew.set_ 5 (.bool r)).set_ 2 (.int .i64 c))
              · exact ((hX2.out.drew.far (p := ⟨_, _, none⟩) (by simp; omega) _).far (p := ⟨_, _, none⟩) (by simp; omega) _)
              · exact (hM2.out.same (show wr.drew.heap[w1.heap.size]? = _ from rfl)).same ((Below.heap_setCell _ _ _ _ (by simp; omega)).trans (Below.heap_setCell _ _ _ _ (by simp; omega)))
              · exact ((hB2.out.drew.setCell (p := ⟨_, _, none⟩) (by simp; omega) _).setCell (p := ⟨_, _, none⟩) (by simp; omega) _)
            case measure => simp [intOf]
        | 3, _, hQ =>
          have kq : Blk wr g8 30 #[.int .i64 a, .int .i64 b, .int .i64 c, .bool p, .bool q, .bool r, .bool true] := hQ.out
          have q0 := kq.cell 0
          simp only [List.getElem?_toArray, List.getElem?_cons_zero, List.getElem?_cons_succ] at q0
          have q1 := kq.cell 1
          simp only [List.getElem?_toArray, List.getElem?_cons_zero, List.getElem?_cons_succ] at q1
          have q2 := kq.cell 2
          simp only [List.getElem?_toArray, List.getElem?_cons_zero, List.getElem?_cons_succ] at q2
          have q3 := kq.cell 3
          simp only [List.getElem?_toArray, List.getElem?_cons_zero, List.getElem?_cons_succ] at q3
          have q4 := kq.cell 4
          simp only [List.getElem?_toArray, List.getElem?_cons_zero, List.getElem?_cons_succ] at q4
          have q5 := kq.cell 5
          simp only [List.getElem?_toArray, List.getElem?_cons_zero, List.getElem?_cons_succ] at q5
          have q6 := kq.cell 6
          simp only [List.getElem?_toArray, List.getElem?_cons_zero, List.getElem?_cons_succ] at q6
          obtain ⟨o, hup, hM3⟩ := upd (t := 115) hM2.out (perm_ok HH.out 0) Tryz.underlying115
          have hup' : (Instr.mapUpdate 115 (.map (some w1.heap.size)) (.agg #[.int .i64 a, .int .i64 b, .int .i64 c, .bool p, .bool q, .bool r, .bool true]) (.bool true)).run Tryz.prog wr = .ok () (Go.ChangeMaps.setBlock wr w1.heap.size o) := hup
          have HM3 := Lib.hid hM3
          clear hup hM3 kq x0 x1 x2 x3 x4 x5 x6
          go_wp2_with fail
          go_roundw
          case rel => exact ⟨1, by omega, rfl, HM3.out, (TurnKeys.heap_setBlock_ne (by omega)).trans hX2.out, below_setBlock hB2.out (by omega)⟩
          case measure => simp [intOf]
    | 1, _, hM =>
      go_wp2_with fail
      obtain ⟨wo, hwo⟩ : ∃ wo : World, wo = (wr.alloc (.cells #[.int .i64 0, .int .i64 2, .int .i64 1] 22)).alloc (.cells #[.int .i64 a, .int .i64 b, .int .i64 c, .bool p, .bool q, .bool r, .bool true] 30) := ⟨_, rfl⟩
      have kq : Blk wo (wr.heap.size + 1) 30 (innerC a b c p q r 1 0) := by rw [hwo]; exact blk1 wr _ _
      have kx : Blk wo w.heap.size 30 #[.int .i64 a, .int .i64 b, .int .i64 c, .bool p, .bool q, .bool r, .bool true] := by rw [hwo]; exact (hX.out.alloc _).alloc _
      have hMo : MapOf wo w1.heap.size (stepK ⟨a, b, c, p, q, r, true⟩ 1) := by rw [hwo]; exact hM.out.same ((Below.heap_alloc _ _ _ (by simp; omega)).trans (Below.heap_alloc _ _ _ hltm))
      have hBo : Below w.heap.size w wo := by rw [hwo]; exact below_alloc (below_alloc hB.out)
      have KO := Lib.hid (And.intro kq (And.intro kx (And.intro hMo hBo)))
      clear kq kx hMo hBo x0 x1 x2 x3 x4 x5 x6
      rw [← hwo]
      clear hwo
      have h8a : w.heap.size < wr.heap.size + 1 := by omega
      have h8b : w1.heap.size < wr.heap.size + 1 := by omega
      have h8c : w.heap.size ≤ w1.heap.size := HB1.out.size
      generalize wr.heap.size + 1 = g8 at *
      go_loopw [28] (fun j wi => ∃ m : Nat, m ≤ 3 ∧ j = .int .i64 m ∧ Hid (Blk wi g8 30 (innerC a b c p q r 1 m)) ∧ Hid (Blk wi w.heap.size 30 #[.int .i64 a, .int .i64 b, .int .i64 c, .bool p, .bool q, .bool r, .bool true]) ∧ Hid (MapOf wi w1.heap.size (stepK ⟨a, b, c, p, q, r, true⟩ 1)) ∧ Hid (Below w.heap.size w wi))
        (fun j _ => 3 - (intOf j).toNat)
      case atStart => exact ⟨0, by omega, rfl, KO.out.1, KO.out.2.1, KO.out.2.2.1, KO.out.2.2.2⟩
      case round =>
        obtain ⟨m, hm, rfl, hQ, hX2, hM2, hB2⟩ := hrel
        have kx := hX2.out
        have hltx2 : w.heap.size < wr.heap.size := kx.lt
        have x0 : wr.cell? ⟨w.heap.size, 0, none⟩ = some (.int .i64 a) := kx.cell 0
        have x1 : wr.cell? ⟨w.heap.size, 1, none⟩ = some (.int .i64 b) := kx.cell 1
        have x2 : wr.cell? ⟨w.heap.size, 2, none⟩ = some (.int .i64 c) := kx.cell 2
        have x3 : wr.cell? ⟨w.heap.size, 3, none⟩ = some (.bool p) := kx.cell 3
        have x4 : wr.cell? ⟨w.heap.size, 4, none⟩ = some (.bool q) := kx.cell 4
        have x5 : wr.cell? ⟨w.heap.size, 5, none⟩ = some (.bool r) := kx.cell 5
        have x6 : wr.cell? ⟨w.heap.size, 6, none⟩ = some (.bool true) := kx.cell 6
        clear kx
        match m, hm, hQ with
        | 0, _, hQ =>
          have kq : Blk wr g8 30 #[.int .i64 a, .int .i64 b, .int .i64 c, .bool p, .bool q, .bool r, .bool true] := hQ.out
          have hltq := kq.lt
          have q0 := kq.cell 0
          have f0 := kq.frozen 0
          simp only [List.getElem?_toArray, List.getElem?_cons_zero, List.getElem?_cons_succ] at q0
          have q3 := kq.cell 3
          have f3 := kq.frozen 3
          simp only [List.getElem?_toArray, List.getElem?_cons_zero, List.getElem?_cons_succ] at q3
          have KQ := Lib.hid kq
          clear kq
          go_wp2_with fail
          go_region
          all_goals
            go_wp2_with fail
            go_roundw
            case rel =>
              refine ⟨1, by omega, rfl, ?_, ?_, ?_, ?_⟩
              · first
                  | exact ((KQ.out.drew.set_ 0 (.int .i64 a)).set_ 3 (.bool p))
                  | exact ((KQ.out.drew.set_ 3 (.bool p)).set_ 0 (.int .i64 a))
              · exact ((hX2.out.drew.far (p := ⟨_, _, none⟩) (by simp; omega) _).far (p := ⟨_, _, none⟩) (by simp; omega) _)
              · exact (hM2.out.same (show wr.drew.heap[w1.heap.size]? = _ from rfl)).same ((Below.heap_setCell _ _ _ _ (by simp; omega)).trans (Below.heap_setCell _ _ _ _ (by simp; omega)))
              · exact ((hB2.out.drew.setCell (p := ⟨_, _, none⟩) (by simp; omega) _).setCell (p := ⟨_, _, none⟩) (by simp; omega) _)
            case measure => simp [intOf]
        | 1, _, hQ =>
          have kq : Blk wr g8 30 #[.int .i64 a, .int .i64 b, .int .i64 c, .bool p, .bool q, .bool r, .bool true] := hQ.out
          have hltq := kq.lt
          have q1 := kq.cell 1
          have f1 := kq.frozen 1
          simp only [List.getElem?_toArray, List.getElem?_cons_zero, List.getElem?_cons_succ] at q1
          have q4 := kq.cell 4
          have f4 := kq.frozen 4
          simp only [List.getElem?_toArray, List.getElem?_cons_zero, List.getElem?_cons_succ] at q4
          have KQ := Lib.hid kq
          clear kq
          go_wp2_with fail
          go_region
          all_goals
            go_wp2_with fail
            go_roundw
            case rel =>
              refine ⟨2, by omega, rfl, ?_, ?_, ?_, ?_⟩
              · first
                  | exact ((KQ.out.drew.set_ 1 (.int .i64 c)).set_ 4 (.bool r))
                  | exact ((KQ.out.drew.set_ 4 (.bool r)).set_ 1 (.int .i64 c))
              · exact ((hX2.out.drew.far (p := ⟨_, _, none⟩) (by simp; omega) _).far (p := ⟨_, _, none⟩) (by simp; omega) _)
              · exact (hM2.out.same (show wr.drew.heap[w1.heap.size]? = _ from rfl)).same ((Below.heap_setCell _ _ _ _ (by simp; omega)).trans (Below.heap_setCell _ _ _ _ (by simp; omega)))
              · exact ((hB2.out.drew.setCell (p := ⟨_, _, none⟩) (by simp; omega) _).setCell (p := ⟨_, _, none⟩) (by simp; omega) _)
            case measure => simp [intOf]
        | 2, _, hQ =>
          have kq : Blk wr g8 30 #[.int .i64 a, .int .i64 c, .int .i64 c, .bool p, .bool r, .bool r, .bool true] := hQ.out
          have hltq := kq.lt
          have q2 := kq.cell 2
          have f2 := kq.frozen 2
          simp only [List.getElem?_toArray, List.getElem?_cons_zero, List.getElem?_cons_succ] at q2
          have q5 := kq.cell 5
          have f5 := kq.frozen 5
          simp only [List.getElem?_toArray, List.getElem?_cons_zero, List.getElem?_cons_succ] at q5
          have KQ := Lib.hid kq
          clear kq
          go_wp2_with fail
          go_region
          all_goals
            go_wp2_with fail
            go_roundw
            case rel =>
              refine ⟨3, by omega, rfl, ?_, ?_, ?_, ?_⟩
              · first
                  | exact ((KQ.out.drew.set_ 2 (.int .i64 b)).set_ 5 (.bool q))
                  | exact ((KQ.out.drew.set_ 5 (.bool q)).set_ 2 (.int .i64 b))
              · exact ((hX2.out.drew.far (p := ⟨_, _, none⟩) (by simp; omega) _).far (p := ⟨_, _, none⟩) (by simp; omega) _)
              · exact (hM2.out.same (show wr.drew.heap[w1.heap.size]? = _ from rfl)).same ((Below.heap_setCell _ _ _ _ (by simp; omega)).trans (Below.heap_setCell _ _ _ _ (by simp; omega)))
              · exact ((hB2.out.drew.setCell (p := ⟨_, _, none⟩) (by simp; omega) _).setCell (p := ⟨_, _, none⟩) (by simp; omega) _)
            case measure => simp [intOf]
        | 3, _, hQ =>
          have kq : Blk wr g8 30 #[.int .i64 a, .int .i64 c, .int .i64 b, .bool p, .bool r, .bool q, .bool true] := hQ.out
          have q0 := kq.cell 0
          simp only [List.getElem?_toArray, List.getElem?_cons_zero, List.getElem?_cons_succ] at q0
          have q1 := kq.cell 1
          simp only [List.getElem?_toArray, List.getElem?_cons_zero, List.getElem?_cons_succ] at q1
          have q2 := kq.cell 2
          simp only [List.getElem?_toArray, List.getElem?_cons_zero, List.getElem?_cons_succ] at q2
          have q3 := kq.cell 3
          simp only [List.getElem?_toArray, List.getElem?_cons_zero, List.getElem?_cons_succ] at q3
          have q4 := kq.cell 4
          simp only [List.getElem?_toArray, List.getElem?_cons_zero, List.getElem?_cons_succ] at q4
          have q5 := kq.cell 5
          simp only [List.getElem?_toArray, List.getElem?_cons_zero, List.getElem?_cons_succ] at q5
          have q6 := kq.cell 6
          simp only [List.getElem?_toArray, List.getElem?_cons_zero, List.getElem?_cons_succ] at q6
          obtain ⟨o, hup, hM3⟩ := upd (t := 115) hM2.out (perm_ok HH.out 1) Tryz.underlying115
          have hup' : (Instr.mapUpdate 115 (.map (some w1.heap.size)) (.agg #[.int .i64 a, .int .i64 c, .int .i64 b, .bool p, .bool r, .bool q, .bool true]) (.bool true)).run Tryz.prog wr = .ok () (Go.ChangeMaps.setBlock wr w1.heap.size o) := hup
          have HM3 := Lib.hid hM3
          clear hup hM3 kq x0 x1 x2 x3 x4 x5 x6
          go_wp2_with fail
          go_roundw
          case rel => exact ⟨2, by omega, rfl, HM3.out, (TurnKeys.heap_setBlock_ne (by omega)).trans hX2.out, below_setBlock hB2.out (by omega)⟩
          case measure => simp [intOf]
    | 2, _, hM =>
      go_wp2_with fail
      obtain ⟨wo, hwo⟩ : ∃ wo : World, wo = (wr.alloc (.cells #[.int .i64 1, .int .i64 0, .int .i64 2] 22)).alloc (.cells #[.int .i64 a, .int .i64 b, .int .i64 c, .bool p, .bool q, .bool r, .bool true] 30) := ⟨_, rfl⟩
      have kq : Blk wo (wr.heap.size + 1) 30 (innerC a b c p q r 2 0) := by rw [hwo]; exact blk1 wr _ _
      have kx : Blk wo w.heap.size 30 #[.int .i64 a, .int .i64 b, .int .i64 c, .bool p, .bool q, .bool r, .bool true] := by rw [hwo]; exact (hX.out.alloc _).alloc _
      have hMo : MapOf wo w1.heap.size (stepK ⟨a, b, c, p, q, r, true⟩ 2) := by rw [hwo]; exact hM.out.same ((Below.heap_alloc _ _ _ (by simp; omega)).trans (Below.heap_alloc _ _ _ hltm))
      have hBo : Below w.heap.size w wo := by rw [hwo]; exact below_alloc (below_alloc hB.out)
      have KO := Lib.hid (And.intro kq (And.intro kx (And.intro hMo hBo)))
      clear kq kx hMo hBo x0 x1 x2 x3 x4 x5 x6
      rw [← hwo]
      clear hwo
      have h8a : w.heap.size < wr.heap.size + 1 := by omega
      have h8b : w1.heap.size < wr.heap.size + 1 := by omega
      have h8c : w.heap.size ≤ w1.heap.size := HB1.out.size
      generalize wr.heap.size + 1 = g8 at *
      go_loopw [28] (fun j wi => ∃ m : Nat, m ≤ 3 ∧ j = .int .i64 m ∧ Hid (Blk wi g8 30 (innerC a b c p q r 2 m)) ∧ Hid (Blk wi w.heap.size 30 #[.int .i64 a, .int .i64 b, .int .i64 c, .bool p, .bool q, .bool r, .bool true]) ∧ Hid (MapOf wi w1.heap.size (stepK ⟨a, b, c, p, q, r, true⟩ 2)) ∧ Hid (Below w.heap.size w wi))
        (fun j _ => 3 - (intOf j).toNat)
      case atStart => exact ⟨0, by omega, rfl, KO.out.1, KO.out.2.1, KO.out.2.2.1, KO.out.2.2.2⟩
      case round =>
        obtain ⟨m, hm, rfl, hQ, hX2, hM2, hB2⟩ := hrel
        have kx := hX2.out
        have hltx2 : w.heap.size < wr.heap.size := kx.lt
        have x0 : wr.cell? ⟨w.heap.size, 0, none⟩ = some (.int .i64 a) := kx.cell 0
        have x1 : wr.cell? ⟨w.heap.size, 1, none⟩ = some (.int .i64 b) := kx.cell 1
        have x2 : wr.cell? ⟨w.heap.size, 2, none⟩ = some (.int .i64 c) := kx.cell 2
        have x3 : wr.cell? ⟨w.heap.size, 3, none⟩ = some (.bool p) := kx.cell 3
        have x4 : wr.cell? ⟨w.heap.size, 4, none⟩ = some (.bool q) := kx.cell 4
        have x5 : wr.cell? ⟨w.heap.size, 5, none⟩ = some (.bool r) := kx.cell 5
        have x6 : wr.cell? ⟨w.heap.size, 6, none⟩ = some (.bool true) := kx.cell 6
        clear kx
        match m, hm, hQ with
        | 0, _, hQ =>
          have kq : Blk wr g8 30 #[.int .i64 a, .int .i64 b, .int .i64 c, .bool p, .bool q, .bool r, .bool true] := hQ.out
          have hltq := kq.lt
          have q0 := kq.cell 0
          have f0 := kq.frozen 0
          simp only [List.getElem?_toArray, List.getElem?_cons_zero, List.getElem?_cons_succ] at q0
          have q3 := kq.cell 3
          have f3 := kq.frozen 3
          simp only [List.getElem?_toArray, List.getElem?_cons_zero, List.getElem?_cons_succ] at q3
          have KQ := Lib.hid kq
          clear kq
          go_wp2_with fail
          go_region
          all_goals
            go_wp2_with fail
            go_roundw
            case rel =>
              refine ⟨1, by omega, rfl, ?_, ?_, ?_, ?_⟩
              · first
                  | exact ((KQ.out.drew.set_ 0 (.int .i64 b)).set_ 3 (.bool q))
                  | exact ((KQ.out.drew.set_ 3 (.bool q)).set_ 0 (.int .i64 b))
              · exact ((hX2.out.drew.far (p := ⟨_, _, none⟩) (by simp; omega) _).far (p := ⟨_, _, none⟩) (by simp; omega) _)
              · exact (hM2.out.same (show wr.drew.heap[w1.heap.size]? = _ from rfl)).same ((Below.heap_setCell _ _ _ _ (by simp; omega)).trans (Below.heap_setCell _ _ _ _ (by simp; omega)))
              · exact ((hB2.out.drew.setCell (p := ⟨_, _, none⟩) (by simp; omega) _).setCell (p := ⟨_, _, none⟩) (by simp; omega) _)
            case measure => simp [intOf]
        | 1, _, hQ =>
          have kq : Blk wr g8 30 #[.int .i64 b, .int .i64 b, .int .i64 c, .bool q, .bool q, .bool r, .bool true] := hQ.out
          have hltq := kq.lt
          have q1 := kq.cell 1
          have f1 := kq.frozen 1
          simp only [List.getElem?_toArray, List.getElem?_cons_zero, List.getElem?_cons_succ] at q1
          have q4 := kq.cell 4
          have f4 := kq.frozen 4
          simp only [List.getElem?_toArray, List.getElem?_cons_zero, List.getElem?_cons_succ] at q4
          have KQ := Lib.hid kq
          clear kq
          go_wp2_with fail
          go_region
          all_goals
            go_wp2_with fail
            go_roundw
            case rel =>
              refine ⟨2, by omega, rfl, ?_, ?_, ?_, ?_⟩
              · first
                  | exact ((KQ.out.drew.set_ 1 (.int .i64 a)).set_ 4 (.bool p))
                  | exact ((KQ.out.drew.set_ 4 (.bool p)).set_ 1 (.int .i64 a))
              · exact ((hX2.out.drew.far (p := ⟨_, _, none⟩) (by simp; omega) _).far (p := ⟨_, _, none⟩) (by simp; omega) _)
              · exact (hM2.out.same (show wr.drew.heap[w1.heap.size]? = _ from rfl)).same ((Below.heap_setCell _ _ _ _ (by simp; omega)).trans (Below.heap_setCell _ _ _ _ (by simp; omega)))
              · exact ((hB2.out.drew.setCell (p := ⟨_, _, none⟩) (by simp; omega) _).setCell (p := ⟨_, _, none⟩) (by simp; omega) _)
            case measure => simp [intOf]
        | 2, _, hQ =>
          have kq : Blk wr g8 30 #[.int .i64 b, .int .i64 a, .int .i64 c, .bool q, .bool p, .bool r, .bool true] := hQ.out
          have hltq := kq.lt
          have q2 := kq.cell 2
          have f2 := kq.frozen 2
          simp only [List.getElem?_toArray, List.getElem?_cons_zero, List.getElem?_cons_succ] at q2
          have q5 := kq.cell 5
          have f5 := kq.frozen 5
          simp only [List.getElem?_toArray, List.getElem?_cons_zero, List.getElem?_cons_succ] at q5
          have KQ := Lib.hid kq
          clear kq
          go_wp2_with fail
          go_region
          all_goals
            go_wp2_with fail
            go_roundw
            case rel =>
              refine ⟨3, by omega, rfl, ?_, ?_, ?_, ?_⟩
              · first
                  | exact ((KQ.out.drew.set_ 2 (.int .i64 c)).set_ 5 (.bool r))
                  | exact ((KQ.out.drew.set_ 5 (.bool r)).set_ 2 (.int .i64 c))
              · exact ((hX2.out.drew.far (p := ⟨_, _, none⟩) (by simp; omega) _).far (p := ⟨_, _, none⟩) (by simp; omega) _)
              · exact (hM2.out.same (show wr.drew.heap[w1.heap.size]? = _ from rfl)).same ((Below.heap_setCell _ _ _ _ (by simp; omega)).trans (Below.heap_setCell _ _ _ _ (by simp; omega)))
              · exact ((hB2.out.drew.setCell (p := ⟨_, _, none⟩) (by simp; omega) _).setCell (p := ⟨_, _, none⟩) (by simp; omega) _)
            case measure => simp [intOf]
        | 3, _, hQ =>
          have kq : Blk wr g8 30 #[.int .i64 b, .int .i64 a, .int .i64 c, .bool q, .bool p, .bool r, .bool true] := hQ.out
          have q0 := kq.cell 0
          simp only [List.getElem?_toArray, List.getElem?_cons_zero, List.getElem?_cons_succ] at q0
          have q1 := kq.cell 1
          simp only [List.getElem?_toArray, List.getElem?_cons_zero, List.getElem?_cons_succ] at q1
          have q2 := kq.cell 2
          simp only [List.getElem?_toArray, List.getElem?_cons_zero, List.getElem?_cons_succ] at q2
          have q3 := kq.cell 3
          simp only [List.getElem?_toArray, List.getElem?_cons_zero, List.getElem?_cons_succ] at q3
          have q4 := kq.cell 4
          simp only [List.getElem?_toArray, List.getElem?_cons_zero, List.getElem?_cons_succ] at q4
          have q5 := kq.cell 5
          simp only [List.getElem?_toArray, List.getElem?_cons_zero, List.getElem?_cons_succ] at q5
          have q6 := kq.cell 6
          simp only [List.getElem?_toArray, List.getElem?_cons_zero, List.getElem?_cons_succ] at q6
          obtain ⟨o, hup, hM3⟩ := upd (t := 115) hM2.out (perm_ok HH.out 2) Tryz.underlying115
          have hup' : (Instr.mapUpdate 115 (.map (some w1.heap.size)) (.agg #[.int .i64 b, .int .i64 a, .int .i64 c, .bool q, .bool p, .bool r, .bool true]) (.bool true)).run Tryz.prog wr = .ok () (Go.ChangeMaps.setBlock wr w1.heap.size o) := hup
          have HM3 := Lib.hid hM3
          clear hup hM3 kq x0 x1 x2 x3 x4 x5 x6
          go_wp2_with fail
          go_roundw
          case rel => exact ⟨3, by omega, rfl, HM3.out, (TurnKeys.heap_setBlock_ne (by omega)).trans hX2.out, below_setBlock hB2.out (by omega)⟩
          case measure => simp [intOf]
    | 3, _, hM =>
      go_wp2_with fail
      obtain ⟨wo, hwo⟩ : ∃ wo : World, wo = (wr.alloc (.cells #[.int .i64 1, .int .i64 2, .int .i64 0] 22)).alloc (.cells #[.int .i64 a, .int .i64 b, .int .i64 c, .bool p, .bool q, .bool r, .bool true] 30) := ⟨_, rfl⟩
      have kq : Blk wo (wr.heap.size + 1) 30 (innerC a b c p q r 3 0) := by rw [hwo]; exact blk1 wr _ _
      have kx : Blk wo w.heap.size 30 #[.int .i64 a, .int .i64 b, .int .i64 c, .bool p, .bool q, .bool r, .bool true] := by rw [hwo]; exact (hX.out.alloc _).alloc _
      have hMo : MapOf wo w1.heap.size (stepK ⟨a, b, c, p, q, r, true⟩ 3) := by rw [hwo]; exact hM.out.same ((Below.heap_alloc _ _ _ (by simp; omega)).trans (Below.heap_alloc _ _ _ hltm))
      have hBo : Below w.heap.size w wo := by rw [hwo]; exact below_alloc (below_alloc hB.out)
      have KO := Lib.hid (And.intro kq (And.intro kx (And.intro hMo hBo)))
      clear kq kx hMo hBo x0 x1 x2 x3 x4 x5 x6
      rw [← hwo]
      clear hwo
      have h8a : w.heap.size < wr.heap.size + 1 := by omega
      have h8b : w1.heap.size < wr.heap.size + 1 := by omega
      have h8c : w.heap.size ≤ w1.heap.size := HB1.out.size
      generalize wr.heap.size + 1 = g8 at *
      go_loopw [28] (fun j wi => ∃ m : Nat, m ≤ 3 ∧ j = .int .i64 m ∧ Hid (Blk wi g8 30 (innerC a b c p q r 3 m)) ∧ Hid (Blk wi w.heap.size 30 #[.int .i64 a, .int .i64 b, .int .i64 c, .bool p, .bool q, .bool r, .bool true]) ∧ Hid (MapOf wi w1.heap.size (stepK ⟨a, b, c, p, q, r, true⟩ 3)) ∧ Hid (Below w.heap.size w wi))
        (fun j _ => 3 - (intOf j).toNat)
      case atStart => exact ⟨0, by omega, rfl, KO.out.1, KO.out.2.1, KO.out.2.2.1, KO.out.2.2.2⟩
      case round =>
        obtain ⟨m, hm, rfl, hQ, hX2, hM2, hB2⟩ := hrel
        have kx := hX2.out
        have hltx2 : w.heap.size < wr.heap.size := kx.lt
        have x0 : wr.cell? ⟨w.heap.size, 0, none⟩ = some (.int .i64 a) := kx.cell 0
        have x1 : wr.cell? ⟨w.heap.size, 1, none⟩ = some (.int .i64 b) := kx.cell 1
        have x2 : wr.cell? ⟨w.heap.size, 2, none⟩ = some (.int .i64 c) := kx.cell 2
        have x3 : wr.cell? ⟨w.heap.size, 3, none⟩ = some (.bool p) := kx.cell 3
        have x4 : wr.cell? ⟨w.heap.size, 4, none⟩ = some (.bool q) := kx.cell 4
        have x5 : wr.cell? ⟨w.heap.size, 5, none⟩ = some (.bool r) := kx.cell 5
        have x6 : wr.cell? ⟨w.heap.size, 6, none⟩ = some (.bool true) := kx.cell 6
        clear kx
        match m, hm, hQ with
        | 0, _, hQ =>
          have kq : Blk wr g8 30 #[.int .i64 a, .int .i64 b, .int .i64 c, .bool p, .bool q, .bool r, .bool true] := hQ.out
          have hltq := kq.lt
          have q0 := kq.cell 0
          have f0 := kq.frozen 0
          simp only [List.getElem?_toArray, List.getElem?_cons_zero, List.getElem?_cons_succ] at q0
          have q3 := kq.cell 3
          have f3 := kq.frozen 3
          simp only [List.getElem?_toArray, List.getElem?_cons_zero, List.getElem?_cons_succ] at q3
          have KQ := Lib.hid kq
          clear kq
          go_wp2_with fail
          go_region
          all_goals
            go_wp2_with fail
            go_roundw
            case rel =>
              refine ⟨1, by omega, rfl, ?_, ?_, ?_, ?_⟩
              · first
                  | exact ((KQ.out.drew.set_ 0 (.int .i64 b)).set_ 3 (.bool q))
                  | exact ((KQ.out.drew.set_ 3 (.bool q)).set_ 0 (.int .i64 b))
              · exact ((hX2.out.drew.far (p := ⟨_, _, none⟩) (by simp; omega) _).far (p := ⟨_, _, none⟩) (by simp; omega) _)
              · exact (hM2.out.same (show wr.drew.heap[w1.heap.size]? = _ from rfl)).same ((Below.heap_setCell _ _ _ _ (by simp; omega)).trans (Below.heap_setCell _ _ _ _ (by simp; omega)))
              · exact ((hB2.out.drew.setCell (p := ⟨_, _, none⟩) (by simp; omega) _).setCell (p := ⟨_, _, none⟩) (by simp; omega) _)
            case measure => simp [intOf]
        | 1, _, hQ =>
          have kq : Blk wr g8 30 #[.int .i64 b, .int .i64 b, .int .i64 c, .bool q, .bool q, .bool r, .bool true] := hQ.out
          have hltq := kq.lt
          have q1 := kq.cell 1
          have f1 := kq.frozen 1
          simp only [List.getElem?_toArray, List.getElem?_cons_zero, List.getElem?_cons_succ] at q1
          have q4 := kq.cell 4
          have f4 := kq.frozen 4
          simp only [List.getElem?_toArray, List.getElem?_cons_zero, List.getElem?_cons_succ] at q4
          have KQ := Lib.hid kq
          clear kq
          go_wp2_with fail
          go_region
          all_goals
            go_wp2_with fail
            go_roundw
            case rel =>
              refine ⟨2, by omega, rfl, ?_, ?_, ?_, ?_⟩
              · first
                  | exact ((KQ.out.drew.set_ 1 (.int .i64 c)).set_ 4 (.bool r))
                  | exact ((KQ.out.drew.set_ 4 (.bool r)).set_ 1 (.int .i64 c))
              · exact ((hX2.out.drew.far (p := ⟨_, _, none⟩) (by simp; omega) _).far (p := ⟨_, _, none⟩) (by simp; omega) _)
              · exact (hM2.out.same (show wr.drew.heap[w1.heap.size]? = _ from rfl)).same ((Below.heap_setCell _ _ _ _ (by simp; omega)).trans (Below.heap_setCell _ _ _ _ (by simp; omega)))
              · exact ((hB2.out.drew.setCell (p := ⟨_, _, none⟩) (by simp; omega) _).setCell (p := ⟨_, _, none⟩) (by simp; omega) _)
            case measure => simp [intOf]
        | 2, _, hQ =>
          have kq : Blk wr g8 30 #[.int .i64 b, .int .i64 c, .int .i64 c, .bool q, .bool r, .bool r, .bool true] := hQ.out
          have hltq := kq.lt
          have q2 := kq.cell 2
          have f2 := kq.frozen 2
          simp only [List.getElem?_toArray, List.getElem?_cons_zero, List.getElem?_cons_succ] at q2
          have q5 := kq.cell 5
          have f5 := kq.frozen 5
          simp only [List.getElem?_toArray, List.getElem?_cons_zero, List.getElem?_cons_succ] at q5
          have KQ := Lib.hid kq
          clear kq
          go_wp2_with fail
          go_region
          all_goals
            go_wp2_with fail
            go_roundw
            case rel =>
              refine ⟨3, by omega, rfl, ?_, ?_, ?_, ?_⟩
              · first
                  | exact ((KQ.out.drew.set_ 2 (.int .i64 a)).set_ 5 (.bool p))
                  | exact ((KQ.out.drew.set_ 5 (.bool p)).set_ 2 (.int .i64 a))
              · exact ((hX2.out.drew.far (p := ⟨_, _, none⟩) (by simp; omega) _).far (p := ⟨_, _, none⟩) (by simp; omega) _)
              · exact (hM2.out.same (show wr.drew.heap[w1.heap.size]? = _ from rfl)).same ((Below.heap_setCell _ _ _ _ (by simp; omega)).trans (Below.heap_setCell _ _ _ _ (by simp; omega)))
              · exact ((hB2.out.drew.setCell (p := ⟨_, _, none⟩) (by simp; omega) _).setCell (p := ⟨_, _, none⟩) (by simp; omega) _)
            case measure => simp [intOf]
        | 3, _, hQ =>
          have kq : Blk wr g8 30 #[.int .i64 b, .int .i64 c, .int .i64 a, .bool q, .bool r, .bool p, .bool true] := hQ.out
          have q0 := kq.cell 0
          simp only [List.getElem?_toArray, List.getElem?_cons_zero, List.getElem?_cons_succ] at q0
          have q1 := kq.cell 1
          simp only [List.getElem?_toArray, List.getElem?_cons_zero, List.getElem?_cons_succ] at q1
          have q2 := kq.cell 2
          simp only [List.getElem?_toArray, List.getElem?_cons_zero, List.getElem?_cons_succ] at q2
          have q3 := kq.cell 3
          simp only [List.getElem?_toArray, List.getElem?_cons_zero, List.getElem?_cons_succ] at q3
          have q4 := kq.cell 4
          simp only [List.getElem?_toArray, List.getElem?_cons_zero, List.getElem?_cons_succ] at q4
          have q5 := kq.cell 5
          simp only [List.getElem?_toArray, List.getElem?_cons_zero, List.getElem?_cons_succ] at q5
          have q6 := kq.cell 6
          simp only [List.getElem?_toArray, List.getElem?_cons_zero, List.getElem?_cons_succ] at q6
          obtain ⟨o, hup, hM3⟩ := upd (t := 115) hM2.out (perm_ok HH.out 3) Tryz.underlying115
          have hup' : (Instr.mapUpdate 115 (.map (some w1.heap.size)) (.agg #[.int .i64 b, .int .i64 c, .int .i64 a, .bool q, .bool r, .bool p, .bool true]) (.bool true)).run Tryz.prog wr = .ok () (Go.ChangeMaps.setBlock wr w1.heap.size o) := hup
          have HM3 := Lib.hid hM3
          clear hup hM3 kq x0 x1 x2 x3 x4 x5 x6
          go_wp2_with fail
          go_roundw
          case rel => exact ⟨4, by omega, rfl, HM3.out, (TurnKeys.heap_setBlock_ne (by omega)).trans hX2.out, below_setBlock hB2.out (by omega)⟩
          case measure => simp [intOf]
    | 4, _, hM =>
      go_wp2_with fail
      obtain ⟨wo, hwo⟩ : ∃ wo : World, wo = (wr.alloc (.cells #[.int .i64 2, .int .i64 0, .int .i64 1] 22)).alloc (.cells #[.int .i64 a, .int .i64 b, .int .i64 c, .bool p, .bool q, .bool r, .bool true] 30) := ⟨_, rfl⟩
      have kq : Blk wo (wr.heap.size + 1) 30 (innerC a b c p q r 4 0) := by rw [hwo]; exact blk1 wr _ _
      have kx : Blk wo w.heap.size 30 #[.int .i64 a, .int .i64 b, .int .i64 c, .bool p, .bool q, .bool r, .bool true] := by rw [hwo]; exact (hX.out.alloc _).alloc _
      have hMo : MapOf wo w1.heap.size (stepK ⟨a, b, c, p, q, r, true⟩ 4) := by rw [hwo]; exact hM.out.same ((Below.heap_alloc _ _ _ (by simp; omega)).trans (Below.heap_alloc _ _ _ hltm))
      have hBo : Below w.heap.size w wo := by rw [hwo]; exact below_alloc (below_alloc hB.out)
      have KO := Lib.hid (And.intro kq (And.intro kx (And.intro hMo hBo)))
      clear kq kx hMo hBo x0 x1 x2 x3 x4 x5 x6
      rw [← hwo]
      clear hwo
      have h8a : w.heap.size < wr.heap.size + 1 := by omega
      have h8b : w1.heap.size < wr.heap.size + 1 := by omega
      have h8c : w.heap.size ≤ w1.heap.size := HB1.out.size
      generalize wr.heap.size + 1 = g8 at *
      go_loopw [28] (fun j wi => ∃ m : Nat, m ≤ 3 ∧ j = .int .i64 m ∧ Hid (Blk wi g8 30 (innerC a b c p q r 4 m)) ∧ Hid (Blk wi w.heap.size 30 #[.int .i64 a, .int .i64 b, .int .i64 c, .bool p, .bool q, .bool r, .bool true]) ∧ Hid (MapOf wi w1.heap.size (stepK ⟨a, b, c, p, q, r, true⟩ 4)) ∧ Hid (Below w.heap.size w wi))
        (fun j _ => 3 - (intOf j).toNat)
      case atStart => exact ⟨0, by omega, rfl, KO.out.1, KO.out.2.1, KO.out.2.2.1, KO.out.2.2.2⟩
      case round =>
        obtain ⟨m, hm, rfl, hQ, hX2, hM2, hB2⟩ := hrel
        have kx := hX2.out
        have hltx2 : w.heap.size < wr.heap.size := kx.lt
        have x0 : wr.cell? ⟨w.heap.size, 0, none⟩ = some (.int .i64 a) := kx.cell 0
        have x1 : wr.cell? ⟨w.heap.size, 1, none⟩ = some (.int .i64 b) := kx.cell 1
        have x2 : wr.cell? ⟨w.heap.size, 2, none⟩ = some (.int .i64 c) := kx.cell 2
        have x3 : wr.cell? ⟨w.heap.size, 3, none⟩ = some (.bool p) := kx.cell 3
        have x4 : wr.cell? ⟨w.heap.size, 4, none⟩ = some (.bool q) := kx.cell 4
        have x5 : wr.cell? ⟨w.heap.size, 5, none⟩ = some (.bool r) := kx.cell 5
        have x6 : wr.cell? ⟨w.heap.size, 6, none⟩ = some (.bool true) := kx.cell 6
        clear kx
        match m, hm, hQ with
        | 0, _, hQ =>
          have kq : Blk wr g8 30 #[.int .i64 a, .int .i64 b, .int .i64 c, .bool p, .bool q, .bool r, .bool true] := hQ.out
          have hltq := kq.lt
          have q0 := kq.cell 0
          have f0 := kq.frozen 0
          simp only [List.getElem?_toArray, List.getElem?_cons_zero, List.getElem?_cons_succ] at q0
          have q3 := kq.cell 3
          have f3 := kq.frozen 3
          simp only [List.getElem?_toArray, List.getElem?_cons_zero, List.getElem?_cons_succ] at q3
          have KQ := Lib.hid kq
          clear kq
          go_wp2_with fail
          go_region
          all_goals
            go_wp2_with fail
            go_roundw
            case rel =>
              refine ⟨1, by omega, rfl, ?_, ?_, ?_, ?_⟩
              · first
                  | exact ((KQ.out.drew.set_ 0 (.int .i64 c)).set_ 3 (.bool r))
                  | exact ((KQ.out.drew.set_ 3 (.bool r)).set_ 0 (.int .i64 c))
              · exact ((hX2.out.drew.far (p := ⟨_, _, none⟩) (by simp; omega) _).far (p := ⟨_, _, none⟩) (by simp; omega) _)
              · exact (hM2.out.same (show wr.drew.heap[w1.heap.size]? = _ from rfl)).same ((Below.heap_setCell _ _ _ _ (by simp; omega)).trans (Below.heap_setCell _ _ _ _ (by simp; omega)))
              · exact ((hB2.out.drew.setCell (p := ⟨_, _, none⟩) (by simp; omega) _).setCell (p := ⟨_, _, none⟩) (by simp; omega) _)
            case measure => simp [intOf]
        | 1, _, hQ =>
          have kq : Blk wr g8 30 #[.int .i64 c, .int .i64 b, .int .i64 c, .bool r, .bool q, .bool r, .bool true] := hQ.out
          have hltq := kq.lt
          have q1 := kq.cell 1
          have f1 := kq.frozen 1
          simp only [List.getElem?_toArray, List.getElem?_cons_zero, List.getElem?_cons_succ] at q1
          have q4 := kq.cell 4
          have f4 := kq.frozen 4
          simp only [List.getElem?_toArray, List.getElem?_cons_zero, List.getElem?_cons_succ] at q4
          have KQ := Lib.hid kq
          clear kq
          go_wp2_with fail
          go_region
          all_goals
            go_wp2_with fail
            go_roundw
            case rel =>
              refine ⟨2, by omega, rfl, ?_, ?_, ?_, ?_⟩
              · first
                  | exact ((KQ.out.drew.set_ 1 (.int .i64 a)).set_ 4 (.bool p))
                  | exact ((KQ.out.drew.set_ 4 (.bool p)).set_ 1 (.int .i64 a))
              · exact ((hX2.out.drew.far (p := ⟨_, _, none⟩) (by simp; omega) _).far (p := ⟨_, _, none⟩) (by simp; omega) _)
              · exact (hM2.out.same (show wr.drew.heap[w1.heap.size]? = _ from rfl)).same ((Below.heap_setCell _ _ _ _ (by simp; omega)).trans (Below.heap_setCell _ _ _ _ (by simp; omega)))
              · exact ((hB2.out.drew.setCell (p := ⟨_, _, none⟩) (by simp; omega) _).setCell (p := ⟨_, _, none⟩) (by simp; omega) _)
            case measure => simp [intOf]
        | 2, _, hQ =>
          have kq : Blk wr g8 30 #[.int .i64 c, .int .i64 a, .int .i64 c, .bool r, .bool p, .bool r, .bool true] := hQ.out
          have hltq := kq.lt
          have q2 := kq.cell 2
          have f2 := kq.frozen 2
          simp only [List.getElem?_toArray, List.getElem?_cons_zero, List.getElem?_cons_succ] at q2
          have q5 := kq.cell 5
          have f5 := kq.frozen 5
          simp only [List.getElem?_toArray, List.getElem?_cons_zero, List.getElem?_cons_succ] at q5
          have KQ := Lib.hid kq
          clear kq
          go_wp2_with fail
          go_region
          all_goals
            go_wp2_with fail
            go_roundw
            case rel =>
              refine ⟨3, by omega, rfl, ?_, ?_, ?_, ?_⟩
              · first
                  | exact ((KQ.out.drew.set_ 2 (.int .i64 b)).set_ 5 (.bool q))
                  | exact ((KQ.out.drew.set_ 5 (.bool q)).set_ 2 (.int .i64 b))
              · exact ((hX2.out.drew.far (p := ⟨_, _, none⟩) (by simp; omega) _).far (p := ⟨_, _, none⟩) (by simp; omega) _)
              · exact (hM2.out.same (show wr.drew.heap[w1.heap.size]? = _ from rfl)).same ((Below.heap_setCell _ _ _ _ (by simp; omega)).trans (Below.heap_setCell _ _ _ _ (by simp; omega)))
              · exact ((hB2.out.drew.setCell (p := ⟨_, _, none⟩) (by simp; omega) _).setCell (p := ⟨_, _, none⟩) (by simp; omega) _)
            case measure => simp [intOf]
        | 3, _, hQ =>
          have kq : Blk wr g8 30 #[.int .i64 c, .int .i64 a, .int .i64 b, .bool r, .bool p, .bool q, .bool true] := hQ.out
          have q0 := kq.cell 0
          simp only [List.getElem?_toArray, List.getElem?_cons_zero, List.getElem?_cons_succ] at q0
          have q1 := kq.cell 1
          simp only [List.getElem?_toArray, List.getElem?_cons_zero, List.getElem?_cons_succ] at q1
          have q2 := kq.cell 2
          simp only [List.getElem?_toArray, List.getElem?_cons_zero, List.getElem?_cons_succ] at q2
          have q3 := kq.cell 3
          simp only [List.getElem?_toArray, List.getElem?_cons_zero, List.getElem?_cons_succ] at q3
          have q4 := kq.cell 4
          simp only [List.getElem?_toArray, List.getElem?_cons_zero, List.getElem?_cons_succ] at q4
          have q5 := kq.cell 5
          simp only [List.getElem?_toArray, List.getElem?_cons_zero, List.getElem?_cons_succ] at q5
          have q6 := kq.cell 6
          simp only [List.getElem?_toArray, List.getElem?_cons_zero, List.getElem?_cons_succ] at q6
          obtain ⟨o, hup, hM3⟩ := upd (t := 115) hM2.out (perm_ok HH.out 4) Tryz.underlying115
          have hup' : (Instr.mapUpdate 115 (.map (some w1.heap.size)) (.agg #[.int .i64 c, .int .i64 a, .int .i64 b, .bool r, .bool p, .bool q, .bool true]) (.bool true)).run Tryz.prog wr = .ok () (Go.ChangeMaps.setBlock wr w1.heap.size o) := hup
          have HM3 := Lib.hid hM3
          clear hup hM3 kq x0 x1 x2 x3 x4 x5 x6
          go_wp2_with fail
          go_roundw
          case rel => exact ⟨5, by omega, rfl, HM3.out, (TurnKeys.heap_setBlock_ne (by omega)).trans hX2.out, below_setBlock hB2.out (by omega)⟩
          case measure => simp [intOf]
    | 5, _, hM =>
      go_wp2_with fail
      obtain ⟨wo, hwo⟩ : ∃ wo : World, wo = (wr.alloc (.cells #[.int .i64 2, .int .i64 1, .int .i64 0] 22)).alloc (.cells #[.int .i64 a, .int .i64 b, .int .i64 c, .bool p, .bool q, .bool r, .bool true] 30) := ⟨_, rfl⟩
      have kq : Blk wo (wr.heap.size + 1) 30 (innerC a b c p q r 5 0) := by rw [hwo]; exact blk1 wr _ _
      have kx : Blk wo w.heap.size 30 #[.int .i64 a, .int .i64 b, .int .i64 c, .bool p, .bool q, .bool r, .bool true] := by rw [hwo]; exact (hX.out.alloc _).alloc _
      have hMo : MapOf wo w1.heap.size (stepK ⟨a, b, c, p, q, r, true⟩ 5) := by rw [hwo]; exact hM.out.same ((Below.heap_alloc _ _ _ (by simp; omega)).trans (Below.heap_alloc _ _ _ hltm))
      have hBo : Below w.heap.size w wo := by rw [hwo]; exact below_alloc (below_alloc hB.out)
      have KO := Lib.hid (And.intro kq (And.intro kx (And.intro hMo hBo)))
      clear kq kx hMo hBo x0 x1 x2 x3 x4 x5 x6
      rw [← hwo]
      clear hwo
      have h8a : w.heap.size < wr.heap.size + 1 := by omega
      have h8b : w1.heap.size < wr.heap.size + 1 := by omega
      have h8c : w.heap.size ≤ w1.heap.size := HB1.out.size
      generalize wr.heap.size + 1 = g8 at *
      go_loopw [28] (fun j wi => ∃ m : Nat, m ≤ 3 ∧ j = .int .i64 m ∧ Hid (Blk wi g8 30 (innerC a b c p q r 5 m)) ∧ Hid (Blk wi w.heap.size 30 #[.int .i64 a, .int .i64 b, .int .i64 c, .bool p, .bool q, .bool r, .bool true]) ∧ Hid (MapOf wi w1.heap.size (stepK ⟨a, b, c, p, q, r, true⟩ 5)) ∧ Hid (Below w.heap.size w wi))
        (fun j _ => 3 - (intOf j).toNat)
      case atStart => exact ⟨0, by omega, rfl, KO.out.1, KO.out.2.1, KO.out.2.2.1, KO.out.2.2.2⟩
      case round =>
        obtain ⟨m, hm, rfl, hQ, hX2, hM2, hB2⟩ := hrel
        have kx := hX2.out
        have hltx2 : w.heap.size < wr.heap.size := kx.lt
        have x0 : wr.cell? ⟨w.heap.size, 0, none⟩ = some (.int .i64 a) := kx.cell 0
        have x1 : wr.cell? ⟨w.heap.size, 1, none⟩ = some (.int .i64 b) := kx.cell 1
        have x2 : wr.cell? ⟨w.heap.size, 2, none⟩ = some (.int .i64 c) := kx.cell 2
        have x3 : wr.cell? ⟨w.heap.size, 3, none⟩ = some (.bool p) := kx.cell 3
        have x4 : wr.cell? ⟨w.heap.size, 4, none⟩ = some (.bool q) := kx.cell 4
        have x5 : wr.cell? ⟨w.heap.size, 5, none⟩ = some (.bool r) := kx.cell 5
        have x6 : wr.cell? ⟨w.heap.size, 6, none⟩ = some (.bool true) := kx.cell 6
        clear kx
        match m, hm, hQ with
        | 0, _, hQ =>
          have kq : Blk wr g8 30 #[.int .i64 a, .int .i64 b, .int .i64 c, .bool p, .bool q, .bool r, .bool true] := hQ.out
          have hltq := kq.lt
          have q0 := kq.cell 0
          have f0 := kq.frozen 0
          simp only [List.getElem?_toArray, List.getElem?_cons_zero, List.getElem?_cons_succ] at q0
          have q3 := kq.cell 3
          have f3 := kq.frozen 3
          simp only [List.getElem?_toArray, List.getElem?_cons_zero, List.getElem?_cons_succ] at q3
          have KQ := Lib.hid kq
          clear kq
          go_wp2_with fail
          go_region
          all_goals
            go_wp2_with fail
            go_roundw
            case rel =>
              refine ⟨1, by omega, rfl, ?_, ?_, ?_, ?_⟩
              · first
                  | exact ((KQ.out.drew.set_ 0 (.int .i64 c)).set_ 3 (.bool r))
                  | exact ((KQ.out.drew.set_ 3 (.bool r)).set_ 0 (.int .i64 c))
              · exact ((hX2.out.drew.far (p := ⟨_, _, none⟩) (by simp; omega) _).far (p := ⟨_, _, none⟩) (by simp; omega) _)
              · exact (hM2.out.same (show wr.drew.heap[w1.heap.size]? = _ from rfl)).same ((Below.heap_setCell _ _ _ _ (by simp; omega)).trans (Below.heap_setCell _ _ _ _ (by simp; omega)))
              · exact ((hB2.out.drew.setCell (p := ⟨_, _, none⟩) (by simp; omega) _).setCell (p := ⟨_, _, none⟩) (by simp; omega) _)
            case measure => simp [intOf]
        | 1, _, hQ =>
          have kq : Blk wr g8 30 #[.int .i64 c, .int .i64 b, .int .i64 c, .bool r, .bool q, .bool r, .bool true] := hQ.out
          have hltq := kq.lt
          have q1 := kq.cell 1
          have f1 := kq.frozen 1
          simp only [List.getElem?_toArray, List.getElem?_cons_zero, List.getElem?_cons_succ] at q1
          have q4 := kq.cell 4
          have f4 := kq.frozen 4
          simp only [List.getElem?_toArray, List.getElem?_cons_zero, List.getElem?_cons_succ] at q4
          have KQ := Lib.hid kq
          clear kq
          go_wp2_with fail
          go_region
          all_goals
            go_wp2_with fail
            go_roundw
            case rel =>
              refine ⟨2, by omega, rfl, ?_, ?_, ?_, ?_⟩
              · first
                  | exact ((KQ.out.drew.set_ 1 (.int .i64 b)).set_ 4 (.bool q))
                  | exact ((KQ.out.drew.set_ 4 (.bool q)).set_ 1 (.int .i64 b))
              · exact ((hX2.out.drew.far (p := ⟨_, _, none⟩) (by simp; omega) _).far (p := ⟨_, _, none⟩) (by simp; omega) _)
              · exact (hM2.out.same (show wr.drew.heap[w1.heap.size]? = _ from rfl)).same ((Below.heap_setCell _ _ _ _ (by simp; omega)).trans (Below.heap_setCell _ _ _ _ (by simp; omega)))
              · exact ((hB2.out.drew.setCell (p := ⟨_, _, none⟩) (by simp; omega) _).setCell (p := ⟨_, _, none⟩) (by simp; omega) _)
            case measure => simp [intOf]
        | 2, _, hQ =>
          have kq : Blk wr g8 30 #[.int .i64 c, .int .i64 b, .int .i64 c, .bool r, .bool q, .bool r, .bool true] := hQ.out
          have hltq := kq.lt
          have q2 := kq.cell 2
          have f2 := kq.frozen 2
          simp only [List.getElem?_toArray, List.getElem?_cons_zero, List.getElem?_cons_succ] at q2
          have q5 := kq.cell 5
          have f5 := kq.frozen 5
          simp only [List.getElem?_toArray, List.getElem?_cons_zero, List.getElem?_cons_succ] at q5
          have KQ := Lib.hid kq
          clear kq
          go_wp2_with fail
          go_region
          all_goals
            go_wp2_with fail
            go_roundw
            case rel =>
              refine ⟨3, by omega, rfl, ?_, ?_, ?_, ?_⟩
              · first
                  | exact ((KQ.out.drew.set_ 2 (.int .i64 a)).set_ 5 (.bool p))
                  | exact ((KQ.out.drew.set_ 5 (.bool p)).set_ 2 (.int .i64 a))
              · exact ((hX2.out.drew.far (p := ⟨_, _, none⟩) (by simp; omega) _).far (p := ⟨_, _, none⟩) (by simp; omega) _)
              · exact (hM2.out.same (show wr.drew.heap[w1.heap.size]? = _ from rfl)).same ((Below.heap_setCell _ _ _ _ (by simp; omega)).trans (Below.heap_setCell _ _ _ _ (by simp; omega)))
              · exact ((hB2.out.drew.setCell (p := ⟨_, _, none⟩) (by simp; omega) _).setCell (p := ⟨_, _, none⟩) (by simp; omega) _)
            case measure => simp [intOf]
        | 3, _, hQ =>
          have kq : Blk wr g8 30 #[.int .i64 c, .int .i64 b, .int .i64 a, .bool r, .bool q, .bool p, .bool true] := hQ.out
          have q0 := kq.cell 0
          simp only [List.getElem?_toArray, List.getElem?_cons_zero, List.getElem?_cons_succ] at q0
          have q1 := kq.cell 1
          simp only [List.getElem?_toArray, List.getElem?_cons_zero, List.getElem?_cons_succ] at q1
          have q2 := kq.cell 2
          simp only [List.getElem?_toArray, List.getElem?_cons_zero, List.getElem?_cons_succ] at q2
          have q3 := kq.cell 3
          simp only [List.getElem?_toArray, List.getElem?_cons_zero, List.getElem?_cons_succ] at q3
          have q4 := kq.cell 4
          simp only [List.getElem?_toArray, List.getElem?_cons_zero, List.getElem?_cons_succ] at q4
          have q5 := kq.cell 5
          simp only [List.getElem?_toArray, List.getElem?_cons_zero, List.getElem?_cons_succ] at q5
          have q6 := kq.cell 6
          simp only [List.getElem?_toArray, List.getElem?_cons_zero, List.getElem?_cons_succ] at q6
          obtain ⟨o, hup, hM3⟩ := upd (t := 115) hM2.out (perm_ok HH.out 5) Tryz.underlying115
          have hup' : (Instr.mapUpdate 115 (.map (some w1.heap.size)) (.agg #[.int .i64 c, .int .i64 b, .int .i64 a, .bool r, .bool q, .bool p, .bool true]) (.bool true)).run Tryz.prog wr = .ok () (Go.ChangeMaps.setBlock wr w1.heap.size o) := hup
          have HM3 := Lib.hid hM3
          clear hup hM3 kq x0 x1 x2 x3 x4 x5 x6
          go_wp2_with fail
          go_roundw
          case rel => exact ⟨6, by omega, rfl, HM3.out, (TurnKeys.heap_setBlock_ne (by omega)).trans hX2.out, below_setBlock hB2.out (by omega)⟩
          case measure => simp [intOf]
    | 6, _, hM =>
      clear x0 x1 x2 x3 x4 x5 x6
      go_wp2_with fail
      refine ((callsIn_wide (n := 5)).1 (TurnKeys.keys_in Fence.wide 5 trivial rfl w1.heap.size _)).mono ?_
      rintro e w4 ⟨rfl, rfl⟩
      go_wp2_with fail
      have hMa := (hM.out.same (Below.heap_alloc wr (.cells #[.map (some w1.heap.size)] 115) _ hltm))
      have hS := sortedFunc_any wr.heap.size w1.heap.size (stepK ⟨a, b, c, p, q, r, true⟩ 6) (wr.alloc (.cells #[.map (some w1.heap.size)] 115)) (by simp) (box0 wr _ _ 0) hMa (stepK_len _ _)
        (fun e => by have := (stepK_six ⟨a, b, c, p, q, r, true⟩ ⟨a, b, c, p, q, r, true⟩).2 (mem_rots.2 ⟨0, by omega, rfl⟩); rw [e] at this; cases this)
        (fun x hx y hy => by rw [(rots_ok HH.out ((stepK_six _ _).1 hx)).2, (rots_ok HH.out ((stepK_six _ _).1 hy)).2])
      have HS := Lib.hid hS
      clear hS hMa
      refine HS.out.mono ?_
      rintro e w5 ⟨v, l, rfl, hr, hm, hW, hB5⟩
      have HR := Lib.hid (And.intro hr (And.intro hm (And.intro hW hB5)))
      clear hr hm hW hB5 HS
      go_wp2_with fail
      go_ret2
      have e1 : l = allL ⟨a, b, c, p, q, r, true⟩ := allL_of HH.out rfl HR.out.1 fun x => (HR.out.2.1 x).trans (stepK_six _ _)
      obtain ⟨_, _, ⟨g, cap, hv, hg, h1, h2, h3⟩, hB5⟩ := HR.out
      rw [e1] at hv h1 h3
      refine ⟨_, rfl, ⟨g, cap, hv, ?_, h1, h2, h3⟩, below_up (below_alloc hB.out) hB5⟩
      rw [World.size_alloc] at hg
      have := hB.out.size
      omega
/-- turn.All, for all wants. -/
theorem all_any (x : WV) (w : World) : Calls Tryz.prog 67 #[.agg x.arr] w fun e w' => ∃ v n, e = .returned (.tuple #[v, .int .i64 n]) ∧ AllRes w w' x v n ∧ Below w.heap.size w w' := by
  obtain ⟨a, b, c, p, q, r, tn⟩ := x
  by_cases h : WOk ⟨a, b, c, p, q, r, tn⟩
  · cases tn
    · refine (all_one a b c p q r h w).mono ?_
      rintro e w' ⟨v, rfl, hW, hB⟩
      exact ⟨v, 0, rfl, .inl ⟨h, rfl, by simpa [allL] using hW⟩, hB⟩
    · refine (all_six a b c p q r h w).mono ?_
      rintro e w' ⟨v, rfl, hW, hB⟩
      exact ⟨v, 0, rfl, .inl ⟨h, rfl, hW⟩, hB⟩
  · refine (all_bad a b c p q r tn h w).mono ?_
    rintro e w' ⟨rfl, hB⟩
    exact ⟨_, 8, rfl, .inr ⟨h, rfl, rfl⟩, hB⟩
end Go.Proofs.YtfpljpdjohmbaaaGreat.TurnAll
/-! turn.Fits: for all wants and dimensions. -/
namespace Go.Proofs.YtfpljpdjohmbaaaGreat.TurnFitsV
open Go.RowKit Mem PosMath PosCheck TurnMath TurnWalks TurnMap TurnSorted TurnAll
set_option linter.unusedVariables false
set_option linter.unusedSimpArgs false

/-- A slice of wants, wherever it lies. -/
def Has (w : World) (X : Option Addr) (l : List WV) : Prop := ∀ (i : Nat) (x : WV), l[i]? = some x → ∃ b o, X = some ⟨b, o, none⟩ ∧ b < w.heap.size ∧
  w.cell? ⟨b, o + i * 7, none⟩ = some (.int .i64 x.a) ∧ w.cell? ⟨b, o + i * 7 + 1, none⟩ = some (.int .i64 x.b) ∧ w.cell? ⟨b, o + i * 7 + 2, none⟩ = some (.int .i64 x.c) ∧ w.cell? ⟨b, o + i * 7 + 3, none⟩ = some (.bool x.p) ∧ w.cell? ⟨b, o + i * 7 + 4, none⟩ = some (.bool x.q) ∧ w.cell? ⟨b, o + i * 7 + 5, none⟩ = some (.bool x.r) ∧ w.cell? ⟨b, o + i * 7 + 6, none⟩ = some (.bool x.tn)
theorem Has.nil {w : World} {X : Option Addr} : Has w X [] := fun i x h => by simp at h
theorem Has.up {w w' : World} {X : Option Addr} {l : List WV} (h : Has w X l) (hB : Below w.heap.size w w') : Has w' X l := fun i x hi => by
  obtain ⟨b, o, e, hb, x0, x1, x2, x3, x4, x5, x6⟩ := h i x hi
  exact ⟨b, o, e, Nat.lt_of_lt_of_le hb hB.size, keep_cell x0 hB, keep_cell x1 hB, keep_cell x2 hB, keep_cell x3 hB, keep_cell x4 hB, keep_cell x5 hB, keep_cell x6 hB⟩
theorem wsl_has {w : World} {B : Nat} {v : Value} {l : List WV} (h : WSl w B v l) : ∃ X cap, v = .slice X l.length cap ∧ l.length ≤ cap ∧ cap ≤ maxLen ∧ Has w X l := by
  obtain ⟨g, cap, e, hb, hc, hm, hx⟩ := h
  refine ⟨_, cap, e, hc, hm, fun i x hi => ⟨g, 0, rfl, ?_, ?_, ?_, ?_, ?_, ?_, ?_, ?_⟩⟩
  · exact cell_lt (hx i x hi 0 _ rfl)
  · simpa using hx i x hi 0 _ rfl
  · simpa using hx i x hi 1 _ rfl
  · simpa using hx i x hi 2 _ rfl
  · simpa using hx i x hi 3 _ rfl
  · simpa using hx i x hi 4 _ rfl
  · simpa using hx i x hi 5 _ rfl
  · simpa using hx i x hi 6 _ rfl
/-- An index: the first of those that are so, or -1. -/
def IdxOf (l : List WV) (f : WV → Bool) (r : Int) : Prop := (r = -1 ∧ ∀ x ∈ l, f x = false) ∨ (∃ k x, r = (k : Nat) ∧ l[k]? = some x ∧ f x = true)
set_option maxRecDepth 100000 in
set_option maxHeartbeats 4000000 in
theorem indexFunc_any (X : Option Addr) (cap : Nat) (l : List WV) (f : WV → Bool) (fn : Nat) (lb : Array Value) (hl : l.length ≤ 100) (w : World) (hk : Has w X l) (eg : ∀ args w, (callFunc fn args).run Tryz.prog w = .ok (.enter fn args) w)
    (hf : ∀ x ∈ l, ∀ w', Below w.heap.size w w' → Calls Tryz.prog fn (#[.agg x.arr] ++ lb) w' fun e w'' => e = .returned (.bool (f x)) ∧ Below w'.heap.size w' w'') :
    Calls Tryz.prog 84 #[.slice X l.length cap, .func (.func fn) #[] lb] w fun e w' => ∃ r : Int, e = .returned (.int .i64 r) ∧ IdxOf l f r ∧ Below w.heap.size w w' := by
  have HK := Lib.hid hk
  have HFn := Lib.hid hf
  clear hk hf
  go_enter Tryz.func84, Tryz.ntmps84
  go_wp2_with fail
  go_loopw [8] (fun i wr => ∃ k : Nat, k ≤ l.length ∧ i = .int .i64 k ∧ Hid (∀ j x, j < k → l[j]? = some x → f x = false) ∧ Hid (Below w.heap.size w wr))
    (fun i _ => l.length - (intOf i).toNat)
  case atStart => exact ⟨0, Nat.zero_le _, rfl, fun j x h => by omega, Below.refl _ _⟩
  case round =>
    obtain ⟨k, hk, rfl, hP, hB⟩ := hrel
    by_cases hlt : k < l.length
    · skip
      have hg : l[k]? = some l[k] := List.getElem?_eq_getElem hlt
      generalize l[k] = x at hg
      obtain ⟨b, o, rfl, hb, y0, y1, y2, y3, y4, y5, y6⟩ := (HK.out.up hB.out) k x hg
      have hki : (k : Int) < (l.length : Int) := by omega
      have HG := Lib.hid hg
      clear hg
      have hc := HFn.out x (List.mem_of_getElem? HG.out) wr hB.out
      have HC := Lib.hid hc
      clear hc
      cases hfx : f x
      · have HF := Lib.hid hfx
        rw [hfx] at HC
        clear hfx
        unfold WV.arr at HC
        go_wp2_with fail
        refine HC.out.mono ?_
        rintro e w1 ⟨rfl, hB1⟩
        have HB1 := Lib.hid (below_up hB.out hB1)
        clear hB1 y0 y1 y2 y3 y4 y5 y6
        go_wp2_with fail
        go_roundw
        case rel => exact ⟨k + 1, by omega, by go_num, fun j z hj hz => by
            rcases Nat.lt_or_ge j k with h | h
            · exact hP.out j z h hz
            · obtain rfl : j = k := by omega
              rw [HG.out] at hz; cases hz; exact HF.out, HB1.out⟩
        case measure => simp [intOf]; omega
      · have HF := Lib.hid hfx
        rw [hfx] at HC
        clear hfx
        unfold WV.arr at HC
        go_wp2_with fail
        refine HC.out.mono ?_
        rintro e w1 ⟨rfl, hB1⟩
        have HB1 := Lib.hid (below_up hB.out hB1)
        clear hB1 y0 y1 y2 y3 y4 y5 y6
        go_wp2_with fail
        go_ret
        exact ⟨_, rfl, .inr ⟨k, x, rfl, HG.out, HF.out⟩, HB1.out⟩
    · obtain rfl : k = l.length := by omega
      go_wp2_with fail
      go_ret
      refine ⟨_, rfl, .inl ⟨rfl, fun x hx => ?_⟩, hB.out⟩
      obtain ⟨j, hj, e⟩ := List.mem_iff_getElem.1 hx
      exact hP.out j x hj (by rw [List.getElem?_eq_getElem hj, e])
theorem any_of {l : List WV} {f : WV → Bool} {r : Int} (h : IdxOf l f r) : decide (0 ≤ r) = l.any f := by
  rcases h with ⟨rfl, h⟩ | ⟨k, x, rfl, hk, hx⟩
  · have : l.any f = false := by
      rw [List.any_eq_false]
      intro x hx
      simp [h x hx]
    rw [this]; decide
  · have : l.any f = true := List.any_eq_true.2 ⟨x, List.mem_of_getElem? hk, hx⟩
    rw [this]; simp
theorem containsFunc_any (X : Option Addr) (cap : Nat) (l : List WV) (f : WV → Bool) (fn : Nat) (lb : Array Value) (hl : l.length ≤ 100) (w : World) (hk : Has w X l) (eg : ∀ args w, (callFunc fn args).run Tryz.prog w = .ok (.enter fn args) w)
    (hf : ∀ x ∈ l, ∀ w', Below w.heap.size w w' → Calls Tryz.prog fn (#[.agg x.arr] ++ lb) w' fun e w'' => e = .returned (.bool (f x)) ∧ Below w'.heap.size w' w'') :
    Calls Tryz.prog 68 #[.slice X l.length cap, .func (.func fn) #[] lb] w fun e w' => e = .returned (.bool (l.any f)) ∧ Below w.heap.size w w' := by
  have H := Lib.hid (indexFunc_any X cap l f fn lb hl w hk eg hf)
  clear hk hf
  go_enter Tryz.func68, Tryz.ntmps68
  go_wp2_with fail
  refine H.out.mono ?_
  rintro e w1 ⟨r, rfl, hr, hB⟩
  have hd := any_of hr
  have HB := Lib.hid (And.intro hd hB)
  clear hr hB hd
  go_wp2_with fail
  go_ret
  rw [← HB.out.1]
  exact ⟨rfl, HB.out.2⟩
def fitB (d0 d1 d2 : Int) (x : WV) : Bool := decide (x.a ≤ d0) && decide (x.b ≤ d1) && decide (x.c ≤ d2)
theorem fit_any (g : Nat) (d0 d1 d2 : Int) (x : WV) (w : World) (c0 : w.cell? ⟨g, 0, none⟩ = some (.int .i64 d0)) (c1 : w.cell? ⟨g, 1, none⟩ = some (.int .i64 d1)) (c2 : w.cell? ⟨g, 2, none⟩ = some (.int .i64 d2)) :
    Calls Tryz.prog 69 #[.agg x.arr, .pointer (some ⟨g, 0, none⟩)] w fun e w' => e = .returned (.bool (fitB d0 d1 d2 x)) ∧ Below w.heap.size w w' := by
  obtain ⟨a, b, c, p, q, r, tn⟩ := x
  unfold WV.arr fitB
  dsimp only
  have hg := cell_lt c0
  by_cases h0 : a ≤ d0
  · by_cases h1 : b ≤ d1
    · by_cases h2 : c ≤ d2
      · have e : (decide (a ≤ d0) && decide (b ≤ d1) && decide (c ≤ d2)) = true := by simp [h0, h1, h2]
        rw [e]
        go_enter Tryz.func69, Tryz.ntmps69
        go_wp2_with fail
        go_ret
        exact ⟨rfl, below_alloc (Below.refl _ _)⟩
      · have e : (decide (a ≤ d0) && decide (b ≤ d1) && decide (c ≤ d2)) = false := by simp [h2]
        rw [e]
        go_enter Tryz.func69, Tryz.ntmps69
        go_wp2_with fail
        go_ret
        exact ⟨rfl, below_alloc (Below.refl _ _)⟩
    · have e : (decide (a ≤ d0) && decide (b ≤ d1) && decide (c ≤ d2)) = false := by simp [h1]
      rw [e]
      go_enter Tryz.func69, Tryz.ntmps69
      go_wp2_with fail
      go_ret
      exact ⟨rfl, below_alloc (Below.refl _ _)⟩
  · have e : (decide (a ≤ d0) && decide (b ≤ d1) && decide (c ≤ d2)) = false := by simp [h0]
    rw [e]
    go_enter Tryz.func69, Tryz.ntmps69
    go_wp2_with fail
    go_ret
    exact ⟨rfl, below_alloc (Below.refl _ _)⟩
def fitsV (d0 d1 d2 : Int) (x : WV) : Bool × Int := if May d0 d1 d2 ∧ WOk x then ((allL x).any (fitB d0 d1 d2), 0) else (false, 8)
theorem allL_len {x : WV} : (allL x).length ≤ 6 := by
  have h : ∀ (xs l : List WV), (xs.foldl (fun l x => put x l) l).length ≤ l.length + xs.length := by
    intro xs
    induction xs with
    | nil => intro l; simp
    | cons y ys ih =>
      intro l
      have hp : ∀ l : List WV, (put y l).length ≤ l.length + 1 := by
        intro l
        induction l with
        | nil => simp [put]
        | cons z l ih2 =>
          unfold put
          split
          · simp
          · split
            · simp
            · simp only [List.length_cons]; omega
      have h1 := ih (put y l)
      have h2 := hp l
      simp only [List.foldl_cons, List.length_cons]
      omega
  unfold allL
  split
  · exact h (rots x) []
  · simp
set_option maxRecDepth 100000 in
set_option maxHeartbeats 4000000 in
theorem fits_any (d0 d1 d2 : Int) (x : WV) (w : World) :
    Calls Tryz.prog 43 #[.agg #[.int .i64 d0, .int .i64 d1, .int .i64 d2], .agg x.arr] w fun e w' => e = .returned (.tuple #[.bool (fitsV d0 d1 d2 x).1, .int .i64 (fitsV d0 d1 d2 x).2]) ∧ Below w.heap.size w w' := by
  have HA := Lib.hid (all_any x)
  obtain ⟨V, hV⟩ : ∃ V, V = fitsV d0 d1 d2 x := ⟨_, rfl⟩
  rw [← hV]
  by_cases hd : May d0 d1 d2
  · have HD := Lib.hid hd
    have HV := Lib.hid hV
    have HX : Hid (x.arr = #[.int .i64 x.a, .int .i64 x.b, .int .i64 x.c, .bool x.p, .bool x.q, .bool x.r, .bool x.tn]) := rfl
    clear hd hV
    unfold WV.arr at HA ⊢
    go_enter Tryz.func43, Tryz.ntmps43
    go_wp2_with fail
    refine (check_ok d0 d1 d2 HD.out _).mono ?_
    rintro e w1 ⟨rfl, hB1⟩
    have kd : Blk w1 w.heap.size 23 #[.int .i64 d0, .int .i64 d1, .int .i64 d2] := ((Blk.new w _ _).alloc _).below hB1 (by simp; omega)
    have kx : Blk w1 (w.heap.size + 1) 30 #[.int .i64 x.a, .int .i64 x.b, .int .i64 x.c, .bool x.p, .bool x.q, .bool x.r, .bool x.tn] := (blk1 w _ _).below hB1 (by simp)
    have HB1 := Lib.hid (below_up (below_alloc (below_alloc (Below.refl _ w))) hB1)
    have KD := Lib.hid kd
    have x0 : w1.cell? ⟨w.heap.size + 1, 0, none⟩ = some (.int .i64 x.a) := kx.cell 0
    have x1 : w1.cell? ⟨w.heap.size + 1, 1, none⟩ = some (.int .i64 x.b) := kx.cell 1
    have x2 : w1.cell? ⟨w.heap.size + 1, 2, none⟩ = some (.int .i64 x.c) := kx.cell 2
    have x3 : w1.cell? ⟨w.heap.size + 1, 3, none⟩ = some (.bool x.p) := kx.cell 3
    have x4 : w1.cell? ⟨w.heap.size + 1, 4, none⟩ = some (.bool x.q) := kx.cell 4
    have x5 : w1.cell? ⟨w.heap.size + 1, 5, none⟩ = some (.bool x.r) := kx.cell 5
    have x6 : w1.cell? ⟨w.heap.size + 1, 6, none⟩ = some (.bool x.tn) := kx.cell 6
    clear hB1 kd kx
    go_wp2_with fail
    refine (HA.out _).mono ?_
    rintro e w2 ⟨v, n, rfl, hr, hB2⟩
    have HB2 := Lib.hid (below_up HB1.out hB2)
    have kd := KD.out.below hB2 KD.out.lt
    obtain ⟨l, X, cap, rfl, hl, hh, hlv, hn⟩ : ∃ (l : List WV) (X : Option Addr) (cap : Nat), v = .slice X l.length cap ∧ l.length ≤ 100 ∧ Has w2 X l ∧ l.any (fitB d0 d1 d2) = V.1 ∧ n = V.2 := by
      rcases hr with ⟨hok, rfl, hW⟩ | ⟨hbad, rfl, rfl⟩
      · obtain ⟨X, cap, e, _, _, hh⟩ := wsl_has hW
        have hlen := allL_len (x := x)
        have ev : V = ((allL x).any (fitB d0 d1 d2), 0) := by rw [HV.out]; exact if_pos ⟨HD.out, hok⟩
        exact ⟨_, X, cap, e, by omega, hh, by rw [ev], by rw [ev]⟩
      · have ev : V = (false, 8) := by rw [HV.out]; exact if_neg fun h => hbad h.2
        exact ⟨[], none, 0, rfl, by simp, Has.nil, by rw [ev]; rfl, by rw [ev]⟩
    have hc := containsFunc_any X cap l (fitB d0 d1 d2) 69 #[.pointer (some ⟨w.heap.size, 0, none⟩)] hl w2 hh (enters_of Tryz.func69 (by kernel_rfl) rfl)
      (fun x hx w' hB => fit_any w.heap.size d0 d1 d2 x w' (keep_cell (kd.cell 0) hB) (keep_cell (kd.cell 1) hB) (keep_cell (kd.cell 2) hB))
    rw [hlv] at hc
    have HC := Lib.hid (And.intro hc hn)
    clear hc hh hr hB2 x0 x1 x2 x3 x4 x5 x6 kd hlv hn
    go_wp2_with fail
    refine HC.out.1.mono ?_
    rintro e w3 ⟨rfl, hB3⟩
    have HB3 := Lib.hid (below_up HB2.out hB3)
    clear hB3
    go_wp2_with fail
    go_ret2
    rw [HC.out.2]
    exact ⟨rfl, HB3.out⟩
  · have ev : V = (false, 8) := by rw [hV]; exact if_neg fun h => hd h.1
    rw [ev]
    have HD := Lib.hid hd
    clear hd hV ev HA
    unfold WV.arr
    go_enter Tryz.func43, Tryz.ntmps43
    go_wp2_with fail
    refine (check_bad d0 d1 d2 HD.out _).mono ?_
    rintro e w1 ⟨rfl, hB1⟩
    have HB1 := Lib.hid (below_up (below_alloc (below_alloc (Below.refl _ w))) hB1)
    clear hB1
    go_wp2_with fail
    go_ret2
    exact ⟨rfl, HB1.out⟩
end Go.Proofs.YtfpljpdjohmbaaaGreat.TurnFitsV
