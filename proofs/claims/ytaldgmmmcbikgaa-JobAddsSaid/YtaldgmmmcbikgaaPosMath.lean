/- Plain arithmetic of a torus of midplanes: coordinates and numbers, steps round and round, how far two are apart. No program in sight. -/
import Derived.Below
namespace Go.Proofs.Ytaldgmmmcbikgaa.PosMath

/-- Dimensions may be. -/
def May (a b c : Int) : Prop := (1 ≤ a ∧ a ≤ 16) ∧ (1 ≤ b ∧ b ≤ 16) ∧ (1 ≤ c ∧ c ≤ 16)
instance (a b c : Int) : Decidable (May a b c) := by unfold May; infer_instance
def num (a b c : Int) : Int := a * b * c
/-- The midplane at coordinates. -/
def at_ (a b x y z : Int) : Int := x + a * y + a * b * z
def cx (a m : Int) : Int := m % a
def cy (a b m : Int) : Int := m / a % b
def cz (a b c m : Int) : Int := m / (a * b) % c

theorem cz_eq {a b c m : Int} (h : May a b c) (h0 : 0 ≤ m) (h1 : m < num a b c) : cz a b c m = m / a / b := by
  obtain ⟨⟨ha, _⟩, ⟨hb, _⟩, ⟨hc, _⟩⟩ := h
  unfold cz num at *
  have hab : 0 < a * b := Int.mul_pos (by omega) (by omega)
  have h2 : m / (a * b) < c := Int.ediv_lt_of_lt_mul hab (by rw [Int.mul_comm]; exact h1)
  have h3 : 0 ≤ m / (a * b) := Int.ediv_nonneg h0 (by omega)
  rw [Int.emod_eq_of_lt h3 h2, Int.ediv_ediv_of_nonneg (by omega)]

theorem cx_range {a m : Int} (ha : 1 ≤ a) : 0 ≤ cx a m ∧ cx a m < a := ⟨Int.emod_nonneg _ (by omega), Int.emod_lt_of_pos _ (by omega)⟩
theorem cy_range {a b m : Int} (hb : 1 ≤ b) : 0 ≤ cy a b m ∧ cy a b m < b := ⟨Int.emod_nonneg _ (by omega), Int.emod_lt_of_pos _ (by omega)⟩
theorem cz_range {a b c m : Int} (hc : 1 ≤ c) : 0 ≤ cz a b c m ∧ cz a b c m < c := ⟨Int.emod_nonneg _ (by omega), Int.emod_lt_of_pos _ (by omega)⟩

theorem at_of {a b c m : Int} (h : May a b c) (h0 : 0 ≤ m) (h1 : m < num a b c) : at_ a b (cx a m) (cy a b m) (cz a b c m) = m := by
  rw [cz_eq h h0 h1]
  unfold at_ cx cy
  have e1 := Int.emod_add_mul_ediv m a
  have e2 := Int.emod_add_mul_ediv (m / a) b
  rw [Int.mul_assoc, Int.add_assoc, ← Int.mul_add, e2, e1]

theorem at_range {a b c x y z : Int} (h : May a b c) (hx : 0 ≤ x ∧ x < a) (hy : 0 ≤ y ∧ y < b) (hz : 0 ≤ z ∧ z < c) : 0 ≤ at_ a b x y z ∧ at_ a b x y z < num a b c := by
  obtain ⟨⟨ha, _⟩, ⟨hb, _⟩, ⟨hc, _⟩⟩ := h
  unfold at_ num
  have h1 : 0 ≤ a * y := Int.mul_nonneg (by omega) (by omega)
  have h2 : 0 ≤ a * b * z := Int.mul_nonneg (Int.mul_nonneg (by omega) (by omega)) (by omega)
  have h3 : a * y ≤ a * (b - 1) := Int.mul_le_mul_of_nonneg_left (by omega) (by omega)
  have h4 : a * b * z ≤ a * b * (c - 1) := Int.mul_le_mul_of_nonneg_left (by omega) (Int.mul_nonneg (by omega) (by omega))
  rw [Int.mul_sub, Int.mul_one] at h3 h4
  omega

theorem cx_at {a b c x y z : Int} (_h : May a b c) (hx : 0 ≤ x ∧ x < a) : cx a (at_ a b x y z) = x := by
  unfold cx at_
  rw [Int.mul_assoc, Int.add_mul_emod_self_left, Int.add_mul_emod_self_left]
  exact Int.emod_eq_of_lt hx.1 hx.2
theorem at_div {a b x y z : Int} (hx : 0 ≤ x ∧ x < a) : at_ a b x y z / a = y + b * z := by
  unfold at_
  rw [Int.mul_assoc, Int.add_assoc, ← Int.mul_add, Int.add_mul_ediv_left _ _ (by omega), Int.ediv_eq_zero_of_lt hx.1 hx.2, Int.zero_add]
theorem cy_at {a b c x y z : Int} (_h : May a b c) (hx : 0 ≤ x ∧ x < a) (hy : 0 ≤ y ∧ y < b) : cy a b (at_ a b x y z) = y := by
  unfold cy
  rw [at_div hx, Int.add_mul_emod_self_left]
  exact Int.emod_eq_of_lt hy.1 hy.2
theorem cz_at {a b c x y z : Int} (h : May a b c) (hx : 0 ≤ x ∧ x < a) (hy : 0 ≤ y ∧ y < b) (hz : 0 ≤ z ∧ z < c) : cz a b c (at_ a b x y z) = z := by
  have hr := at_range h hx hy hz
  rw [cz_eq h hr.1 hr.2, at_div hx, Int.add_mul_ediv_left _ _ (by omega), Int.ediv_eq_zero_of_lt hy.1 hy.2, Int.zero_add]

/-- One coordinate, some steps on. -/
def stp (p n k : Int) : Int := (p + k) % n
theorem tmod_step {p n k : Int} : (p + k.tmod n + n) % n = stp p n k := by
  unfold stp
  have h1 : k = n * k.tdiv n + k.tmod n := (Int.mul_tdiv_add_tmod k n).symm
  conv => rhs; rw [h1]
  rw [show p + (n * k.tdiv n + k.tmod n) = p + k.tmod n + n * k.tdiv n from by omega, Int.add_mul_emod_self_left, Int.add_emod_right]
theorem tmod_range {n k : Int} (hn : 1 ≤ n) : -n < k.tmod n ∧ k.tmod n < n := by
  have h1 := Int.tmod_lt_of_pos k (show 0 < n by omega)
  have h2 := Int.tmod_lt_of_pos (-k) (show 0 < n by omega)
  rw [Int.neg_tmod] at h2
  omega
theorem stp_range {p n k : Int} (hn : 1 ≤ n) : 0 ≤ stp p n k ∧ stp p n k < n := ⟨Int.emod_nonneg _ (by omega), Int.emod_lt_of_pos _ (by omega)⟩
theorem stp_stp (p n j k : Int) : stp (stp p n j) n k = stp p n (j + k) := by
  unfold stp; rw [Int.emod_add_emod, Int.add_assoc]
theorem stp_zero {p n : Int} (hp : 0 ≤ p ∧ p < n) : stp p n 0 = p := by unfold stp; rw [Int.add_zero]; exact Int.emod_eq_of_lt hp.1 hp.2
theorem stp_home {p n k : Int} (hp : 0 ≤ p ∧ p < n) : stp (stp p n k) n (-k) = p := by rw [stp_stp, Int.add_right_neg, stp_zero hp]
theorem stp_round {p n : Int} (hp : 0 ≤ p ∧ p < n) : stp p n n = p := by unfold stp; rw [Int.add_emod_right]; exact Int.emod_eq_of_lt hp.1 hp.2

/-- How far two are apart along one axis. -/
def dist (p q n : Int) : Int := if n - (q - p + n) % n < (q - p + n) % n then n - (q - p + n) % n else (q - p + n) % n
theorem upto16 {n : Int} (h : 1 ≤ n ∧ n ≤ 16) : n = 1 ∨ n = 2 ∨ n = 3 ∨ n = 4 ∨ n = 5 ∨ n = 6 ∨ n = 7 ∨ n = 8 ∨ n = 9 ∨ n = 10 ∨ n = 11 ∨ n = 12 ∨ n = 13 ∨ n = 14 ∨ n = 15 ∨ n = 16 := by omega
/-- Of two numbers below n, what is left of their difference: two cases. -/
theorem diff_mod {p q n : Int} (hp : 0 ≤ p ∧ p < n) (hq : 0 ≤ q ∧ q < n) : (p ≤ q ∧ (q - p + n) % n = q - p) ∨ (q < p ∧ (q - p + n) % n = q - p + n) := by
  by_cases h : p ≤ q
  · refine .inl ⟨h, ?_⟩
    rw [Int.add_emod_right]; exact Int.emod_eq_of_lt (by omega) (by omega)
  · exact .inr ⟨by omega, Int.emod_eq_of_lt (by omega) (by omega)⟩
theorem dist_range {p q n : Int} (hp : 0 ≤ p ∧ p < n) (hq : 0 ≤ q ∧ q < n) : 0 ≤ dist p q n ∧ dist p q n ≤ n := by
  unfold dist
  rcases diff_mod hp hq with ⟨_, e⟩ | ⟨_, e⟩ <;> rw [e] <;> split <;> omega
theorem dist_comm {p q n : Int} (hp : 0 ≤ p ∧ p < n) (hq : 0 ≤ q ∧ q < n) : dist p q n = dist q p n := by
  unfold dist
  rcases diff_mod hp hq with ⟨_, e⟩ | ⟨_, e⟩ <;> rcases diff_mod hq hp with ⟨_, f⟩ | ⟨_, f⟩ <;> rw [e, f] <;> split <;> split <;> omega
theorem dist_zero {p q n : Int} (hp : 0 ≤ p ∧ p < n) (hq : 0 ≤ q ∧ q < n) : dist p q n = 0 ↔ p = q := by
  unfold dist
  rcases diff_mod hp hq with ⟨_, e⟩ | ⟨_, e⟩ <;> rw [e] <;> split <;> omega
theorem dist_tri {p q r n : Int} (hp : 0 ≤ p ∧ p < n) (hq : 0 ≤ q ∧ q < n) (hr : 0 ≤ r ∧ r < n) : dist p r n ≤ dist p q n + dist q r n := by
  unfold dist
  rcases diff_mod hp hq with ⟨_, e⟩ | ⟨_, e⟩ <;> rcases diff_mod hq hr with ⟨_, f⟩ | ⟨_, f⟩ <;> rcases diff_mod hp hr with ⟨_, g⟩ | ⟨_, g⟩ <;> rw [e, f, g] <;> split <;> split <;> split <;> omega
theorem dist_self {p n : Int} (hp : 0 ≤ p ∧ p < n) : dist p p n = 0 := (dist_zero hp hp).2 rfl
/-- One step on. -/
theorem dist_step {p n : Int} (hp : 0 ≤ p ∧ p < n) : dist p (stp p n 1) n = if 1 < n then 1 else 0 := by
  by_cases h : p + 1 < n
  · have e : stp p n 1 = p + 1 := Int.emod_eq_of_lt (by omega) h
    have hq : 0 ≤ p + 1 ∧ p + 1 < n := ⟨by omega, h⟩
    rw [e]; unfold dist
    rcases diff_mod hp hq with ⟨_, e⟩ | ⟨_, e⟩ <;> rw [e] <;> split <;> split <;> omega
  · have e : stp p n 1 = 0 := by unfold stp; rw [show p + 1 = n from by omega]; exact Int.emod_self
    have hq : 0 ≤ (0 : Int) ∧ 0 < n := ⟨by omega, by omega⟩
    rw [e]; unfold dist
    rcases diff_mod hp hq with ⟨_, e⟩ | ⟨_, e⟩ <;> rw [e] <;> split <;> split <;> omega
/-- Steps on and back lead there just from that distance on: the search's end. -/
theorem dist_least {p q n k : Int} (hp : 0 ≤ p ∧ p < n) (hq : 0 ≤ q ∧ q < n) (hk0 : 0 ≤ k) (hk : k < dist p q n) : stp p n k ≠ q ∧ stp p n (-k) ≠ q := by
  have hd := dist_range hp hq
  have h1 : (p + k < n ∧ stp p n k = p + k) ∨ (n ≤ p + k ∧ stp p n k = p + k - n) := by
    by_cases h : p + k < n
    · exact .inl ⟨h, Int.emod_eq_of_lt (by omega) h⟩
    · refine .inr ⟨by omega, ?_⟩
      unfold stp
      rw [show p + k = p + k - n + n from by omega, Int.add_emod_right, Int.add_sub_cancel]
      exact Int.emod_eq_of_lt (by omega) (by omega)
  have h2 : (0 ≤ p - k ∧ stp p n (-k) = p - k) ∨ (p - k < 0 ∧ stp p n (-k) = p - k + n) := by
    by_cases h : 0 ≤ p - k
    · exact .inl ⟨h, Int.emod_eq_of_lt (by omega) (by omega)⟩
    · refine .inr ⟨by omega, ?_⟩
      unfold stp
      rw [← Int.add_emod_right, show p + -k + n = p - k + n from by omega]
      exact Int.emod_eq_of_lt (by omega) (by omega)
  unfold dist at hk
  rcases diff_mod hp hq with ⟨_, e⟩ | ⟨_, e⟩ <;> rw [e] at hk <;> split at hk <;> rcases h1 with ⟨_, h1⟩ | ⟨_, h1⟩ <;> rcases h2 with ⟨_, h2⟩ | ⟨_, h2⟩ <;> rw [h1, h2] <;> omega
theorem dist_there {p q n : Int} (hq : 0 ≤ q ∧ q < n) : stp p n (dist p q n) = q ∨ stp p n (-(dist p q n)) = q := by
  have e1 : stp p n ((q - p + n) % n) = q := by
    unfold stp; rw [Int.add_emod_emod, show p + (q - p + n) = q + n from by omega, Int.add_emod_right]; exact Int.emod_eq_of_lt hq.1 hq.2
  have e2 : stp p n (-(n - (q - p + n) % n)) = q := by
    unfold stp
    rw [show p + -(n - (q - p + n) % n) = p + (q - p + n) % n - n from by omega, Int.sub_emod_right]
    exact e1
  unfold dist
  split
  · exact .inr e2
  · exact .inl e1
end Go.Proofs.Ytaldgmmmcbikgaa.PosMath
