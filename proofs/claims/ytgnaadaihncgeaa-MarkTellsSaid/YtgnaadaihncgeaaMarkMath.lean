/- Plain arithmetic of the marks of bytes: folds modulo 4294967291, powers by squares, weights. No program in sight. No conditions but those that each lemma names. -/
import Derived.Below
namespace Go.Proofs.Ytgnaadaihncgeaa.MarkMath

/-- One step of a mark. -/
def stp (m c : Int) : Int := (m * 65537 + c + 1) % 4294967291
/-- The mark of bytes behind a mark. -/
def mk (m : Int) (l : List Int) : Int := l.foldl stp m
def isBytes (l : List Int) : Prop := ∀ x ∈ l, 0 ≤ x ∧ x ≤ 255

theorem stp_lt (m c : Int) : 0 ≤ stp m c ∧ stp m c < 4294967291 := by unfold stp; omega
theorem mk_nil (m : Int) : mk m [] = m := rfl
theorem mk_cons (m c : Int) (l : List Int) : mk m (c :: l) = mk (stp m c) l := rfl
theorem mk_app (m : Int) (a b : List Int) : mk m (a ++ b) = mk (mk m a) b := by simp [mk]
theorem mk_snoc (m : Int) (a : List Int) (c : Int) : mk m (a ++ [c]) = stp (mk m a) c := by simp [mk]
theorem mk_range (l : List Int) : ∀ m, 0 ≤ m → m < 4294967291 → 0 ≤ mk m l ∧ mk m l < 4294967291 := by
  induction l with
  | nil => intro m h0 h1; exact ⟨h0, h1⟩
  | cons c l ih => intro m _ _; rw [mk_cons]; exact ih _ (stp_lt m c).1 (stp_lt m c).2

/-- Two numbers with one remainder. -/
def R (a b : Int) : Prop := a % 4294967291 = b % 4294967291
theorem R.refl (a : Int) : R a a := rfl
theorem R.symm {a b : Int} (h : R a b) : R b a := Eq.symm h
theorem R.trans {a b c : Int} (h : R a b) (k : R b c) : R a c := Eq.trans h k
theorem R.mod (a : Int) : R (a % 4294967291) a := Int.emod_emod_of_dvd _ (Int.dvd_refl _)
theorem R.add {a b c d : Int} (h : R a b) (k : R c d) : R (a + c) (b + d) := by unfold R at *; rw [Int.add_emod, h, k, ← Int.add_emod]
theorem R.mul {a b c d : Int} (h : R a b) (k : R c d) : R (a * c) (b * d) := by unfold R at *; rw [Int.mul_emod, h, k, ← Int.mul_emod]
theorem R.of_eq {a b : Int} (h : a = b) : R a b := by rw [h]; rfl
theorem R.cong {a b : Int} (h : R a b) : ∃ k : Int, a - b = 4294967291 * k :=
  Int.dvd_of_emod_eq_zero (Int.emod_eq_emod_iff_emod_sub_eq_zero.1 h)
/-- What is below the round is its own remainder. -/
theorem R.small {a b : Int} (h : R a b) (h0 : 0 ≤ a) (h1 : a < 4294967291) : a = b % 4294967291 := by unfold R at h; omega
theorem stp_R (m c : Int) : R (stp m c) (m * 65537 + c + 1) := R.mod _

theorem unit65537 {d k : Int} (h : 65537 * d = 4294967291 * k) : ∃ t, d = 4294967291 * t := by
  have e : (65537 : Int) * 3221241852 = 1 + 4294967291 * 49153 := by decide
  have h3 : d * (65537 * 3221241852) = 4294967291 * (k * 3221241852) := by
    rw [← Int.mul_assoc, Int.mul_comm d, h, Int.mul_assoc]
  rw [e, Int.mul_add, Int.mul_one, Int.mul_left_comm] at h3
  exact ⟨k * 3221241852 - d * 49153, by rw [Int.mul_sub, ← h3, Int.add_sub_cancel]⟩
/-- A step is one to one: 65537 has an inverse. -/
theorem stp_inj {m n c : Int} (hm0 : 0 ≤ m) (hm : m < 4294967291) (hn0 : 0 ≤ n) (hn : n < 4294967291) (h : stp m c = stp n c) : m = n := by
  obtain ⟨k, hk⟩ := R.cong h
  clear h
  have hk' : 65537 * (m - n) = 4294967291 * k := by rw [← hk, Int.mul_sub]; omega
  clear hk
  obtain ⟨t, ht⟩ := unit65537 hk'
  clear hk'
  omega

theorem mk_inj (l : List Int) : ∀ {m n : Int}, 0 ≤ m → m < 4294967291 → 0 ≤ n → n < 4294967291 → (mk m l = mk n l ↔ m = n) := by
  induction l with
  | nil => intro m n _ _ _ _; exact Iff.rfl
  | cons c l ih =>
    intro m n a b d e
    rw [mk_cons, mk_cons, ih (stp_lt m c).1 (stp_lt m c).2 (stp_lt n c).1 (stp_lt n c).2]
    exact ⟨fun h => stp_inj a b d e h, fun h => by rw [h]⟩

/-- Another byte, another mark. -/
theorem stp_byte {m x y : Int} (hx : 0 ≤ x ∧ x ≤ 255) (hy : 0 ≤ y ∧ y ≤ 255) : stp m x = stp m y ↔ x = y := by
  constructor
  · intro h
    obtain ⟨k, hk⟩ := R.cong h
    clear h
    omega
  · intro h; rw [h]
theorem stp_stp (m x y : Int) : R (stp (stp m x) y) ((m * 65537 + x + 1) * 65537 + y + 1) :=
  (stp_R _ _).trans ((((stp_R m x).mul (R.refl 65537)).add (R.refl y)).add (R.refl 1))
theorem stp_swap {m x y : Int} (hx : 0 ≤ x ∧ x ≤ 255) (hy : 0 ≤ y ∧ y ≤ 255) : stp (stp m x) y = stp (stp m y) x ↔ x = y := by
  constructor
  · intro h
    have h' : R ((m * 65537 + x + 1) * 65537 + y + 1) ((m * 65537 + y + 1) * 65537 + x + 1) := (stp_stp m x y).symm.trans ((R.of_eq h).trans (stp_stp m y x))
    obtain ⟨k, hk⟩ := R.cong h'
    clear h h'
    have hk' : (x - y) * 65536 = 4294967291 * k := by rw [← hk]; clear hk; grind
    clear hk
    omega
  · intro h; rw [h]

theorem mk_set (l : List Int) (k : Nat) (y : Int) (hk : k < l.length) (hl : isBytes l) (hy : 0 ≤ y ∧ y ≤ 255) : mk 0 (l.set k y) = mk 0 l ↔ y = l[k] := by
  have e1 : l.set k y = l.take k ++ y :: l.drop (k + 1) := by rw [List.set_eq_take_append_cons_drop, if_pos hk]
  have e2 : l = l.take k ++ l[k] :: l.drop (k + 1) := by rw [← List.drop_eq_getElem_cons hk, List.take_append_drop]
  have hx : 0 ≤ l[k] ∧ l[k] ≤ 255 := hl _ (List.getElem_mem hk)
  rw [e1]
  conv => lhs; rhs; rw [e2]
  rw [mk_app, mk_app, mk_cons, mk_cons, mk_inj _ (stp_lt _ _).1 (stp_lt _ _).2 (stp_lt _ _).1 (stp_lt _ _).2, stp_byte hy hx]

theorem mk_swap (l : List Int) (k : Nat) (hk : k + 1 < l.length) (hl : isBytes l) : mk 0 ((l.set k (l[k + 1])).set (k + 1) (l[k]'(by omega))) = mk 0 l ↔ l[k]'(by omega) = l[k + 1] := by
  have hk' : k < l.length := by omega
  have e2 : l = l.take k ++ l[k] :: l[k + 1] :: l.drop (k + 2) := by
    rw [← List.drop_eq_getElem_cons hk, ← List.drop_eq_getElem_cons hk', List.take_append_drop]
  have e1 : (l.set k (l[k + 1])).set (k + 1) l[k] = l.take k ++ l[k + 1] :: l[k] :: l.drop (k + 2) := by
    apply List.ext_getElem?
    intro i
    simp only [List.getElem?_set, List.length_set, List.getElem?_append, List.length_take, List.getElem?_take]
    by_cases h1 : i < k
    · rw [if_neg (by omega), if_neg (by omega), if_pos (by omega), if_pos h1]
    · by_cases h2 : i = k
      · subst h2
        rw [if_neg (by omega), if_pos rfl, if_pos (by omega), if_neg (by omega)]
        simp [show min i l.length = i from by omega]
      · by_cases h3 : i = k + 1
        · subst h3
          rw [if_pos rfl, if_pos (by omega), if_neg (by omega)]
          simp [show min k l.length = k from by omega]
        · rw [if_neg (by omega), if_neg (by omega), if_neg (by omega)]
          obtain ⟨j, rfl⟩ : ∃ j, i = k + 2 + j := ⟨i - (k + 2), by omega⟩
          rw [show k + 2 + j - min k l.length = j + 2 from by omega]
          simp
  have hx : 0 ≤ l[k] ∧ l[k] ≤ 255 := hl _ (List.getElem_mem hk')
  have hy : 0 ≤ l[k + 1] ∧ l[k + 1] ≤ 255 := hl _ (List.getElem_mem hk)
  rw [e1]
  conv => lhs; rhs; rw [e2]
  rw [mk_app, mk_app, mk_cons, mk_cons, mk_cons, mk_cons, mk_inj _ (stp_lt _ _).1 (stp_lt _ _).2 (stp_lt _ _).1 (stp_lt _ _).2, stp_swap hy hx]
  exact eq_comm

/-! Powers. -/
/-- A mark behind one: the one's part, and the bytes' own. -/
theorem mk_behind_R (l : List Int) : ∀ m : Int, R (mk m l) (m * 65537 ^ l.length + mk 0 l) := by
  induction l with
  | nil => intro m; exact R.of_eq (by simp [mk])
  | cons c l ih =>
    intro m
    rw [mk_cons, mk_cons]
    refine (ih _).trans ?_
    refine R.trans ?_ ((R.refl (m * 65537 ^ (c :: l).length)).add (ih (stp 0 c)).symm)
    have h1 : R (stp m c * 65537 ^ l.length) ((m * 65537 + c + 1) * 65537 ^ l.length) := (stp_R m c).mul (R.refl _)
    have h2 : R (stp 0 c * 65537 ^ l.length) ((0 * 65537 + c + 1) * 65537 ^ l.length) := (stp_R 0 c).mul (R.refl _)
    refine (h1.add (R.refl (mk 0 l))).trans (R.trans (R.of_eq ?_) ((R.refl _).add (h2.symm.add (R.refl (mk 0 l)))))
    rw [List.length_cons, Int.pow_succ]
    generalize (65537 : Int) ^ l.length = t
    generalize mk 0 l = z
    grind
theorem mk_behind (l : List Int) (m : Int) (h0 : 0 ≤ m) (h1 : m < 4294967291) : mk m l = (m * 65537 ^ l.length + mk 0 l) % 4294967291 :=
  (mk_behind_R l m).small (mk_range l m h0 h1).1 (mk_range l m h0 h1).2

/-- The power by squares, as mark.power's loop goes: out, square, long. -/
def pwTo : Nat → Int → Int → Nat → Int
  | 0, o, _, _ => o
  | f + 1, o, s, n => if n = 0 then o else pwTo f (if n % 2 = 1 then o * s % 4294967291 else o) (s * s % 4294967291) (n / 2)
theorem sq_half (s : Int) (n : Nat) : (s * s) ^ (n / 2) * (if n % 2 = 1 then s else 1) = s ^ n := by
  have h : s ^ n = s ^ (2 * (n / 2) + n % 2) := by rw [Nat.div_add_mod]
  rw [h, Int.pow_add, Int.pow_mul, show s ^ 2 = s * s from by rw [Int.pow_succ, Int.pow_succ, Int.pow_zero, Int.one_mul]]
  split
  · rename_i h1; rw [h1, Int.pow_succ, Int.pow_zero, Int.one_mul]
  · rename_i h1; rw [show n % 2 = 0 from by omega, Int.pow_zero]
theorem R.pow {a b : Int} (h : R a b) (n : Nat) : R (a ^ n) (b ^ n) := by
  induction n with
  | zero => rw [Int.pow_zero, Int.pow_zero]; exact R.refl _
  | succ n ih => rw [Int.pow_succ, Int.pow_succ]; exact ih.mul h
/-- What the loop over (out, square, long) comes to keeps 'out times square so often'. -/
theorem round_R (o s : Int) (n : Nat) : R ((if n % 2 = 1 then o * s % 4294967291 else o) * (s * s % 4294967291) ^ (n / 2)) (o * s ^ n) := by
  have h2 : R ((s * s % 4294967291) ^ (n / 2)) ((s * s) ^ (n / 2)) := (R.mod _).pow _
  rw [← sq_half s n]
  split
  · exact ((R.mod _).mul h2).trans (R.of_eq (by generalize (s * s) ^ (n / 2) = t; grind))
  · exact ((R.refl _).mul h2).trans (R.of_eq (by generalize (s * s) ^ (n / 2) = t; grind))

/-! Weights. -/
/-- The sum of bytes by their weights, the last one's 1, as the reference adds them up from the first one on. -/
def wt (n i : Nat) : Int := 65537 ^ (n - 1 - i) % 4294967291
def sm (l : List Int) (n : Nat) : Nat → Int
  | 0 => 0
  | k + 1 => (sm l n k + wt n k * (l.getD k 0 + 1)) % 4294967291
theorem sm_range (l : List Int) (n k : Nat) : 0 ≤ sm l n k ∧ sm l n k < 4294967291 := by
  cases k with
  | zero => simp [sm]
  | succ k => unfold sm; omega
theorem wt_range (n i : Nat) : 0 ≤ wt n i ∧ wt n i < 4294967291 := by unfold wt; omega
theorem sm_R (l : List Int) : ∀ k, k ≤ l.length → R (sm l l.length k) (mk 0 (l.take k) * 65537 ^ (l.length - k)) := by
  intro k
  induction k with
  | zero => intro _; exact R.of_eq (by simp [sm, mk])
  | succ k ih =>
    intro hk
    have hk' : k < l.length := by omega
    have e : l.take (k + 1) = l.take k ++ [l[k]] := by rw [List.take_succ_eq_append_getElem hk']
    rw [e, mk_snoc]
    unfold sm
    refine (R.mod _).trans ?_
    have h1 : R (wt l.length k) (65537 ^ (l.length - (k + 1))) := by unfold wt; rw [show l.length - 1 - k = l.length - (k + 1) from by omega]; exact R.mod _
    refine ((ih (by omega)).add (h1.mul (R.refl _))).trans ?_
    refine R.trans ?_ ((stp_R _ _).mul (R.refl _)).symm
    rw [show l.length - k = l.length - (k + 1) + 1 from by omega, Int.pow_succ]
    refine R.of_eq ?_
    rw [List.getD_eq_getElem?_getD, List.getElem?_eq_getElem hk', Option.getD_some]
    generalize (65537 : Int) ^ (l.length - (k + 1)) = t
    generalize mk 0 (l.take k) = z
    grind
/-- The sum by weights is the mark. -/
theorem sm_mk (l : List Int) : sm l l.length l.length = mk 0 l := by
  have h := sm_R l l.length (Nat.le_refl _)
  rw [Nat.sub_self, Int.pow_zero, Int.mul_one, List.take_length] at h
  have h2 := h.small (sm_range _ _ _).1 (sm_range _ _ _).2
  have h3 := mk_range l 0 (by omega) (by omega)
  omega
end Go.Proofs.Ytgnaadaihncgeaa.MarkMath
