/- The contracts of turn.Check, turn.compare, and of the reference's May: for all wants. -/
import Derived.Test.YtaldgmmmcbikgaaRows
import Derived.Test.YtaldgmmmcbikgaaMem
import Derived.Test.YtaldgmmmcbikgaaTurnMath
import Derived.WalkKit
import Derived.WalkLawsBesides
import Derived.WalkSpells
import Derived.Outline
import Derived.IntWalk
import Derived.Lib.Hide
import Derived.BigQuiet
import Derived.Deep.QuietTactic
import Derived.Lib.QuietBelow
import Derived.Shelf.SlSortCmp.InsertionK
namespace Go.Proofs.Ytaldgmmmcbikgaa.TurnWalks
open Go.RowKit Go.Sort Go.Lib Mem TurnMath
set_option linter.unusedVariables false
set_option linter.unusedSimpArgs false

theorem stepD {W0 wr : World} (h : ∃ q, wr = W0.drewN q) (n : Nat) : ∃ q, wr.drewN n = W0.drewN q := by
  obtain ⟨q, rfl⟩ := h
  exact ⟨q + n, by rw [World.drewN_drewN]⟩
theorem finD {w W0 wr : World} (h : ∃ os, W0 = grow w os) (k : ∃ q, wr = W0.drewN q) : ∃ q os, wr = grow (w.drewN q) os := by
  obtain ⟨os, rfl⟩ := h
  obtain ⟨q, rfl⟩ := k
  exact ⟨q, os, rfl⟩
set_option maxHeartbeats 1000000 in
theorem wcheck_ok (a b c : Int) (p q r tn : Bool) (h : inD a ∧ inD b ∧ inD c) (w : World) :
    Calls Try.prog 51 #[.agg #[.int .i64 a, .int .i64 b, .int .i64 c, .bool p, .bool q, .bool r, .bool tn]] w fun e w' => e = .returned (.int .i64 0) ∧ Below w.heap.size w w' := by
  have i0 : ∀ w, (Instr.index 22 (.agg #[.int .i64 a, .int .i64 b, .int .i64 c]) (.int .i64 0)).run Try.prog w = .ok (.int .i64 a) w := fun _ => by kernel_rfl
  have i1 : ∀ w, (Instr.index 22 (.agg #[.int .i64 a, .int .i64 b, .int .i64 c]) (.int .i64 1)).run Try.prog w = .ok (.int .i64 b) w := fun _ => by kernel_rfl
  have i2 : ∀ w, (Instr.index 22 (.agg #[.int .i64 a, .int .i64 b, .int .i64 c]) (.int .i64 2)).run Try.prog w = .ok (.int .i64 c) w := fun _ => by kernel_rfl
  have HH := Lib.hid h
  clear h
  go_enter Try.func51, Try.ntmps51
  go_wp2_with fail
  have hblk : Blk (w.alloc (.cells #[.int .i64 a, .int .i64 b, .int .i64 c, .bool p, .bool q, .bool r, .bool tn] 30)) w.heap.size 30 #[.int .i64 a, .int .i64 b, .int .i64 c, .bool p, .bool q, .bool r, .bool tn] := Blk.new _ _ _
  have hb3 : Below w.heap.size w (w.alloc (.cells #[.int .i64 a, .int .i64 b, .int .i64 c, .bool p, .bool q, .bool r, .bool tn] 30)) := (Below.refl _ _).alloc (Nat.le_refl _) _
  have c0 := hblk.cell 0
  have c1 := hblk.cell 1
  have c2 := hblk.cell 2
  simp only [List.getElem?_toArray, List.getElem?_cons_zero, List.getElem?_cons_succ] at c0 c1 c2
  have HB3 := Lib.hid hb3
  clear hblk hb3
  generalize w.alloc (.cells #[.int .i64 a, .int .i64 b, .int .i64 c, .bool p, .bool q, .bool r, .bool tn] 30) = w3 at *
  go_loop [7] (fun i => ∃ k : Nat, k ≤ 3 ∧ i = .int .i64 k ∧ Hid ((0 < k → 1 ≤ a ∧ a ≤ 16) ∧ (1 < k → 1 ≤ b ∧ b ≤ 16) ∧ (2 < k → 1 ≤ c ∧ c ≤ 16)))
    (fun i => 3 - (intOf i).toNat)
  case atStart => exact ⟨0, by omega, rfl, (fun h => by omega), (fun h => by omega), (fun h => by omega)⟩
  case round =>
    obtain ⟨k, hk, rfl, hp⟩ := hrel
    match k, hk with
    | 0, _ =>
      by_cases h1 : a < 1
      · exact absurd HH.out (by unfold inD; omega)
      · by_cases h2 : 16 < a
        · exact absurd HH.out (by unfold inD; omega)
        · go_wp2_with fail
          go_round
          case rel => exact ⟨1, by omega, rfl, (fun _ => by omega), (fun h => by omega), (fun h => by omega)⟩
          case measure => simp [intOf]
    | 1, _ =>
      by_cases h1 : b < 1
      · exact absurd HH.out (by unfold inD; omega)
      · by_cases h2 : 16 < b
        · exact absurd HH.out (by unfold inD; omega)
        · go_wp2_with fail
          go_round
          case rel => exact ⟨2, by omega, rfl, (fun _ => hp.out.1 (by omega)), (fun _ => by omega), (fun h => by omega)⟩
          case measure => simp [intOf]
    | 2, _ =>
      by_cases h1 : c < 1
      · exact absurd HH.out (by unfold inD; omega)
      · by_cases h2 : 16 < c
        · exact absurd HH.out (by unfold inD; omega)
        · go_wp2_with fail
          go_round
          case rel => exact ⟨3, by omega, rfl, (fun _ => hp.out.1 (by omega)), (fun _ => hp.out.2.1 (by omega)), (fun _ => by omega)⟩
          case measure => simp [intOf]
    | 3, _ =>
      go_wp2_with fail
      go_ret
      exact ⟨rfl, HB3.out⟩
set_option maxHeartbeats 1000000 in
theorem wcheck_bad (a b c : Int) (p q r tn : Bool) (h : ¬ (inD a ∧ inD b ∧ inD c)) (w : World) :
    Calls Try.prog 51 #[.agg #[.int .i64 a, .int .i64 b, .int .i64 c, .bool p, .bool q, .bool r, .bool tn]] w fun e w' => e = .returned (.int .i64 8) ∧ Below w.heap.size w w' := by
  have i0 : ∀ w, (Instr.index 22 (.agg #[.int .i64 a, .int .i64 b, .int .i64 c]) (.int .i64 0)).run Try.prog w = .ok (.int .i64 a) w := fun _ => by kernel_rfl
  have i1 : ∀ w, (Instr.index 22 (.agg #[.int .i64 a, .int .i64 b, .int .i64 c]) (.int .i64 1)).run Try.prog w = .ok (.int .i64 b) w := fun _ => by kernel_rfl
  have i2 : ∀ w, (Instr.index 22 (.agg #[.int .i64 a, .int .i64 b, .int .i64 c]) (.int .i64 2)).run Try.prog w = .ok (.int .i64 c) w := fun _ => by kernel_rfl
  have HH := Lib.hid h
  clear h
  go_enter Try.func51, Try.ntmps51
  go_wp2_with fail
  have hblk : Blk (w.alloc (.cells #[.int .i64 a, .int .i64 b, .int .i64 c, .bool p, .bool q, .bool r, .bool tn] 30)) w.heap.size 30 #[.int .i64 a, .int .i64 b, .int .i64 c, .bool p, .bool q, .bool r, .bool tn] := Blk.new _ _ _
  have hb3 : Below w.heap.size w (w.alloc (.cells #[.int .i64 a, .int .i64 b, .int .i64 c, .bool p, .bool q, .bool r, .bool tn] 30)) := (Below.refl _ _).alloc (Nat.le_refl _) _
  have c0 := hblk.cell 0
  have c1 := hblk.cell 1
  have c2 := hblk.cell 2
  simp only [List.getElem?_toArray, List.getElem?_cons_zero, List.getElem?_cons_succ] at c0 c1 c2
  have HB3 := Lib.hid hb3
  clear hblk hb3
  generalize w.alloc (.cells #[.int .i64 a, .int .i64 b, .int .i64 c, .bool p, .bool q, .bool r, .bool tn] 30) = w3 at *
  go_loop [7] (fun i => ∃ k : Nat, k ≤ 3 ∧ i = .int .i64 k ∧ Hid ((0 < k → 1 ≤ a ∧ a ≤ 16) ∧ (1 < k → 1 ≤ b ∧ b ≤ 16) ∧ (2 < k → 1 ≤ c ∧ c ≤ 16)))
    (fun i => 3 - (intOf i).toNat)
  case atStart => exact ⟨0, by omega, rfl, (fun h => by omega), (fun h => by omega), (fun h => by omega)⟩
  case round =>
    obtain ⟨k, hk, rfl, hp⟩ := hrel
    match k, hk with
    | 0, _ =>
      by_cases h1 : a < 1
      · go_wp2_with fail
        go_ret
        exact ⟨rfl, HB3.out⟩
      · by_cases h2 : 16 < a
        · go_wp2_with fail
          go_ret
          exact ⟨rfl, HB3.out⟩
        · go_wp2_with fail
          go_round
          case rel => exact ⟨1, by omega, rfl, (fun _ => by omega), (fun h => by omega), (fun h => by omega)⟩
          case measure => simp [intOf]
    | 1, _ =>
      by_cases h1 : b < 1
      · go_wp2_with fail
        go_ret
        exact ⟨rfl, HB3.out⟩
      · by_cases h2 : 16 < b
        · go_wp2_with fail
          go_ret
          exact ⟨rfl, HB3.out⟩
        · go_wp2_with fail
          go_round
          case rel => exact ⟨2, by omega, rfl, (fun _ => hp.out.1 (by omega)), (fun _ => by omega), (fun h => by omega)⟩
          case measure => simp [intOf]
    | 2, _ =>
      by_cases h1 : c < 1
      · go_wp2_with fail
        go_ret
        exact ⟨rfl, HB3.out⟩
      · by_cases h2 : 16 < c
        · go_wp2_with fail
          go_ret
          exact ⟨rfl, HB3.out⟩
        · go_wp2_with fail
          go_round
          case rel => exact ⟨3, by omega, rfl, (fun _ => hp.out.1 (by omega)), (fun _ => hp.out.2.1 (by omega)), (fun _ => by omega)⟩
          case measure => simp [intOf]
    | 3, _ =>
      exact absurd ⟨hp.out.1 (by omega), hp.out.2.1 (by omega), hp.out.2.2 (by omega)⟩ HH.out
set_option maxHeartbeats 1000000 in
theorem wmay_ok (a b c : Int) (p q r tn : Bool) (h : inD a ∧ inD b ∧ inD c) (w : World) :
    Calls Try.prog 58 #[.agg #[.int .i64 a, .int .i64 b, .int .i64 c, .bool p, .bool q, .bool r, .bool tn]] w fun e w' => e = .returned (.bool true) ∧ Below w.heap.size w w' := by
  have HH := Lib.hid h
  clear h
  go_enter Try.func58, Try.ntmps58
  go_wp2_with fail
  have hblk : Blk (w.alloc (.cells #[.int .i64 a, .int .i64 b, .int .i64 c, .bool p, .bool q, .bool r, .bool tn] 30)) w.heap.size 30 #[.int .i64 a, .int .i64 b, .int .i64 c, .bool p, .bool q, .bool r, .bool tn] := Blk.new _ _ _
  have hb3 : Below w.heap.size w (w.alloc (.cells #[.int .i64 a, .int .i64 b, .int .i64 c, .bool p, .bool q, .bool r, .bool tn] 30)) := (Below.refl _ _).alloc (Nat.le_refl _) _
  have c0 := hblk.cell 0
  have c1 := hblk.cell 1
  have c2 := hblk.cell 2
  simp only [List.getElem?_toArray, List.getElem?_cons_zero, List.getElem?_cons_succ] at c0 c1 c2
  have HB3 := Lib.hid hb3
  clear hblk hb3
  generalize w.alloc (.cells #[.int .i64 a, .int .i64 b, .int .i64 c, .bool p, .bool q, .bool r, .bool tn] 30) = w3 at *
  go_loop [3] (fun i => ∃ k : Nat, k ≤ 3 ∧ i = .int .i64 k ∧ Hid ((0 < k → 1 ≤ a ∧ a ≤ 16) ∧ (1 < k → 1 ≤ b ∧ b ≤ 16) ∧ (2 < k → 1 ≤ c ∧ c ≤ 16)))
    (fun i => 3 - (intOf i).toNat)
  case atStart => exact ⟨0, by omega, rfl, (fun h => by omega), (fun h => by omega), (fun h => by omega)⟩
  case round =>
    obtain ⟨k, hk, rfl, hp⟩ := hrel
    match k, hk with
    | 0, _ =>
      by_cases h1 : a < 1
      · exact absurd HH.out (by unfold inD; omega)
      · by_cases h2 : 16 < a
        · exact absurd HH.out (by unfold inD; omega)
        · go_wp2_with fail
          go_round
          case rel => exact ⟨1, by omega, rfl, (fun _ => by omega), (fun h => by omega), (fun h => by omega)⟩
          case measure => simp [intOf]
    | 1, _ =>
      by_cases h1 : b < 1
      · exact absurd HH.out (by unfold inD; omega)
      · by_cases h2 : 16 < b
        · exact absurd HH.out (by unfold inD; omega)
        · go_wp2_with fail
          go_round
          case rel => exact ⟨2, by omega, rfl, (fun _ => hp.out.1 (by omega)), (fun _ => by omega), (fun h => by omega)⟩
          case measure => simp [intOf]
    | 2, _ =>
      by_cases h1 : c < 1
      · exact absurd HH.out (by unfold inD; omega)
      · by_cases h2 : 16 < c
        · exact absurd HH.out (by unfold inD; omega)
        · go_wp2_with fail
          go_round
          case rel => exact ⟨3, by omega, rfl, (fun _ => hp.out.1 (by omega)), (fun _ => hp.out.2.1 (by omega)), (fun _ => by omega)⟩
          case measure => simp [intOf]
    | 3, _ =>
      go_wp2_with fail
      go_ret
      exact ⟨rfl, HB3.out⟩
set_option maxHeartbeats 1000000 in
theorem wmay_bad (a b c : Int) (p q r tn : Bool) (h : ¬ (inD a ∧ inD b ∧ inD c)) (w : World) :
    Calls Try.prog 58 #[.agg #[.int .i64 a, .int .i64 b, .int .i64 c, .bool p, .bool q, .bool r, .bool tn]] w fun e w' => e = .returned (.bool false) ∧ Below w.heap.size w w' := by
  have HH := Lib.hid h
  clear h
  go_enter Try.func58, Try.ntmps58
  go_wp2_with fail
  have hblk : Blk (w.alloc (.cells #[.int .i64 a, .int .i64 b, .int .i64 c, .bool p, .bool q, .bool r, .bool tn] 30)) w.heap.size 30 #[.int .i64 a, .int .i64 b, .int .i64 c, .bool p, .bool q, .bool r, .bool tn] := Blk.new _ _ _
  have hb3 : Below w.heap.size w (w.alloc (.cells #[.int .i64 a, .int .i64 b, .int .i64 c, .bool p, .bool q, .bool r, .bool tn] 30)) := (Below.refl _ _).alloc (Nat.le_refl _) _
  have c0 := hblk.cell 0
  have c1 := hblk.cell 1
  have c2 := hblk.cell 2
  simp only [List.getElem?_toArray, List.getElem?_cons_zero, List.getElem?_cons_succ] at c0 c1 c2
  have HB3 := Lib.hid hb3
  clear hblk hb3
  generalize w.alloc (.cells #[.int .i64 a, .int .i64 b, .int .i64 c, .bool p, .bool q, .bool r, .bool tn] 30) = w3 at *
  go_loop [3] (fun i => ∃ k : Nat, k ≤ 3 ∧ i = .int .i64 k ∧ Hid ((0 < k → 1 ≤ a ∧ a ≤ 16) ∧ (1 < k → 1 ≤ b ∧ b ≤ 16) ∧ (2 < k → 1 ≤ c ∧ c ≤ 16)))
    (fun i => 3 - (intOf i).toNat)
  case atStart => exact ⟨0, by omega, rfl, (fun h => by omega), (fun h => by omega), (fun h => by omega)⟩
  case round =>
    obtain ⟨k, hk, rfl, hp⟩ := hrel
    match k, hk with
    | 0, _ =>
      by_cases h1 : a < 1
      · go_wp2_with fail
        go_ret
        exact ⟨rfl, HB3.out⟩
      · by_cases h2 : 16 < a
        · go_wp2_with fail
          go_ret
          exact ⟨rfl, HB3.out⟩
        · go_wp2_with fail
          go_round
          case rel => exact ⟨1, by omega, rfl, (fun _ => by omega), (fun h => by omega), (fun h => by omega)⟩
          case measure => simp [intOf]
    | 1, _ =>
      by_cases h1 : b < 1
      · go_wp2_with fail
        go_ret
        exact ⟨rfl, HB3.out⟩
      · by_cases h2 : 16 < b
        · go_wp2_with fail
          go_ret
          exact ⟨rfl, HB3.out⟩
        · go_wp2_with fail
          go_round
          case rel => exact ⟨2, by omega, rfl, (fun _ => hp.out.1 (by omega)), (fun _ => by omega), (fun h => by omega)⟩
          case measure => simp [intOf]
    | 2, _ =>
      by_cases h1 : c < 1
      · go_wp2_with fail
        go_ret
        exact ⟨rfl, HB3.out⟩
      · by_cases h2 : 16 < c
        · go_wp2_with fail
          go_ret
          exact ⟨rfl, HB3.out⟩
        · go_wp2_with fail
          go_round
          case rel => exact ⟨3, by omega, rfl, (fun _ => hp.out.1 (by omega)), (fun _ => hp.out.2.1 (by omega)), (fun _ => by omega)⟩
          case measure => simp [intOf]
    | 3, _ =>
      exact absurd ⟨hp.out.1 (by omega), hp.out.2.1 (by omega), hp.out.2.2 (by omega)⟩ HH.out
theorem bit_any (b : Bool) (w : World) : Calls Try.prog 89 #[.bool b] w fun e w' => e = .returned (.int .i64 (bitI b)) ∧ w' = w := by
  cases b
  · go_enter Try.func89, Try.ntmps89
    go_wp2_with fail
    go_ret
    exact ⟨rfl, rfl⟩
  · go_enter Try.func89, Try.ntmps89
    go_wp2_with fail
    go_ret
    exact ⟨rfl, rfl⟩
theorem nan_any (n : Int) (w : World) : Calls Try.prog 94 #[.int .i64 n] w fun e w' => e = .returned (.bool false) ∧ w' = w := by
  have hn : (n != n) = false := by simp
  go_enter Try.func94, Try.ntmps94
  go_wp2_with fail
  go_ret
  exact ⟨rfl, rfl⟩
theorem compare_any (x y : Int) (w : World) : Calls Try.prog 88 #[.int .i64 x, .int .i64 y] w fun e w' => e = .returned (.int .i64 (cmpI x y)) ∧ w' = w := by
  rcases cmpI_eq x y with ⟨h, e⟩ | ⟨h, e⟩ | ⟨h, e⟩ <;> rw [e]
  · have h2 : ¬ y < x := by omega
    go_enter Try.func88, Try.ntmps88
    go_wp2_with (first | (go_at_call 94; refine (nan_any _ _).mono ?_; rintro e w' ⟨rfl, rfl⟩))
    go_ret
    exact ⟨rfl, rfl⟩
  · subst h
    have h2 : ¬ x < x := by omega
    go_enter Try.func88, Try.ntmps88
    go_wp2_with (first | (go_at_call 94; refine (nan_any _ _).mono ?_; rintro e w' ⟨rfl, rfl⟩))
    go_ret
    exact ⟨rfl, rfl⟩
  · have h2 : ¬ x < y := by omega
    go_enter Try.func88, Try.ntmps88
    go_wp2_with (first | (go_at_call 94; refine (nan_any _ _).mono ?_; rintro e w' ⟨rfl, rfl⟩))
    go_ret
    exact ⟨rfl, rfl⟩
theorem compare_to (x y r : Int) (h : cmpI x y = r) (w : World) : Calls Try.prog 88 #[.int .i64 x, .int .i64 y] w fun e w' => e = .returned (.int .i64 r) ∧ w' = w := by
  subst h; exact compare_any x y w
set_option maxRecDepth 100000 in
set_option maxHeartbeats 4000000 in
theorem wcompare (a1 b1 c1 : Int) (p1 q1 r1 tn1 : Bool) (a2 b2 c2 : Int) (p2 q2 r2 tn2 : Bool) (z : Int) (hz : cmpW ⟨a1, b1, c1, p1, q1, r1, tn1⟩ ⟨a2, b2, c2, p2, q2, r2, tn2⟩ = z) (w : World) :
    Calls Try.prog 81 #[.agg #[.int .i64 a1, .int .i64 b1, .int .i64 c1, .bool p1, .bool q1, .bool r1, .bool tn1], .agg #[.int .i64 a2, .int .i64 b2, .int .i64 c2, .bool p2, .bool q2, .bool r2, .bool tn2]] w fun e w' => e = .returned (.int .i64 z) ∧ ∃ q os, w' = grow (w.drewN q) os := by
  have HZ := Lib.hid hz
  clear hz
  go_enter Try.func81, Try.ntmps81
  go_wp2_with fail
  have k1 : Blk ((w.alloc (.cells #[.int .i64 a1, .int .i64 b1, .int .i64 c1, .bool p1, .bool q1, .bool r1, .bool tn1] 30)).alloc (.cells #[.int .i64 a2, .int .i64 b2, .int .i64 c2, .bool p2, .bool q2, .bool r2, .bool tn2] 30)) w.heap.size 30 #[.int .i64 a1, .int .i64 b1, .int .i64 c1, .bool p1, .bool q1, .bool r1, .bool tn1] := (Blk.new w _ _).alloc _
  have k2 : Blk ((w.alloc (.cells #[.int .i64 a1, .int .i64 b1, .int .i64 c1, .bool p1, .bool q1, .bool r1, .bool tn1] 30)).alloc (.cells #[.int .i64 a2, .int .i64 b2, .int .i64 c2, .bool p2, .bool q2, .bool r2, .bool tn2] 30)) (w.heap.size + 1) 30 #[.int .i64 a2, .int .i64 b2, .int .i64 c2, .bool p2, .bool q2, .bool r2, .bool tn2] := blk1 w _ _
  have hb0 : ∃ os, ((w.alloc (.cells #[.int .i64 a1, .int .i64 b1, .int .i64 c1, .bool p1, .bool q1, .bool r1, .bool tn1] 30)).alloc (.cells #[.int .i64 a2, .int .i64 b2, .int .i64 c2, .bool p2, .bool q2, .bool r2, .bool tn2] 30)) = grow w os := ⟨_, by rw [alloc_eq_grow, alloc_eq_grow, grow_grow]⟩
  generalize hW0 : ((w.alloc (.cells #[.int .i64 a1, .int .i64 b1, .int .i64 c1, .bool p1, .bool q1, .bool r1, .bool tn1] 30)).alloc (.cells #[.int .i64 a2, .int .i64 b2, .int .i64 c2, .bool p2, .bool q2, .bool r2, .bool tn2] 30)) = W0 at *
  clear hW0
  have HB0 := Lib.hid hb0
  have K1 := Lib.hid k1
  have K2 := Lib.hid k2
  clear k1 k2 hb0
  go_loopw [9] (fun i wr => ∃ k : Nat, k ≤ 3 ∧ i = .int .i64 k ∧ Hid ((0 < k → cmpI a1 a2 = 0) ∧ (1 < k → cmpI b1 b2 = 0) ∧ (2 < k → cmpI c1 c2 = 0)) ∧ Hid (∃ q, wr = W0.drewN q) ∧ Hid (Blk wr w.heap.size 30 #[.int .i64 a1, .int .i64 b1, .int .i64 c1, .bool p1, .bool q1, .bool r1, .bool tn1]) ∧ Hid (Blk wr (w.heap.size + 1) 30 #[.int .i64 a2, .int .i64 b2, .int .i64 c2, .bool p2, .bool q2, .bool r2, .bool tn2]))
    (fun i _ => 3 - (intOf i).toNat)
  case atStart => exact ⟨0, by omega, rfl, ⟨(fun h => by omega), (fun h => by omega), (fun h => by omega)⟩, ⟨0, rfl⟩, K1.out, K2.out⟩
  case round =>
    obtain ⟨k, hk, rfl, hp, hB, h1, h2⟩ := hrel
    clear K1 K2
    have k1 := h1.out
    have k2 := h2.out
    have d0 : wr.cell? ⟨w.heap.size, 0, none⟩ = some (.int .i64 a1) := k1.cell 0
    have e0 : wr.cell? ⟨w.heap.size + 1, 0, none⟩ = some (.int .i64 a2) := k2.cell 0
    have d1 : wr.cell? ⟨w.heap.size, 1, none⟩ = some (.int .i64 b1) := k1.cell 1
    have e1 : wr.cell? ⟨w.heap.size + 1, 1, none⟩ = some (.int .i64 b2) := k2.cell 1
    have d2 : wr.cell? ⟨w.heap.size, 2, none⟩ = some (.int .i64 c1) := k1.cell 2
    have e2 : wr.cell? ⟨w.heap.size + 1, 2, none⟩ = some (.int .i64 c2) := k2.cell 2
    have d3 : wr.cell? ⟨w.heap.size, 3, none⟩ = some (.bool p1) := k1.cell 3
    have e3 : wr.cell? ⟨w.heap.size + 1, 3, none⟩ = some (.bool p2) := k2.cell 3
    have d4 : wr.cell? ⟨w.heap.size, 4, none⟩ = some (.bool q1) := k1.cell 4
    have e4 : wr.cell? ⟨w.heap.size + 1, 4, none⟩ = some (.bool q2) := k2.cell 4
    have d5 : wr.cell? ⟨w.heap.size, 5, none⟩ = some (.bool r1) := k1.cell 5
    have e5 : wr.cell? ⟨w.heap.size + 1, 5, none⟩ = some (.bool r2) := k2.cell 5
    clear k1 k2
    match k, hk with
    | 0, _ =>
      obtain ⟨v, hv⟩ : ∃ v, cmpI a1 a2 = v := ⟨_, rfl⟩
      have HV := Lib.hid hv
      clear hv
      by_cases hv0 : v = 0
      · have t0 : (v != 0) = false := by simpa using hv0
        go_wp2_with fail
        go_quiet (first | exact Calls.quiet_of_same (compare_to _ _ v HV.out _))
        go_wp2_with fail
        go_roundw
        case rel => exact ⟨1, by omega, rfl, ⟨(fun _ => by rw [HV.out]; exact hv0), (fun h => by omega), (fun h => by omega)⟩, (stepD hB.out _), h1.out.drewN _, h2.out.drewN _⟩
        case measure => simp [intOf]
      · have t0 : (v != 0) = true := by simpa using hv0
        go_wp2_with fail
        go_quiet (first | exact Calls.quiet_of_same (compare_to _ _ v HV.out _))
        go_wp2_with fail
        go_ret
        have ez : z = v := by
          rw [← HZ.out]
          unfold cmpW
          dsimp only
          skip
          rw [HV.out, if_pos hv0]
        rw [ez]
        exact ⟨rfl, finD HB0.out (stepD hB.out _)⟩
    | 1, _ =>
      obtain ⟨v, hv⟩ : ∃ v, cmpI b1 b2 = v := ⟨_, rfl⟩
      have HV := Lib.hid hv
      clear hv
      by_cases hv0 : v = 0
      · have t0 : (v != 0) = false := by simpa using hv0
        go_wp2_with fail
        go_quiet (first | exact Calls.quiet_of_same (compare_to _ _ v HV.out _))
        go_wp2_with fail
        go_roundw
        case rel => exact ⟨2, by omega, rfl, ⟨(fun _ => hp.out.1 (by omega)), (fun _ => by rw [HV.out]; exact hv0), (fun h => by omega)⟩, (stepD hB.out _), h1.out.drewN _, h2.out.drewN _⟩
        case measure => simp [intOf]
      · have t0 : (v != 0) = true := by simpa using hv0
        go_wp2_with fail
        go_quiet (first | exact Calls.quiet_of_same (compare_to _ _ v HV.out _))
        go_wp2_with fail
        go_ret
        have ez : z = v := by
          rw [← HZ.out]
          unfold cmpW
          dsimp only
          rw [if_neg (by simp [hp.out.1 (by omega)])]
          rw [HV.out, if_pos hv0]
        rw [ez]
        exact ⟨rfl, finD HB0.out (stepD hB.out _)⟩
    | 2, _ =>
      obtain ⟨v, hv⟩ : ∃ v, cmpI c1 c2 = v := ⟨_, rfl⟩
      have HV := Lib.hid hv
      clear hv
      by_cases hv0 : v = 0
      · have t0 : (v != 0) = false := by simpa using hv0
        go_wp2_with fail
        go_quiet (first | exact Calls.quiet_of_same (compare_to _ _ v HV.out _))
        go_wp2_with fail
        go_roundw
        case rel => exact ⟨3, by omega, rfl, ⟨(fun _ => hp.out.1 (by omega)), (fun _ => hp.out.2.1 (by omega)), (fun _ => by rw [HV.out]; exact hv0)⟩, (stepD hB.out _), h1.out.drewN _, h2.out.drewN _⟩
        case measure => simp [intOf]
      · have t0 : (v != 0) = true := by simpa using hv0
        go_wp2_with fail
        go_quiet (first | exact Calls.quiet_of_same (compare_to _ _ v HV.out _))
        go_wp2_with fail
        go_ret
        have ez : z = v := by
          rw [← HZ.out]
          unfold cmpW
          dsimp only
          rw [if_neg (by simp [hp.out.1 (by omega)])]
          rw [if_neg (by simp [hp.out.2.1 (by omega)])]
          rw [HV.out, if_pos hv0]
        rw [ez]
        exact ⟨rfl, finD HB0.out (stepD hB.out _)⟩
    | 3, _ =>
      go_wp2_with fail
      go_loopw [25] (fun i wi => ∃ k : Nat, k ≤ 3 ∧ i = .int .i64 k ∧ Hid ((0 < k → cmpI (bitI p1) (bitI p2) = 0) ∧ (1 < k → cmpI (bitI q1) (bitI q2) = 0) ∧ (2 < k → cmpI (bitI r1) (bitI r2) = 0)) ∧ Hid (∃ q, wi = W0.drewN q) ∧ Hid (Blk wi w.heap.size 30 #[.int .i64 a1, .int .i64 b1, .int .i64 c1, .bool p1, .bool q1, .bool r1, .bool tn1]) ∧ Hid (Blk wi (w.heap.size + 1) 30 #[.int .i64 a2, .int .i64 b2, .int .i64 c2, .bool p2, .bool q2, .bool r2, .bool tn2]))
        (fun i _ => 3 - (intOf i).toNat)
      case atStart => exact ⟨0, by omega, rfl, ⟨(fun h => by omega), (fun h => by omega), (fun h => by omega)⟩, hB.out, h1.out, h2.out⟩
      case round =>
        obtain ⟨k, hk, rfl, hq, hB, h1, h2⟩ := hrel
        clear d0 d1 d2 d3 d4 d5 e0 e1 e2 e3 e4 e5
        have k1 := h1.out
        have k2 := h2.out
        have d0 : wr.cell? ⟨w.heap.size, 0, none⟩ = some (.int .i64 a1) := k1.cell 0
        have e0 : wr.cell? ⟨w.heap.size + 1, 0, none⟩ = some (.int .i64 a2) := k2.cell 0
        have d1 : wr.cell? ⟨w.heap.size, 1, none⟩ = some (.int .i64 b1) := k1.cell 1
        have e1 : wr.cell? ⟨w.heap.size + 1, 1, none⟩ = some (.int .i64 b2) := k2.cell 1
        have d2 : wr.cell? ⟨w.heap.size, 2, none⟩ = some (.int .i64 c1) := k1.cell 2
        have e2 : wr.cell? ⟨w.heap.size + 1, 2, none⟩ = some (.int .i64 c2) := k2.cell 2
        have d3 : wr.cell? ⟨w.heap.size, 3, none⟩ = some (.bool p1) := k1.cell 3
        have e3 : wr.cell? ⟨w.heap.size + 1, 3, none⟩ = some (.bool p2) := k2.cell 3
        have d4 : wr.cell? ⟨w.heap.size, 4, none⟩ = some (.bool q1) := k1.cell 4
        have e4 : wr.cell? ⟨w.heap.size + 1, 4, none⟩ = some (.bool q2) := k2.cell 4
        have d5 : wr.cell? ⟨w.heap.size, 5, none⟩ = some (.bool r1) := k1.cell 5
        have e5 : wr.cell? ⟨w.heap.size + 1, 5, none⟩ = some (.bool r2) := k2.cell 5
        clear k1 k2
        match k, hk with
        | 0, _ =>
          obtain ⟨v, hv⟩ : ∃ v, cmpI (bitI p1) (bitI p2) = v := ⟨_, rfl⟩
          have HV := Lib.hid hv
          clear hv
          by_cases hv0 : v = 0
          · have t0 : (v != 0) = false := by simpa using hv0
            go_wp2_with fail
            go_quiet (first | exact Calls.quiet_of_same (bit_any _ _) | exact Calls.quiet_of_same (compare_to _ _ v HV.out _))
            go_wp2_with fail
            go_roundw
            case rel => exact ⟨1, by omega, rfl, ⟨(fun _ => by rw [HV.out]; exact hv0), (fun h => by omega), (fun h => by omega)⟩, (stepD hB.out _), h1.out.drewN _, h2.out.drewN _⟩
            case measure => simp [intOf]
          · have t0 : (v != 0) = true := by simpa using hv0
            go_wp2_with fail
            go_quiet (first | exact Calls.quiet_of_same (bit_any _ _) | exact Calls.quiet_of_same (compare_to _ _ v HV.out _))
            go_wp2_with fail
            go_ret
            have ez : z = v := by
              rw [← HZ.out]
              unfold cmpW
              dsimp only
              rw [if_neg (by simp [hp.out.1 (by omega)])]
              rw [if_neg (by simp [hp.out.2.1 (by omega)])]
              rw [if_neg (by simp [hp.out.2.2 (by omega)])]
              rw [HV.out, if_pos hv0]
            rw [ez]
            exact ⟨rfl, finD HB0.out (stepD hB.out _)⟩
        | 1, _ =>
          obtain ⟨v, hv⟩ : ∃ v, cmpI (bitI q1) (bitI q2) = v := ⟨_, rfl⟩
          have HV := Lib.hid hv
          clear hv
          by_cases hv0 : v = 0
          · have t0 : (v != 0) = false := by simpa using hv0
            go_wp2_with fail
            go_quiet (first | exact Calls.quiet_of_same (bit_any _ _) | exact Calls.quiet_of_same (compare_to _ _ v HV.out _))
            go_wp2_with fail
            go_roundw
            case rel => exact ⟨2, by omega, rfl, ⟨(fun _ => hq.out.1 (by omega)), (fun _ => by rw [HV.out]; exact hv0), (fun h => by omega)⟩, (stepD hB.out _), h1.out.drewN _, h2.out.drewN _⟩
            case measure => simp [intOf]
          · have t0 : (v != 0) = true := by simpa using hv0
            go_wp2_with fail
            go_quiet (first | exact Calls.quiet_of_same (bit_any _ _) | exact Calls.quiet_of_same (compare_to _ _ v HV.out _))
            go_wp2_with fail
            go_ret
            have ez : z = v := by
              rw [← HZ.out]
              unfold cmpW
              dsimp only
              rw [if_neg (by simp [hp.out.1 (by omega)])]
              rw [if_neg (by simp [hp.out.2.1 (by omega)])]
              rw [if_neg (by simp [hp.out.2.2 (by omega)])]
              rw [if_neg (by simp [hq.out.1 (by omega)])]
              rw [HV.out, if_pos hv0]
            rw [ez]
            exact ⟨rfl, finD HB0.out (stepD hB.out _)⟩
        | 2, _ =>
          obtain ⟨v, hv⟩ : ∃ v, cmpI (bitI r1) (bitI r2) = v := ⟨_, rfl⟩
          have HV := Lib.hid hv
          clear hv
          by_cases hv0 : v = 0
          · have t0 : (v != 0) = false := by simpa using hv0
            go_wp2_with fail
            go_quiet (first | exact Calls.quiet_of_same (bit_any _ _) | exact Calls.quiet_of_same (compare_to _ _ v HV.out _))
            go_wp2_with fail
            go_roundw
            case rel => exact ⟨3, by omega, rfl, ⟨(fun _ => hq.out.1 (by omega)), (fun _ => hq.out.2.1 (by omega)), (fun _ => by rw [HV.out]; exact hv0)⟩, (stepD hB.out _), h1.out.drewN _, h2.out.drewN _⟩
            case measure => simp [intOf]
          · have t0 : (v != 0) = true := by simpa using hv0
            go_wp2_with fail
            go_quiet (first | exact Calls.quiet_of_same (bit_any _ _) | exact Calls.quiet_of_same (compare_to _ _ v HV.out _))
            go_wp2_with fail
            go_ret
            have ez : z = v := by
              rw [← HZ.out]
              unfold cmpW
              dsimp only
              rw [if_neg (by simp [hp.out.1 (by omega)])]
              rw [if_neg (by simp [hp.out.2.1 (by omega)])]
              rw [if_neg (by simp [hp.out.2.2 (by omega)])]
              rw [if_neg (by simp [hq.out.1 (by omega)])]
              rw [if_neg (by simp [hq.out.2.1 (by omega)])]
              rw [HV.out]
            rw [ez]
            exact ⟨rfl, finD HB0.out (stepD hB.out _)⟩
        | 3, _ =>
          go_wp2_with fail
          go_ret
          have ez : z = 0 := by
            rw [← HZ.out]
            unfold cmpW
            dsimp only
            rw [if_neg (by simp [hp.out.1 (by omega)]), if_neg (by simp [hp.out.2.1 (by omega)]), if_neg (by simp [hp.out.2.2 (by omega)]), if_neg (by simp [hq.out.1 (by omega)]), if_neg (by simp [hq.out.2.1 (by omega)]), hq.out.2.2 (by omega)]
          rw [ez]
          exact ⟨rfl, finD HB0.out hB.out⟩
end Go.Proofs.Ytaldgmmmcbikgaa.TurnWalks
