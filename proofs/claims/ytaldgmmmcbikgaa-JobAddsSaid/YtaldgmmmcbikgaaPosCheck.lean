/- The contracts of pos.Check and the reference's May: whether dimensions may be, for all numbers. -/
import Derived.Test.YtaldgmmmcbikgaaRows
import Derived.Test.YtaldgmmmcbikgaaMem
import Derived.Test.YtaldgmmmcbikgaaPosMath
import Derived.WalkKit
import Derived.WalkLawsBesides
import Derived.WalkSpells
import Derived.Outline
import Derived.IntWalk
import Derived.Lib.Hide
namespace Go.Proofs.Ytaldgmmmcbikgaa.PosCheck
open Go.RowKit Mem PosMath
set_option linter.unusedVariables false

set_option maxHeartbeats 1000000 in
theorem check_ok (a b c : Int) (h : May a b c) (w : World) :
    Calls Try.prog 47 #[.agg #[.int .i64 a, .int .i64 b, .int .i64 c]] w fun e w' => e = .returned (.int .i64 0) ∧ Below w.heap.size w w' := by
  have i0 : ∀ w, (Instr.index 23 (.agg #[.int .i64 a, .int .i64 b, .int .i64 c]) (.int .i64 0)).run Try.prog w = .ok (.int .i64 a) w := fun _ => by kernel_rfl
  have i1 : ∀ w, (Instr.index 23 (.agg #[.int .i64 a, .int .i64 b, .int .i64 c]) (.int .i64 1)).run Try.prog w = .ok (.int .i64 b) w := fun _ => by kernel_rfl
  have i2 : ∀ w, (Instr.index 23 (.agg #[.int .i64 a, .int .i64 b, .int .i64 c]) (.int .i64 2)).run Try.prog w = .ok (.int .i64 c) w := fun _ => by kernel_rfl
  have HH := Lib.hid h
  clear h
  go_enter Try.func47, Try.ntmps47
  go_wp2_with fail
  have hblk : Blk (w.alloc (.cells #[.int .i64 a, .int .i64 b, .int .i64 c] 23)) w.heap.size 23 #[.int .i64 a, .int .i64 b, .int .i64 c] := Blk.new _ _ _
  have hb3 : Below w.heap.size w (w.alloc (.cells #[.int .i64 a, .int .i64 b, .int .i64 c] 23)) := (Below.refl _ _).alloc (Nat.le_refl _) _
  have c0 := hblk.cell 0
  have c1 := hblk.cell 1
  have c2 := hblk.cell 2
  simp only [List.getElem?_toArray, List.getElem?_cons_zero, List.getElem?_cons_succ] at c0 c1 c2
  have HB3 := Lib.hid hb3
  clear hblk hb3
  generalize w.alloc (.cells #[.int .i64 a, .int .i64 b, .int .i64 c] 23) = w3 at *
  go_loop [6] (fun i => ∃ k : Nat, k ≤ 3 ∧ i = .int .i64 k ∧ Hid ((0 < k → 1 ≤ a ∧ a ≤ 16) ∧ (1 < k → 1 ≤ b ∧ b ≤ 16) ∧ (2 < k → 1 ≤ c ∧ c ≤ 16)))
    (fun i => 3 - (intOf i).toNat)
  case atStart => exact ⟨0, by omega, rfl, (fun h => by omega), (fun h => by omega), (fun h => by omega)⟩
  case round =>
    obtain ⟨k, hk, rfl, hp⟩ := hrel
    match k, hk with
    | 0, _ =>
      by_cases h1 : a < 1
      · exact absurd HH.out (by unfold May; omega)
      · by_cases h2 : 16 < a
        · exact absurd HH.out (by unfold May; omega)
        · go_wp2_with fail
          go_round
          case rel => exact ⟨1, by omega, rfl, (fun _ => by omega), (fun h => by omega), (fun h => by omega)⟩
          case measure => simp [intOf]
    | 1, _ =>
      by_cases h1 : b < 1
      · exact absurd HH.out (by unfold May; omega)
      · by_cases h2 : 16 < b
        · exact absurd HH.out (by unfold May; omega)
        · go_wp2_with fail
          go_round
          case rel => exact ⟨2, by omega, rfl, (fun _ => hp.out.1 (by omega)), (fun _ => by omega), (fun h => by omega)⟩
          case measure => simp [intOf]
    | 2, _ =>
      by_cases h1 : c < 1
      · exact absurd HH.out (by unfold May; omega)
      · by_cases h2 : 16 < c
        · exact absurd HH.out (by unfold May; omega)
        · go_wp2_with fail
          go_round
          case rel => exact ⟨3, by omega, rfl, (fun _ => hp.out.1 (by omega)), (fun _ => hp.out.2.1 (by omega)), (fun _ => by omega)⟩
          case measure => simp [intOf]
    | 3, _ =>
      go_wp2_with fail
      go_ret
      exact ⟨rfl, HB3.out⟩
set_option maxHeartbeats 1000000 in
theorem check_bad (a b c : Int) (h : ¬ May a b c) (w : World) :
    Calls Try.prog 47 #[.agg #[.int .i64 a, .int .i64 b, .int .i64 c]] w fun e w' => e = .returned (.int .i64 8) ∧ Below w.heap.size w w' := by
  have i0 : ∀ w, (Instr.index 23 (.agg #[.int .i64 a, .int .i64 b, .int .i64 c]) (.int .i64 0)).run Try.prog w = .ok (.int .i64 a) w := fun _ => by kernel_rfl
  have i1 : ∀ w, (Instr.index 23 (.agg #[.int .i64 a, .int .i64 b, .int .i64 c]) (.int .i64 1)).run Try.prog w = .ok (.int .i64 b) w := fun _ => by kernel_rfl
  have i2 : ∀ w, (Instr.index 23 (.agg #[.int .i64 a, .int .i64 b, .int .i64 c]) (.int .i64 2)).run Try.prog w = .ok (.int .i64 c) w := fun _ => by kernel_rfl
  have HH := Lib.hid h
  clear h
  go_enter Try.func47, Try.ntmps47
  go_wp2_with fail
  have hblk : Blk (w.alloc (.cells #[.int .i64 a, .int .i64 b, .int .i64 c] 23)) w.heap.size 23 #[.int .i64 a, .int .i64 b, .int .i64 c] := Blk.new _ _ _
  have hb3 : Below w.heap.size w (w.alloc (.cells #[.int .i64 a, .int .i64 b, .int .i64 c] 23)) := (Below.refl _ _).alloc (Nat.le_refl _) _
  have c0 := hblk.cell 0
  have c1 := hblk.cell 1
  have c2 := hblk.cell 2
  simp only [List.getElem?_toArray, List.getElem?_cons_zero, List.getElem?_cons_succ] at c0 c1 c2
  have HB3 := Lib.hid hb3
  clear hblk hb3
  generalize w.alloc (.cells #[.int .i64 a, .int .i64 b, .int .i64 c] 23) = w3 at *
  go_loop [6] (fun i => ∃ k : Nat, k ≤ 3 ∧ i = .int .i64 k ∧ Hid ((0 < k → 1 ≤ a ∧ a ≤ 16) ∧ (1 < k → 1 ≤ b ∧ b ≤ 16) ∧ (2 < k → 1 ≤ c ∧ c ≤ 16)))
    (fun i => 3 - (intOf i).toNat)
  case atStart => exact ⟨0, by omega, rfl, (fun h => by omega), (fun h => by omega), (fun h => by omega)⟩
  case round =>
    obtain ⟨k, hk, rfl, hp⟩ := hrel
    match k, hk with
    | 0, _ =>
      by_cases h1 : a < 1
      · go_wp2_with fail
        go_ret
        exact ⟨rfl, HB3.out⟩
      · by_cases h2 : 16 < a
        · go_wp2_with fail
          go_ret
          exact ⟨rfl, HB3.out⟩
        · go_wp2_with fail
          go_round
          case rel => exact ⟨1, by omega, rfl, (fun _ => by omega), (fun h => by omega), (fun h => by omega)⟩
          case measure => simp [intOf]
    | 1, _ =>
      by_cases h1 : b < 1
      · go_wp2_with fail
        go_ret
        exact ⟨rfl, HB3.out⟩
      · by_cases h2 : 16 < b
        · go_wp2_with fail
          go_ret
          exact ⟨rfl, HB3.out⟩
        · go_wp2_with fail
          go_round
          case rel => exact ⟨2, by omega, rfl, (fun _ => hp.out.1 (by omega)), (fun _ => by omega), (fun h => by omega)⟩
          case measure => simp [intOf]
    | 2, _ =>
      by_cases h1 : c < 1
      · go_wp2_with fail
        go_ret
        exact ⟨rfl, HB3.out⟩
      · by_cases h2 : 16 < c
        · go_wp2_with fail
          go_ret
          exact ⟨rfl, HB3.out⟩
        · go_wp2_with fail
          go_round
          case rel => exact ⟨3, by omega, rfl, (fun _ => hp.out.1 (by omega)), (fun _ => hp.out.2.1 (by omega)), (fun _ => by omega)⟩
          case measure => simp [intOf]
    | 3, _ =>
      exact absurd ⟨hp.out.1 (by omega), hp.out.2.1 (by omega), hp.out.2.2 (by omega)⟩ HH.out
set_option maxHeartbeats 1000000 in
theorem may_ok (a b c : Int) (h : May a b c) (w : World) :
    Calls Try.prog 72 #[.agg #[.int .i64 a, .int .i64 b, .int .i64 c]] w fun e w' => e = .returned (.bool true) ∧ Below w.heap.size w w' := by
  have HH := Lib.hid h
  clear h
  go_enter Try.func72, Try.ntmps72
  go_wp2_with fail
  have hblk : Blk (w.alloc (.cells #[.int .i64 a, .int .i64 b, .int .i64 c] 23)) w.heap.size 23 #[.int .i64 a, .int .i64 b, .int .i64 c] := Blk.new _ _ _
  have hb3 : Below w.heap.size w (w.alloc (.cells #[.int .i64 a, .int .i64 b, .int .i64 c] 23)) := (Below.refl _ _).alloc (Nat.le_refl _) _
  have c0 := hblk.cell 0
  have c1 := hblk.cell 1
  have c2 := hblk.cell 2
  simp only [List.getElem?_toArray, List.getElem?_cons_zero, List.getElem?_cons_succ] at c0 c1 c2
  have HB3 := Lib.hid hb3
  clear hblk hb3
  generalize w.alloc (.cells #[.int .i64 a, .int .i64 b, .int .i64 c] 23) = w3 at *
  go_loop [3] (fun i => ∃ k : Nat, k ≤ 3 ∧ i = .int .i64 k ∧ Hid ((0 < k → 1 ≤ a ∧ a ≤ 16) ∧ (1 < k → 1 ≤ b ∧ b ≤ 16) ∧ (2 < k → 1 ≤ c ∧ c ≤ 16)))
    (fun i => 3 - (intOf i).toNat)
  case atStart => exact ⟨0, by omega, rfl, (fun h => by omega), (fun h => by omega), (fun h => by omega)⟩
  case round =>
    obtain ⟨k, hk, rfl, hp⟩ := hrel
    match k, hk with
    | 0, _ =>
      by_cases h1 : a < 1
      · exact absurd HH.out (by unfold May; omega)
      · by_cases h2 : 16 < a
        · exact absurd HH.out (by unfold May; omega)
        · go_wp2_with fail
          go_round
          case rel => exact ⟨1, by omega, rfl, (fun _ => by omega), (fun h => by omega), (fun h => by omega)⟩
          case measure => simp [intOf]
    | 1, _ =>
      by_cases h1 : b < 1
      · exact absurd HH.out (by unfold May; omega)
      · by_cases h2 : 16 < b
        · exact absurd HH.out (by unfold May; omega)
        · go_wp2_with fail
          go_round
          case rel => exact ⟨2, by omega, rfl, (fun _ => hp.out.1 (by omega)), (fun _ => by omega), (fun h => by omega)⟩
          case measure => simp [intOf]
    | 2, _ =>
      by_cases h1 : c < 1
      · exact absurd HH.out (by unfold May; omega)
      · by_cases h2 : 16 < c
        · exact absurd HH.out (by unfold May; omega)
        · go_wp2_with fail
          go_round
          case rel => exact ⟨3, by omega, rfl, (fun _ => hp.out.1 (by omega)), (fun _ => hp.out.2.1 (by omega)), (fun _ => by omega)⟩
          case measure => simp [intOf]
    | 3, _ =>
      go_wp2_with fail
      go_ret
      exact ⟨rfl, HB3.out⟩
set_option maxHeartbeats 1000000 in
theorem may_bad (a b c : Int) (h : ¬ May a b c) (w : World) :
    Calls Try.prog 72 #[.agg #[.int .i64 a, .int .i64 b, .int .i64 c]] w fun e w' => e = .returned (.bool false) ∧ Below w.heap.size w w' := by
  have HH := Lib.hid h
  clear h
  go_enter Try.func72, Try.ntmps72
  go_wp2_with fail
  have hblk : Blk (w.alloc (.cells #[.int .i64 a, .int .i64 b, .int .i64 c] 23)) w.heap.size 23 #[.int .i64 a, .int .i64 b, .int .i64 c] := Blk.new _ _ _
  have hb3 : Below w.heap.size w (w.alloc (.cells #[.int .i64 a, .int .i64 b, .int .i64 c] 23)) := (Below.refl _ _).alloc (Nat.le_refl _) _
  have c0 := hblk.cell 0
  have c1 := hblk.cell 1
  have c2 := hblk.cell 2
  simp only [List.getElem?_toArray, List.getElem?_cons_zero, List.getElem?_cons_succ] at c0 c1 c2
  have HB3 := Lib.hid hb3
  clear hblk hb3
  generalize w.alloc (.cells #[.int .i64 a, .int .i64 b, .int .i64 c] 23) = w3 at *
  go_loop [3] (fun i => ∃ k : Nat, k ≤ 3 ∧ i = .int .i64 k ∧ Hid ((0 < k → 1 ≤ a ∧ a ≤ 16) ∧ (1 < k → 1 ≤ b ∧ b ≤ 16) ∧ (2 < k → 1 ≤ c ∧ c ≤ 16)))
    (fun i => 3 - (intOf i).toNat)
  case atStart => exact ⟨0, by omega, rfl, (fun h => by omega), (fun h => by omega), (fun h => by omega)⟩
  case round =>
    obtain ⟨k, hk, rfl, hp⟩ := hrel
    match k, hk with
    | 0, _ =>
      by_cases h1 : a < 1
      · go_wp2_with fail
        go_ret
        exact ⟨rfl, HB3.out⟩
      · by_cases h2 : 16 < a
        · go_wp2_with fail
          go_ret
          exact ⟨rfl, HB3.out⟩
        · go_wp2_with fail
          go_round
          case rel => exact ⟨1, by omega, rfl, (fun _ => by omega), (fun h => by omega), (fun h => by omega)⟩
          case measure => simp [intOf]
    | 1, _ =>
      by_cases h1 : b < 1
      · go_wp2_with fail
        go_ret
        exact ⟨rfl, HB3.out⟩
      · by_cases h2 : 16 < b
        · go_wp2_with fail
          go_ret
          exact ⟨rfl, HB3.out⟩
        · go_wp2_with fail
          go_round
          case rel => exact ⟨2, by omega, rfl, (fun _ => hp.out.1 (by omega)), (fun _ => by omega), (fun h => by omega)⟩
          case measure => simp [intOf]
    | 2, _ =>
      by_cases h1 : c < 1
      · go_wp2_with fail
        go_ret
        exact ⟨rfl, HB3.out⟩
      · by_cases h2 : 16 < c
        · go_wp2_with fail
          go_ret
          exact ⟨rfl, HB3.out⟩
        · go_wp2_with fail
          go_round
          case rel => exact ⟨3, by omega, rfl, (fun _ => hp.out.1 (by omega)), (fun _ => hp.out.2.1 (by omega)), (fun _ => by omega)⟩
          case measure => simp [intOf]
    | 3, _ =>
      exact absurd ⟨hp.out.1 (by omega), hp.out.2.1 (by omega), hp.out.2.2 (by omega)⟩ HH.out
end Go.Proofs.Ytaldgmmmcbikgaa.PosCheck
