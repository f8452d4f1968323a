/- The contracts of package time's asked, Meet, Within: whether two spans meet, and whether one lies in the other, for all spans. -/
import Derived.Test.YtbmdmhmdjidflaaTimeWalks
namespace Go.Proofs.Ytbmdmhmdjidflaa.TimeAsked
open Go.RowKit Mem TimeWalks
set_option linter.unusedVariables false

set_option maxHeartbeats 1000000 in
theorem asked_ok_meet (af at_ bf bt : Int) (ha : may af at_) (hb : may bf bt) (r : Bool) (P Q : Addr) (w : World)
    (hso : ∀ W, Below w.heap.size w W → Calls Try.prog 25 #[.pointer (some P), .pointer (some Q)] W fun e w' => e = .returned (.bool r) ∧ W = w') :
    Calls Try.prog 24 #[.agg #[.int .i64 af, .int .i64 at_], .agg #[.int .i64 bf, .int .i64 bt], .func (.func 25) #[] #[.pointer (some P), .pointer (some Q)]] w
      fun e w' => e = .returned (.tuple #[.bool r, .int .i64 0]) ∧ Below w.heap.size w w' := by
  have HA := Lib.hid ha
  have HB := Lib.hid hb
  have HSO := Lib.hid hso
  clear ha hb hso
  go_enter Try.func24, Try.ntmps24
  go_wp2_with fail
  have hblk : Blk (((w.alloc (.cells #[.int .i64 af, .int .i64 at_] 23)).alloc (.cells #[.int .i64 bf, .int .i64 bt] 23)).alloc (.cells #[.int .i64 af, .int .i64 at_, .int .i64 bf, .int .i64 bt] 23)) (w.heap.size + 1 + 1) 23 #[.int .i64 af, .int .i64 at_, .int .i64 bf, .int .i64 bt] := by
    have h := Blk.new ((w.alloc (.cells #[.int .i64 af, .int .i64 at_] 23)).alloc (.cells #[.int .i64 bf, .int .i64 bt] 23)) 23 #[.int .i64 af, .int .i64 at_, .int .i64 bf, .int .i64 bt]
    rw [World.size_alloc, World.size_alloc] at h
    exact h
  have hb3 : Below w.heap.size w (((w.alloc (.cells #[.int .i64 af, .int .i64 at_] 23)).alloc (.cells #[.int .i64 bf, .int .i64 bt] 23)).alloc (.cells #[.int .i64 af, .int .i64 at_, .int .i64 bf, .int .i64 bt] 23)) :=
    (((Below.refl _ _).alloc (Nat.le_refl _) _).alloc (by simp) _).alloc (by simp; omega) _
  generalize (((w.alloc (.cells #[.int .i64 af, .int .i64 at_] 23)).alloc (.cells #[.int .i64 bf, .int .i64 bt] 23)).alloc (.cells #[.int .i64 af, .int .i64 at_, .int .i64 bf, .int .i64 bt] 23)) = w3 at *
  generalize w.heap.size + 1 + 1 = g at *
  have HBLK := Lib.hid hblk
  have HB3 := Lib.hid hb3
  clear hblk hb3
  go_loopw [15] (fun i wr => ∃ k : Nat, k ≤ 2 ∧ i = .int .i64 k ∧ Hid (Blk wr g 23 #[.int .i64 af, .int .i64 at_, .int .i64 bf, .int .i64 bt]) ∧ Hid (Below w.heap.size w wr))
    (fun i _ => 2 - (intOf i).toNat)
  case atStart => exact ⟨0, by omega, rfl, HBLK, HB3⟩
  case round =>
    obtain ⟨k, hk, rfl, hblk, hB⟩ := hrel
    have c0 := hblk.out.cell 0
    have c1 := hblk.out.cell 1
    have c2 := hblk.out.cell 2
    have c3 := hblk.out.cell 3
    simp only [List.getElem?_toArray, List.getElem?_cons_zero, List.getElem?_cons_succ] at c0 c1 c2 c3
    match k, hk with
    | 0, _ =>
      go_wp2_with fail
      refine (check_ok af at_ HA.out _).mono ?_
      rintro e w4 ⟨rfl, hB4⟩
      have HB4 := Lib.hid hB4
      clear hB4
      go_wp2_with fail
      go_roundw
      case rel => exact ⟨1, by omega, rfl, (hblk.out.alloc _).below HB4.out (hblk.out.alloc _).lt, (hB.out.alloc hB.out.size _).trans (HB4.out.mono (by simp; have := hB.out.size; omega))⟩
      case measure => simp [intOf]
    | 1, _ =>
      go_wp2_with fail
      refine (check_ok bf bt HB.out _).mono ?_
      rintro e w4 ⟨rfl, hB4⟩
      have HB4 := Lib.hid hB4
      clear hB4
      go_wp2_with fail
      go_roundw
      case rel => exact ⟨2, by omega, rfl, (hblk.out.alloc _).below HB4.out (hblk.out.alloc _).lt, (hB.out.alloc hB.out.size _).trans (HB4.out.mono (by simp; have := hB.out.size; omega))⟩
      case measure => simp [intOf]
    | 2, _ =>
      go_wp2_with fail
      refine (HSO.out _ hB.out).mono ?_
      rintro e w4 ⟨rfl, rfl⟩
      go_wp2_with fail
      go_ret2
      exact ⟨rfl, hB.out⟩
set_option maxHeartbeats 1000000 in
theorem asked_ok_within (af at_ bf bt : Int) (ha : may af at_) (hb : may bf bt) (r : Bool) (P Q : Addr) (w : World)
    (hso : ∀ W, Below w.heap.size w W → Calls Try.prog 26 #[.pointer (some P), .pointer (some Q)] W fun e w' => e = .returned (.bool r) ∧ W = w') :
    Calls Try.prog 24 #[.agg #[.int .i64 af, .int .i64 at_], .agg #[.int .i64 bf, .int .i64 bt], .func (.func 26) #[] #[.pointer (some P), .pointer (some Q)]] w
      fun e w' => e = .returned (.tuple #[.bool r, .int .i64 0]) ∧ Below w.heap.size w w' := by
  have HA := Lib.hid ha
  have HB := Lib.hid hb
  have HSO := Lib.hid hso
  clear ha hb hso
  go_enter Try.func24, Try.ntmps24
  go_wp2_with fail
  have hblk : Blk (((w.alloc (.cells #[.int .i64 af, .int .i64 at_] 23)).alloc (.cells #[.int .i64 bf, .int .i64 bt] 23)).alloc (.cells #[.int .i64 af, .int .i64 at_, .int .i64 bf, .int .i64 bt] 23)) (w.heap.size + 1 + 1) 23 #[.int .i64 af, .int .i64 at_, .int .i64 bf, .int .i64 bt] := by
    have h := Blk.new ((w.alloc (.cells #[.int .i64 af, .int .i64 at_] 23)).alloc (.cells #[.int .i64 bf, .int .i64 bt] 23)) 23 #[.int .i64 af, .int .i64 at_, .int .i64 bf, .int .i64 bt]
    rw [World.size_alloc, World.size_alloc] at h
    exact h
  have hb3 : Below w.heap.size w (((w.alloc (.cells #[.int .i64 af, .int .i64 at_] 23)).alloc (.cells #[.int .i64 bf, .int .i64 bt] 23)).alloc (.cells #[.int .i64 af, .int .i64 at_, .int .i64 bf, .int .i64 bt] 23)) :=
    (((Below.refl _ _).alloc (Nat.le_refl _) _).alloc (by simp) _).alloc (by simp; omega) _
  generalize (((w.alloc (.cells #[.int .i64 af, .int .i64 at_] 23)).alloc (.cells #[.int .i64 bf, .int .i64 bt] 23)).alloc (.cells #[.int .i64 af, .int .i64 at_, .int .i64 bf, .int .i64 bt] 23)) = w3 at *
  generalize w.heap.size + 1 + 1 = g at *
  have HBLK := Lib.hid hblk
  have HB3 := Lib.hid hb3
  clear hblk hb3
  go_loopw [15] (fun i wr => ∃ k : Nat, k ≤ 2 ∧ i = .int .i64 k ∧ Hid (Blk wr g 23 #[.int .i64 af, .int .i64 at_, .int .i64 bf, .int .i64 bt]) ∧ Hid (Below w.heap.size w wr))
    (fun i _ => 2 - (intOf i).toNat)
  case atStart => exact ⟨0, by omega, rfl, HBLK, HB3⟩
  case round =>
    obtain ⟨k, hk, rfl, hblk, hB⟩ := hrel
    have c0 := hblk.out.cell 0
    have c1 := hblk.out.cell 1
    have c2 := hblk.out.cell 2
    have c3 := hblk.out.cell 3
    simp only [List.getElem?_toArray, List.getElem?_cons_zero, List.getElem?_cons_succ] at c0 c1 c2 c3
    match k, hk with
    | 0, _ =>
      go_wp2_with fail
      refine (check_ok af at_ HA.out _).mono ?_
      rintro e w4 ⟨rfl, hB4⟩
      have HB4 := Lib.hid hB4
      clear hB4
      go_wp2_with fail
      go_roundw
      case rel => exact ⟨1, by omega, rfl, (hblk.out.alloc _).below HB4.out (hblk.out.alloc _).lt, (hB.out.alloc hB.out.size _).trans (HB4.out.mono (by simp; have := hB.out.size; omega))⟩
      case measure => simp [intOf]
    | 1, _ =>
      go_wp2_with fail
      refine (check_ok bf bt HB.out _).mono ?_
      rintro e w4 ⟨rfl, hB4⟩
      have HB4 := Lib.hid hB4
      clear hB4
      go_wp2_with fail
      go_roundw
      case rel => exact ⟨2, by omega, rfl, (hblk.out.alloc _).below HB4.out (hblk.out.alloc _).lt, (hB.out.alloc hB.out.size _).trans (HB4.out.mono (by simp; have := hB.out.size; omega))⟩
      case measure => simp [intOf]
    | 2, _ =>
      go_wp2_with fail
      refine (HSO.out _ hB.out).mono ?_
      rintro e w4 ⟨rfl, rfl⟩
      go_wp2_with fail
      go_ret2
      exact ⟨rfl, hB.out⟩
set_option maxHeartbeats 1000000 in
theorem asked_bad_meet (af at_ bf bt : Int) (hab : ¬ (may af at_ ∧ may bf bt)) (P Q : Addr) (w : World) :
    Calls Try.prog 24 #[.agg #[.int .i64 af, .int .i64 at_], .agg #[.int .i64 bf, .int .i64 bt], .func (.func 25) #[] #[.pointer (some P), .pointer (some Q)]] w
      fun e w' => e = .returned (.tuple #[.bool false, .int .i64 2]) ∧ Below w.heap.size w w' := by
  have HAB := Lib.hid hab
  clear hab
  go_enter Try.func24, Try.ntmps24
  go_wp2_with fail
  have hblk : Blk (((w.alloc (.cells #[.int .i64 af, .int .i64 at_] 23)).alloc (.cells #[.int .i64 bf, .int .i64 bt] 23)).alloc (.cells #[.int .i64 af, .int .i64 at_, .int .i64 bf, .int .i64 bt] 23)) (w.heap.size + 1 + 1) 23 #[.int .i64 af, .int .i64 at_, .int .i64 bf, .int .i64 bt] := by
    have h := Blk.new ((w.alloc (.cells #[.int .i64 af, .int .i64 at_] 23)).alloc (.cells #[.int .i64 bf, .int .i64 bt] 23)) 23 #[.int .i64 af, .int .i64 at_, .int .i64 bf, .int .i64 bt]
    rw [World.size_alloc, World.size_alloc] at h
    exact h
  have hb3 : Below w.heap.size w (((w.alloc (.cells #[.int .i64 af, .int .i64 at_] 23)).alloc (.cells #[.int .i64 bf, .int .i64 bt] 23)).alloc (.cells #[.int .i64 af, .int .i64 at_, .int .i64 bf, .int .i64 bt] 23)) :=
    (((Below.refl _ _).alloc (Nat.le_refl _) _).alloc (by simp) _).alloc (by simp; omega) _
  generalize (((w.alloc (.cells #[.int .i64 af, .int .i64 at_] 23)).alloc (.cells #[.int .i64 bf, .int .i64 bt] 23)).alloc (.cells #[.int .i64 af, .int .i64 at_, .int .i64 bf, .int .i64 bt] 23)) = w3 at *
  generalize w.heap.size + 1 + 1 = g at *
  have HBLK := Lib.hid hblk
  have HB3 := Lib.hid hb3
  clear hblk hb3
  go_loopw [15] (fun i wr => ∃ k : Nat, k ≤ 1 ∧ i = .int .i64 k ∧ Hid (k = 1 → may af at_) ∧ Hid (Blk wr g 23 #[.int .i64 af, .int .i64 at_, .int .i64 bf, .int .i64 bt]) ∧ Hid (Below w.heap.size w wr))
    (fun i _ => 2 - (intOf i).toNat)
  case atStart => exact ⟨0, by omega, rfl, (fun h => by cases h), HBLK, HB3⟩
  case round =>
    obtain ⟨k, hk, rfl, hka, hblk, hB⟩ := hrel
    have c0 := hblk.out.cell 0
    have c1 := hblk.out.cell 1
    have c2 := hblk.out.cell 2
    have c3 := hblk.out.cell 3
    simp only [List.getElem?_toArray, List.getElem?_cons_zero, List.getElem?_cons_succ] at c0 c1 c2 c3
    match k, hk with
    | 0, _ =>
      by_cases ha : may af at_
      · have HA := Lib.hid ha
        clear ha
        go_wp2_with fail
        refine (check_ok af at_ HA.out _).mono ?_
        rintro e w4 ⟨rfl, hB4⟩
        have HB4 := Lib.hid hB4
        clear hB4
        go_wp2_with fail
        go_roundw
        case rel => exact ⟨1, by omega, rfl, fun _ => HA.out, (hblk.out.alloc _).below HB4.out (hblk.out.alloc _).lt, (hB.out.alloc hB.out.size _).trans (HB4.out.mono (by simp; have := hB.out.size; omega))⟩
        case measure => simp [intOf]
      · have HA := Lib.hid ha
        clear ha
        go_wp2_with fail
        refine (check_bad af at_ HA.out _).mono ?_
        rintro e w4 ⟨rfl, hB4⟩
        have HB4 := Lib.hid hB4
        clear hB4
        go_wp2_with fail
        go_ret2
        exact ⟨rfl, (hB.out.alloc hB.out.size _).trans (HB4.out.mono (by simp; have := hB.out.size; omega))⟩
    | 1, _ =>
      have hb : ¬ may bf bt := fun hb => HAB.out ⟨hka.out rfl, hb⟩
      have HB := Lib.hid hb
      clear hb
      go_wp2_with fail
      refine (check_bad bf bt HB.out _).mono ?_
      rintro e w4 ⟨rfl, hB4⟩
      have HB4 := Lib.hid hB4
      clear hB4
      go_wp2_with fail
      go_ret2
      exact ⟨rfl, (hB.out.alloc hB.out.size _).trans (HB4.out.mono (by simp; have := hB.out.size; omega))⟩
set_option maxHeartbeats 1000000 in
theorem asked_bad_within (af at_ bf bt : Int) (hab : ¬ (may af at_ ∧ may bf bt)) (P Q : Addr) (w : World) :
    Calls Try.prog 24 #[.agg #[.int .i64 af, .int .i64 at_], .agg #[.int .i64 bf, .int .i64 bt], .func (.func 26) #[] #[.pointer (some P), .pointer (some Q)]] w
      fun e w' => e = .returned (.tuple #[.bool false, .int .i64 2]) ∧ Below w.heap.size w w' := by
  have HAB := Lib.hid hab
  clear hab
  go_enter Try.func24, Try.ntmps24
  go_wp2_with fail
  have hblk : Blk (((w.alloc (.cells #[.int .i64 af, .int .i64 at_] 23)).alloc (.cells #[.int .i64 bf, .int .i64 bt] 23)).alloc (.cells #[.int .i64 af, .int .i64 at_, .int .i64 bf, .int .i64 bt] 23)) (w.heap.size + 1 + 1) 23 #[.int .i64 af, .int .i64 at_, .int .i64 bf, .int .i64 bt] := by
    have h := Blk.new ((w.alloc (.cells #[.int .i64 af, .int .i64 at_] 23)).alloc (.cells #[.int .i64 bf, .int .i64 bt] 23)) 23 #[.int .i64 af, .int .i64 at_, .int .i64 bf, .int .i64 bt]
    rw [World.size_alloc, World.size_alloc] at h
    exact h
  have hb3 : Below w.heap.size w (((w.alloc (.cells #[.int .i64 af, .int .i64 at_] 23)).alloc (.cells #[.int .i64 bf, .int .i64 bt] 23)).alloc (.cells #[.int .i64 af, .int .i64 at_, .int .i64 bf, .int .i64 bt] 23)) :=
    (((Below.refl _ _).alloc (Nat.le_refl _) _).alloc (by simp) _).alloc (by simp; omega) _
  generalize (((w.alloc (.cells #[.int .i64 af, .int .i64 at_] 23)).alloc (.cells #[.int .i64 bf, .int .i64 bt] 23)).alloc (.cells #[.int .i64 af, .int .i64 at_, .int .i64 bf, .int .i64 bt] 23)) = w3 at *
  generalize w.heap.size + 1 + 1 = g at *
  have HBLK := Lib.hid hblk
  have HB3 := Lib.hid hb3
  clear hblk hb3
  go_loopw [15] (fun i wr => ∃ k : Nat, k ≤ 1 ∧ i = .int .i64 k ∧ Hid (k = 1 → may af at_) ∧ Hid (Blk wr g 23 #[.int .i64 af, .int .i64 at_, .int .i64 bf, .int .i64 bt]) ∧ Hid (Below w.heap.size w wr))
    (fun i _ => 2 - (intOf i).toNat)
  case atStart => exact ⟨0, by omega, rfl, (fun h => by cases h), HBLK, HB3⟩
  case round =>
    obtain ⟨k, hk, rfl, hka, hblk, hB⟩ := hrel
    have c0 := hblk.out.cell 0
    have c1 := hblk.out.cell 1
    have c2 := hblk.out.cell 2
    have c3 := hblk.out.cell 3
    simp only [List.getElem?_toArray, List.getElem?_cons_zero, List.getElem?_cons_succ] at c0 c1 c2 c3
    match k, hk with
    | 0, _ =>
      by_cases ha : may af at_
      · have HA := Lib.hid ha
        clear ha
        go_wp2_with fail
        refine (check_ok af at_ HA.out _).mono ?_
        rintro e w4 ⟨rfl, hB4⟩
        have HB4 := Lib.hid hB4
        clear hB4
        go_wp2_with fail
        go_roundw
        case rel => exact ⟨1, by omega, rfl, fun _ => HA.out, (hblk.out.alloc _).below HB4.out (hblk.out.alloc _).lt, (hB.out.alloc hB.out.size _).trans (HB4.out.mono (by simp; have := hB.out.size; omega))⟩
        case measure => simp [intOf]
      · have HA := Lib.hid ha
        clear ha
        go_wp2_with fail
        refine (check_bad af at_ HA.out _).mono ?_
        rintro e w4 ⟨rfl, hB4⟩
        have HB4 := Lib.hid hB4
        clear hB4
        go_wp2_with fail
        go_ret2
        exact ⟨rfl, (hB.out.alloc hB.out.size _).trans (HB4.out.mono (by simp; have := hB.out.size; omega))⟩
    | 1, _ =>
      have hb : ¬ may bf bt := fun hb => HAB.out ⟨hka.out rfl, hb⟩
      have HB := Lib.hid hb
      clear hb
      go_wp2_with fail
      refine (check_bad bf bt HB.out _).mono ?_
      rintro e w4 ⟨rfl, hB4⟩
      have HB4 := Lib.hid hB4
      clear hB4
      go_wp2_with fail
      go_ret2
      exact ⟨rfl, (hB.out.alloc hB.out.size _).trans (HB4.out.mono (by simp; have := hB.out.size; omega))⟩
theorem meet1_yes (af at_ bf bt : Int) (h1 : af < bt) (h2 : bf < at_) (p q : Nat) (w : World) (c0 : w.cell? ⟨p, 0, none⟩ = some (.int .i64 af)) (c1 : w.cell? ⟨p, 1, none⟩ = some (.int .i64 at_)) (d0 : w.cell? ⟨q, 0, none⟩ = some (.int .i64 bf)) (d1 : w.cell? ⟨q, 1, none⟩ = some (.int .i64 bt)) :
    Calls Try.prog 25 #[.pointer (some ⟨p, 0, none⟩), .pointer (some ⟨q, 0, none⟩)] w fun e w' => e = .returned (.bool true) ∧ w = w' := by
  go_enter Try.func25, Try.ntmps25
  go_wp2_with fail
  go_ret
  exact ⟨rfl, rfl⟩
theorem meet1_no1 (af at_ bf bt : Int) (h1 : ¬ af < bt) (p q : Nat) (w : World) (c0 : w.cell? ⟨p, 0, none⟩ = some (.int .i64 af)) (c1 : w.cell? ⟨p, 1, none⟩ = some (.int .i64 at_)) (d0 : w.cell? ⟨q, 0, none⟩ = some (.int .i64 bf)) (d1 : w.cell? ⟨q, 1, none⟩ = some (.int .i64 bt)) :
    Calls Try.prog 25 #[.pointer (some ⟨p, 0, none⟩), .pointer (some ⟨q, 0, none⟩)] w fun e w' => e = .returned (.bool false) ∧ w = w' := by
  go_enter Try.func25, Try.ntmps25
  go_wp2_with fail
  go_ret
  exact ⟨rfl, rfl⟩
theorem meet1_no2 (af at_ bf bt : Int) (h1 : af < bt) (h2 : ¬ bf < at_) (p q : Nat) (w : World) (c0 : w.cell? ⟨p, 0, none⟩ = some (.int .i64 af)) (c1 : w.cell? ⟨p, 1, none⟩ = some (.int .i64 at_)) (d0 : w.cell? ⟨q, 0, none⟩ = some (.int .i64 bf)) (d1 : w.cell? ⟨q, 1, none⟩ = some (.int .i64 bt)) :
    Calls Try.prog 25 #[.pointer (some ⟨p, 0, none⟩), .pointer (some ⟨q, 0, none⟩)] w fun e w' => e = .returned (.bool false) ∧ w = w' := by
  go_enter Try.func25, Try.ntmps25
  go_wp2_with fail
  go_ret
  exact ⟨rfl, rfl⟩
theorem within1_yes (af at_ bf bt : Int) (h1 : bf ≤ af) (h2 : at_ ≤ bt) (p q : Nat) (w : World) (c0 : w.cell? ⟨p, 0, none⟩ = some (.int .i64 af)) (c1 : w.cell? ⟨p, 1, none⟩ = some (.int .i64 at_)) (d0 : w.cell? ⟨q, 0, none⟩ = some (.int .i64 bf)) (d1 : w.cell? ⟨q, 1, none⟩ = some (.int .i64 bt)) :
    Calls Try.prog 26 #[.pointer (some ⟨p, 0, none⟩), .pointer (some ⟨q, 0, none⟩)] w fun e w' => e = .returned (.bool true) ∧ w = w' := by
  go_enter Try.func26, Try.ntmps26
  go_wp2_with fail
  go_ret
  exact ⟨rfl, rfl⟩
theorem within1_no1 (af at_ bf bt : Int) (h1 : ¬ bf ≤ af) (p q : Nat) (w : World) (c0 : w.cell? ⟨p, 0, none⟩ = some (.int .i64 af)) (c1 : w.cell? ⟨p, 1, none⟩ = some (.int .i64 at_)) (d0 : w.cell? ⟨q, 0, none⟩ = some (.int .i64 bf)) (d1 : w.cell? ⟨q, 1, none⟩ = some (.int .i64 bt)) :
    Calls Try.prog 26 #[.pointer (some ⟨p, 0, none⟩), .pointer (some ⟨q, 0, none⟩)] w fun e w' => e = .returned (.bool false) ∧ w = w' := by
  go_enter Try.func26, Try.ntmps26
  go_wp2_with fail
  go_ret
  exact ⟨rfl, rfl⟩
theorem within1_no2 (af at_ bf bt : Int) (h1 : bf ≤ af) (h2 : ¬ at_ ≤ bt) (p q : Nat) (w : World) (c0 : w.cell? ⟨p, 0, none⟩ = some (.int .i64 af)) (c1 : w.cell? ⟨p, 1, none⟩ = some (.int .i64 at_)) (d0 : w.cell? ⟨q, 0, none⟩ = some (.int .i64 bf)) (d1 : w.cell? ⟨q, 1, none⟩ = some (.int .i64 bt)) :
    Calls Try.prog 26 #[.pointer (some ⟨p, 0, none⟩), .pointer (some ⟨q, 0, none⟩)] w fun e w' => e = .returned (.bool false) ∧ w = w' := by
  go_enter Try.func26, Try.ntmps26
  go_wp2_with fail
  go_ret
  exact ⟨rfl, rfl⟩
theorem two_boxes (af at_ bf bt : Int) (t : TypeId) (w : World) : ∀ W, Below (w.heap.size + 1 + 1) ((w.alloc (.cells #[.int .i64 af, .int .i64 at_] t)).alloc (.cells #[.int .i64 bf, .int .i64 bt] t)) W →
    W.cell? ⟨w.heap.size, 0, none⟩ = some (.int .i64 af) ∧ W.cell? ⟨w.heap.size, 1, none⟩ = some (.int .i64 at_) ∧ W.cell? ⟨w.heap.size + 1, 0, none⟩ = some (.int .i64 bf) ∧ W.cell? ⟨w.heap.size + 1, 1, none⟩ = some (.int .i64 bt) := fun W hW => by
  have h1 := ((Blk.new w t #[.int .i64 af, .int .i64 at_]).alloc (.cells #[.int .i64 bf, .int .i64 bt] t)).below hW (by omega)
  have h2 := Blk.new (w.alloc (.cells #[.int .i64 af, .int .i64 at_] t)) t #[.int .i64 bf, .int .i64 bt]
  rw [World.size_alloc] at h2
  have h3 := h2.below hW (by omega)
  exact ⟨h1.cell 0, h1.cell 1, h3.cell 0, h3.cell 1⟩
theorem meet_yes (af at_ bf bt : Int) (ha : may af at_) (hb : may bf bt) (hh : af < bt ∧ bf < at_) (w : World) :
    Calls Try.prog 13 #[.agg #[.int .i64 af, .int .i64 at_], .agg #[.int .i64 bf, .int .i64 bt]] w fun e w' => e = .returned (.tuple #[.bool true, .int .i64 0]) ∧ Below w.heap.size w w' := by
  have HA := Lib.hid ha
  have HB := Lib.hid hb
  have HH := Lib.hid hh
  clear ha hb hh
  have cc := two_boxes af at_ bf bt 23 w
  have hso : ∀ W, Below (w.heap.size + 1 + 1) ((w.alloc (.cells #[.int .i64 af, .int .i64 at_] 23)).alloc (.cells #[.int .i64 bf, .int .i64 bt] 23)) W → Calls Try.prog 25 #[.pointer (some ⟨w.heap.size, 0, none⟩), .pointer (some ⟨w.heap.size + 1, 0, none⟩)] W fun e w' => e = .returned (.bool true) ∧ W = w' := fun W hW => meet1_yes af at_ bf bt HH.out.1 HH.out.2 _ _ W (cc W hW).1 (cc W hW).2.1 (cc W hW).2.2.1 (cc W hW).2.2.2
  have HSO := Lib.hid hso
  clear cc hso
  go_enter Try.func13, Try.ntmps13
  go_wp2_with fail
  refine (asked_ok_meet af at_ bf bt HA.out HB.out true _ _ _ (fun W hW => HSO.out W (by simpa using hW))).mono ?_
  rintro e w4 ⟨rfl, hB4⟩
  have HB4 := Lib.hid hB4
  clear hB4
  go_wp2_with fail
  go_ret2
  exact ⟨rfl, (((Below.refl _ _).alloc (Nat.le_refl _) _).alloc (by simp) _).trans (HB4.out.mono (by simp; omega))⟩
theorem meet_no (af at_ bf bt : Int) (ha : may af at_) (hb : may bf bt) (hh : ¬ (af < bt ∧ bf < at_)) (w : World) :
    Calls Try.prog 13 #[.agg #[.int .i64 af, .int .i64 at_], .agg #[.int .i64 bf, .int .i64 bt]] w fun e w' => e = .returned (.tuple #[.bool false, .int .i64 0]) ∧ Below w.heap.size w w' := by
  have HA := Lib.hid ha
  have HB := Lib.hid hb
  have HH := Lib.hid hh
  clear ha hb hh
  have cc := two_boxes af at_ bf bt 23 w
  have hso : ∀ W, Below (w.heap.size + 1 + 1) ((w.alloc (.cells #[.int .i64 af, .int .i64 at_] 23)).alloc (.cells #[.int .i64 bf, .int .i64 bt] 23)) W → Calls Try.prog 25 #[.pointer (some ⟨w.heap.size, 0, none⟩), .pointer (some ⟨w.heap.size + 1, 0, none⟩)] W fun e w' => e = .returned (.bool false) ∧ W = w' := fun W hW => by
    by_cases h1 : af < bt
    · exact meet1_no2 af at_ bf bt h1 (fun h2 => HH.out ⟨h1, h2⟩) _ _ W (cc W hW).1 (cc W hW).2.1 (cc W hW).2.2.1 (cc W hW).2.2.2
    · exact meet1_no1 af at_ bf bt h1 _ _ W (cc W hW).1 (cc W hW).2.1 (cc W hW).2.2.1 (cc W hW).2.2.2
  have HSO := Lib.hid hso
  clear cc hso
  go_enter Try.func13, Try.ntmps13
  go_wp2_with fail
  refine (asked_ok_meet af at_ bf bt HA.out HB.out false _ _ _ (fun W hW => HSO.out W (by simpa using hW))).mono ?_
  rintro e w4 ⟨rfl, hB4⟩
  have HB4 := Lib.hid hB4
  clear hB4
  go_wp2_with fail
  go_ret2
  exact ⟨rfl, (((Below.refl _ _).alloc (Nat.le_refl _) _).alloc (by simp) _).trans (HB4.out.mono (by simp; omega))⟩
theorem meet_bad (af at_ bf bt : Int) (hab : ¬ (may af at_ ∧ may bf bt)) (w : World) :
    Calls Try.prog 13 #[.agg #[.int .i64 af, .int .i64 at_], .agg #[.int .i64 bf, .int .i64 bt]] w fun e w' => e = .returned (.tuple #[.bool false, .int .i64 2]) ∧ Below w.heap.size w w' := by
  have HAB := Lib.hid hab
  clear hab
  go_enter Try.func13, Try.ntmps13
  go_wp2_with fail
  refine (asked_bad_meet af at_ bf bt HAB.out _ _ _).mono ?_
  rintro e w4 ⟨rfl, hB4⟩
  have HB4 := Lib.hid hB4
  clear hB4
  go_wp2_with fail
  go_ret2
  exact ⟨rfl, (((Below.refl _ _).alloc (Nat.le_refl _) _).alloc (by simp) _).trans (HB4.out.mono (by simp; omega))⟩
theorem within_yes (af at_ bf bt : Int) (ha : may af at_) (hb : may bf bt) (hh : bf ≤ af ∧ at_ ≤ bt) (w : World) :
    Calls Try.prog 14 #[.agg #[.int .i64 af, .int .i64 at_], .agg #[.int .i64 bf, .int .i64 bt]] w fun e w' => e = .returned (.tuple #[.bool true, .int .i64 0]) ∧ Below w.heap.size w w' := by
  have HA := Lib.hid ha
  have HB := Lib.hid hb
  have HH := Lib.hid hh
  clear ha hb hh
  have cc := two_boxes af at_ bf bt 23 w
  have hso : ∀ W, Below (w.heap.size + 1 + 1) ((w.alloc (.cells #[.int .i64 af, .int .i64 at_] 23)).alloc (.cells #[.int .i64 bf, .int .i64 bt] 23)) W → Calls Try.prog 26 #[.pointer (some ⟨w.heap.size, 0, none⟩), .pointer (some ⟨w.heap.size + 1, 0, none⟩)] W fun e w' => e = .returned (.bool true) ∧ W = w' := fun W hW => within1_yes af at_ bf bt HH.out.1 HH.out.2 _ _ W (cc W hW).1 (cc W hW).2.1 (cc W hW).2.2.1 (cc W hW).2.2.2
  have HSO := Lib.hid hso
  clear cc hso
  go_enter Try.func14, Try.ntmps14
  go_wp2_with fail
  refine (asked_ok_within af at_ bf bt HA.out HB.out true _ _ _ (fun W hW => HSO.out W (by simpa using hW))).mono ?_
  rintro e w4 ⟨rfl, hB4⟩
  have HB4 := Lib.hid hB4
  clear hB4
  go_wp2_with fail
  go_ret2
  exact ⟨rfl, (((Below.refl _ _).alloc (Nat.le_refl _) _).alloc (by simp) _).trans (HB4.out.mono (by simp; omega))⟩
theorem within_no (af at_ bf bt : Int) (ha : may af at_) (hb : may bf bt) (hh : ¬ (bf ≤ af ∧ at_ ≤ bt)) (w : World) :
    Calls Try.prog 14 #[.agg #[.int .i64 af, .int .i64 at_], .agg #[.int .i64 bf, .int .i64 bt]] w fun e w' => e = .returned (.tuple #[.bool false, .int .i64 0]) ∧ Below w.heap.size w w' := by
  have HA := Lib.hid ha
  have HB := Lib.hid hb
  have HH := Lib.hid hh
  clear ha hb hh
  have cc := two_boxes af at_ bf bt 23 w
  have hso : ∀ W, Below (w.heap.size + 1 + 1) ((w.alloc (.cells #[.int .i64 af, .int .i64 at_] 23)).alloc (.cells #[.int .i64 bf, .int .i64 bt] 23)) W → Calls Try.prog 26 #[.pointer (some ⟨w.heap.size, 0, none⟩), .pointer (some ⟨w.heap.size + 1, 0, none⟩)] W fun e w' => e = .returned (.bool false) ∧ W = w' := fun W hW => by
    by_cases h1 : bf ≤ af
    · exact within1_no2 af at_ bf bt h1 (fun h2 => HH.out ⟨h1, h2⟩) _ _ W (cc W hW).1 (cc W hW).2.1 (cc W hW).2.2.1 (cc W hW).2.2.2
    · exact within1_no1 af at_ bf bt h1 _ _ W (cc W hW).1 (cc W hW).2.1 (cc W hW).2.2.1 (cc W hW).2.2.2
  have HSO := Lib.hid hso
  clear cc hso
  go_enter Try.func14, Try.ntmps14
  go_wp2_with fail
  refine (asked_ok_within af at_ bf bt HA.out HB.out false _ _ _ (fun W hW => HSO.out W (by simpa using hW))).mono ?_
  rintro e w4 ⟨rfl, hB4⟩
  have HB4 := Lib.hid hB4
  clear hB4
  go_wp2_with fail
  go_ret2
  exact ⟨rfl, (((Below.refl _ _).alloc (Nat.le_refl _) _).alloc (by simp) _).trans (HB4.out.mono (by simp; omega))⟩
theorem within_bad (af at_ bf bt : Int) (hab : ¬ (may af at_ ∧ may bf bt)) (w : World) :
    Calls Try.prog 14 #[.agg #[.int .i64 af, .int .i64 at_], .agg #[.int .i64 bf, .int .i64 bt]] w fun e w' => e = .returned (.tuple #[.bool false, .int .i64 2]) ∧ Below w.heap.size w w' := by
  have HAB := Lib.hid hab
  clear hab
  go_enter Try.func14, Try.ntmps14
  go_wp2_with fail
  refine (asked_bad_within af at_ bf bt HAB.out _ _ _).mono ?_
  rintro e w4 ⟨rfl, hB4⟩
  have HB4 := Lib.hid hB4
  clear hB4
  go_wp2_with fail
  go_ret2
  exact ⟨rfl, (((Below.refl _ _).alloc (Nat.le_refl _) _).alloc (by simp) _).trans (HB4.out.mono (by simp; omega))⟩
end Go.Proofs.Ytbmdmhmdjidflaa.TimeAsked
