/- The contracts of part.within, of the check of a class, of slices.ContainsFunc over classes, and the reference's. -/
import Derived.Test.YtaldgmmmcbikgaaRows
import Derived.Test.YtaldgmmmcbikgaaMem
import Derived.Test.YtaldgmmmcbikgaaPartMath
import Derived.WalkKit
import Derived.WalkLawsBesides
import Derived.WalkSpells
import Derived.Outline
import Derived.IntWalk
import Derived.Lib.Hide
namespace Go.Proofs.Ytaldgmmmcbikgaa.PartClass
open Go.RowKit Mem PartMath
set_option linter.unusedVariables false

set_option maxHeartbeats 1000000 in
theorem within_to (n lo hi : Int) (r : Bool) (h : inB n lo hi = r) (w : World) :
    Calls Try.prog 46 #[.int .i64 n, .int .i64 lo, .int .i64 hi] w fun e w' => e = .returned (.bool r) ∧ w = w' := by
  unfold inB at h
  by_cases h1 : lo ≤ n
  · by_cases h2 : n ≤ hi
    · have e : r = true := by rw [← h]; simp [h1, h2]
      subst e
      clear h
      go_enter Try.func46, Try.ntmps46
      go_wp2
      go_ret
      exact ⟨rfl, rfl⟩
    · have e : r = false := by rw [← h]; simp [h2]
      subst e
      clear h
      go_enter Try.func46, Try.ntmps46
      go_wp2
      go_ret
      exact ⟨rfl, rfl⟩
  · have e : r = false := by rw [← h]; simp [h1]
    subst e
    clear h
    go_enter Try.func46, Try.ntmps46
    go_wp2
    go_ret
    exact ⟨rfl, rfl⟩
set_option maxHeartbeats 1000000 in
theorem in_to (n lo hi : Int) (r : Bool) (h : inB n lo hi = r) (w : World) :
    Calls Try.prog 54 #[.int .i64 n, .int .i64 lo, .int .i64 hi] w fun e w' => e = .returned (.bool r) ∧ w = w' := by
  unfold inB at h
  by_cases h1 : lo ≤ n
  · by_cases h2 : n ≤ hi
    · have e : r = true := by rw [← h]; simp [h1, h2]
      subst e
      clear h
      go_enter Try.func54, Try.ntmps54
      go_wp2
      go_ret
      exact ⟨rfl, rfl⟩
    · have e : r = false := by rw [← h]; simp [h2]
      subst e
      clear h
      go_enter Try.func54, Try.ntmps54
      go_wp2
      go_ret
      exact ⟨rfl, rfl⟩
  · have e : r = false := by rw [← h]; simp [h1]
    subst e
    clear h
    go_enter Try.func54, Try.ntmps54
    go_wp2
    go_ret
    exact ⟨rfl, rfl⟩
set_option maxRecDepth 100000 in
set_option maxHeartbeats 1000000 in
theorem odd0 (p q r s : Int)  (h0 : inB p (-1000) 1000 = false) (w : World) :
    Calls Try.prog 45 #[.agg #[.int .i64 p, .int .i64 q, .int .i64 r, .int .i64 s]] w fun e w' => e = .returned (.bool true) ∧ Below w.heap.size w w' := by
  have H0 := Lib.hid h0
  clear h0
  go_enter Try.func45, Try.ntmps45
  go_wp2_with fail
  refine (within_to _ _ _ _ H0.out _).mono ?_
  rintro e w' ⟨rfl, rfl⟩
  go_wp2_with fail
  go_ret
  exact ⟨rfl, (below_alloc (Below.refl _ _))⟩
set_option maxRecDepth 100000 in
set_option maxHeartbeats 1000000 in
theorem odd1 (p q r s : Int) (h0 : inB p (-1000) 1000 = true) (h1 : inB q 1 1048576 = false) (w : World) :
    Calls Try.prog 45 #[.agg #[.int .i64 p, .int .i64 q, .int .i64 r, .int .i64 s]] w fun e w' => e = .returned (.bool true) ∧ Below w.heap.size w w' := by
  have H0 := Lib.hid h0
  have H1 := Lib.hid h1
  clear h0 h1
  go_enter Try.func45, Try.ntmps45
  go_wp2_with fail
  refine (within_to _ _ _ _ H0.out _).mono ?_
  rintro e w' ⟨rfl, rfl⟩
  go_wp2_with fail
  refine (within_to _ _ _ _ H1.out _).mono ?_
  rintro e w' ⟨rfl, rfl⟩
  go_wp2_with fail
  go_ret
  exact ⟨rfl, (below_alloc (Below.refl _ _))⟩
set_option maxRecDepth 100000 in
set_option maxHeartbeats 1000000 in
theorem odd2 (p q r s : Int) (h0 : inB p (-1000) 1000 = true) (h1 : inB q 1 1048576 = true) (h2 : inB r 1 4096 = false) (w : World) :
    Calls Try.prog 45 #[.agg #[.int .i64 p, .int .i64 q, .int .i64 r, .int .i64 s]] w fun e w' => e = .returned (.bool true) ∧ Below w.heap.size w w' := by
  have H0 := Lib.hid h0
  have H1 := Lib.hid h1
  have H2 := Lib.hid h2
  clear h0 h1 h2
  go_enter Try.func45, Try.ntmps45
  go_wp2_with fail
  refine (within_to _ _ _ _ H0.out _).mono ?_
  rintro e w' ⟨rfl, rfl⟩
  go_wp2_with fail
  refine (within_to _ _ _ _ H1.out _).mono ?_
  rintro e w' ⟨rfl, rfl⟩
  go_wp2_with fail
  refine (within_to _ _ _ _ H2.out _).mono ?_
  rintro e w' ⟨rfl, rfl⟩
  go_wp2_with fail
  go_ret
  exact ⟨rfl, (below_alloc (Below.refl _ _))⟩
set_option maxRecDepth 100000 in
set_option maxHeartbeats 1000000 in
theorem odd3 (p q r s : Int) (h0 : inB p (-1000) 1000 = true) (h1 : inB q 1 1048576 = true) (h2 : inB r 1 4096 = true) (h3 : inB s 1 24 = false) (w : World) :
    Calls Try.prog 45 #[.agg #[.int .i64 p, .int .i64 q, .int .i64 r, .int .i64 s]] w fun e w' => e = .returned (.bool true) ∧ Below w.heap.size w w' := by
  have H0 := Lib.hid h0
  have H1 := Lib.hid h1
  have H2 := Lib.hid h2
  have H3 := Lib.hid h3
  clear h0 h1 h2 h3
  go_enter Try.func45, Try.ntmps45
  go_wp2_with fail
  refine (within_to _ _ _ _ H0.out _).mono ?_
  rintro e w' ⟨rfl, rfl⟩
  go_wp2_with fail
  refine (within_to _ _ _ _ H1.out _).mono ?_
  rintro e w' ⟨rfl, rfl⟩
  go_wp2_with fail
  refine (within_to _ _ _ _ H2.out _).mono ?_
  rintro e w' ⟨rfl, rfl⟩
  go_wp2_with fail
  refine (within_to _ _ _ _ H3.out _).mono ?_
  rintro e w' ⟨rfl, rfl⟩
  go_wp2_with fail
  go_ret
  exact ⟨rfl, (below_alloc (Below.refl _ _))⟩
set_option maxRecDepth 100000 in
set_option maxHeartbeats 1000000 in
theorem odd4 (p q r s : Int) (h0 : inB p (-1000) 1000 = true) (h1 : inB q 1 1048576 = true) (h2 : inB r 1 4096 = true) (h3 : inB s 1 24 = true) (w : World) :
    Calls Try.prog 45 #[.agg #[.int .i64 p, .int .i64 q, .int .i64 r, .int .i64 s]] w fun e w' => e = .returned (.bool false) ∧ Below w.heap.size w w' := by
  have H0 := Lib.hid h0
  have H1 := Lib.hid h1
  have H2 := Lib.hid h2
  have H3 := Lib.hid h3
  clear h0 h1 h2 h3
  go_enter Try.func45, Try.ntmps45
  go_wp2_with fail
  refine (within_to _ _ _ _ H0.out _).mono ?_
  rintro e w' ⟨rfl, rfl⟩
  go_wp2_with fail
  refine (within_to _ _ _ _ H1.out _).mono ?_
  rintro e w' ⟨rfl, rfl⟩
  go_wp2_with fail
  refine (within_to _ _ _ _ H2.out _).mono ?_
  rintro e w' ⟨rfl, rfl⟩
  go_wp2_with fail
  refine (within_to _ _ _ _ H3.out _).mono ?_
  rintro e w' ⟨rfl, rfl⟩
  go_wp2_with fail
  go_ret
  exact ⟨rfl, (below_alloc (Below.refl _ _))⟩
theorem odd_to (k : Cls) (b : Bool) (h : clsB k = !b) (w : World) :
    Calls Try.prog 45 #[.agg (clsA k)] w fun e w' => e = .returned (.bool b) ∧ Below w.heap.size w w' := by
  obtain ⟨p, q, r, s⟩ := k
  unfold clsB at h
  dsimp only [clsA] at h ⊢
  cases h0 : inB p (-1000) 1000
  · rw [h0] at h
    obtain rfl : b = true := by simpa using h
    exact odd0 p q r s h0 w
  · cases h1 : inB q 1 1048576
    · rw [h0, h1] at h
      obtain rfl : b = true := by simpa using h
      exact odd1 p q r s h0 h1 w
    · cases h2 : inB r 1 4096
      · rw [h0, h1, h2] at h
        obtain rfl : b = true := by simpa using h
        exact odd2 p q r s h0 h1 h2 w
      · cases h3 : inB s 1 24
        · rw [h0, h1, h2, h3] at h
          obtain rfl : b = true := by simpa using h
          exact odd3 p q r s h0 h1 h2 h3 w
        · rw [h0, h1, h2, h3] at h
          obtain rfl : b = false := by simpa using h
          exact odd4 p q r s h0 h1 h2 h3 w
set_option maxRecDepth 100000 in
set_option maxHeartbeats 1000000 in
theorem class0 (p q r s : Int)  (h0 : inB p (-1000) 1000 = false) (w : World) :
    Calls Try.prog 55 #[.agg #[.int .i64 p, .int .i64 q, .int .i64 r, .int .i64 s]] w fun e w' => e = .returned (.bool false) ∧ Below w.heap.size w w' := by
  have H0 := Lib.hid h0
  clear h0
  go_enter Try.func55, Try.ntmps55
  go_wp2_with fail
  refine (in_to _ _ _ _ H0.out _).mono ?_
  rintro e w' ⟨rfl, rfl⟩
  go_wp2_with fail
  go_ret
  exact ⟨rfl, (below_alloc (Below.refl _ _))⟩
set_option maxRecDepth 100000 in
set_option maxHeartbeats 1000000 in
theorem class1 (p q r s : Int) (h0 : inB p (-1000) 1000 = true) (h1 : inB q 1 1048576 = false) (w : World) :
    Calls Try.prog 55 #[.agg #[.int .i64 p, .int .i64 q, .int .i64 r, .int .i64 s]] w fun e w' => e = .returned (.bool false) ∧ Below w.heap.size w w' := by
  have H0 := Lib.hid h0
  have H1 := Lib.hid h1
  clear h0 h1
  go_enter Try.func55, Try.ntmps55
  go_wp2_with fail
  refine (in_to _ _ _ _ H0.out _).mono ?_
  rintro e w' ⟨rfl, rfl⟩
  go_wp2_with fail
  refine (in_to _ _ _ _ H1.out _).mono ?_
  rintro e w' ⟨rfl, rfl⟩
  go_wp2_with fail
  go_ret
  exact ⟨rfl, (below_alloc (Below.refl _ _))⟩
set_option maxRecDepth 100000 in
set_option maxHeartbeats 1000000 in
theorem class2 (p q r s : Int) (h0 : inB p (-1000) 1000 = true) (h1 : inB q 1 1048576 = true) (h2 : inB r 1 4096 = false) (w : World) :
    Calls Try.prog 55 #[.agg #[.int .i64 p, .int .i64 q, .int .i64 r, .int .i64 s]] w fun e w' => e = .returned (.bool false) ∧ Below w.heap.size w w' := by
  have H0 := Lib.hid h0
  have H1 := Lib.hid h1
  have H2 := Lib.hid h2
  clear h0 h1 h2
  go_enter Try.func55, Try.ntmps55
  go_wp2_with fail
  refine (in_to _ _ _ _ H0.out _).mono ?_
  rintro e w' ⟨rfl, rfl⟩
  go_wp2_with fail
  refine (in_to _ _ _ _ H1.out _).mono ?_
  rintro e w' ⟨rfl, rfl⟩
  go_wp2_with fail
  refine (in_to _ _ _ _ H2.out _).mono ?_
  rintro e w' ⟨rfl, rfl⟩
  go_wp2_with fail
  go_ret
  exact ⟨rfl, (below_alloc (Below.refl _ _))⟩
set_option maxRecDepth 100000 in
set_option maxHeartbeats 1000000 in
theorem class3 (p q r s : Int) (h0 : inB p (-1000) 1000 = true) (h1 : inB q 1 1048576 = true) (h2 : inB r 1 4096 = true) (h3 : inB s 1 24 = false) (w : World) :
    Calls Try.prog 55 #[.agg #[.int .i64 p, .int .i64 q, .int .i64 r, .int .i64 s]] w fun e w' => e = .returned (.bool false) ∧ Below w.heap.size w w' := by
  have H0 := Lib.hid h0
  have H1 := Lib.hid h1
  have H2 := Lib.hid h2
  have H3 := Lib.hid h3
  clear h0 h1 h2 h3
  go_enter Try.func55, Try.ntmps55
  go_wp2_with fail
  refine (in_to _ _ _ _ H0.out _).mono ?_
  rintro e w' ⟨rfl, rfl⟩
  go_wp2_with fail
  refine (in_to _ _ _ _ H1.out _).mono ?_
  rintro e w' ⟨rfl, rfl⟩
  go_wp2_with fail
  refine (in_to _ _ _ _ H2.out _).mono ?_
  rintro e w' ⟨rfl, rfl⟩
  go_wp2_with fail
  refine (in_to _ _ _ _ H3.out _).mono ?_
  rintro e w' ⟨rfl, rfl⟩
  go_wp2_with fail
  go_ret
  exact ⟨rfl, (below_alloc (Below.refl _ _))⟩
set_option maxRecDepth 100000 in
set_option maxHeartbeats 1000000 in
theorem class4 (p q r s : Int) (h0 : inB p (-1000) 1000 = true) (h1 : inB q 1 1048576 = true) (h2 : inB r 1 4096 = true) (h3 : inB s 1 24 = true) (w : World) :
    Calls Try.prog 55 #[.agg #[.int .i64 p, .int .i64 q, .int .i64 r, .int .i64 s]] w fun e w' => e = .returned (.bool true) ∧ Below w.heap.size w w' := by
  have H0 := Lib.hid h0
  have H1 := Lib.hid h1
  have H2 := Lib.hid h2
  have H3 := Lib.hid h3
  clear h0 h1 h2 h3
  go_enter Try.func55, Try.ntmps55
  go_wp2_with fail
  refine (in_to _ _ _ _ H0.out _).mono ?_
  rintro e w' ⟨rfl, rfl⟩
  go_wp2_with fail
  refine (in_to _ _ _ _ H1.out _).mono ?_
  rintro e w' ⟨rfl, rfl⟩
  go_wp2_with fail
  refine (in_to _ _ _ _ H2.out _).mono ?_
  rintro e w' ⟨rfl, rfl⟩
  go_wp2_with fail
  refine (in_to _ _ _ _ H3.out _).mono ?_
  rintro e w' ⟨rfl, rfl⟩
  go_wp2_with fail
  go_ret
  exact ⟨rfl, (below_alloc (Below.refl _ _))⟩
theorem class_to (k : Cls) (b : Bool) (h : clsB k = b) (w : World) :
    Calls Try.prog 55 #[.agg (clsA k)] w fun e w' => e = .returned (.bool b) ∧ Below w.heap.size w w' := by
  obtain ⟨p, q, r, s⟩ := k
  unfold clsB at h
  dsimp only [clsA] at h ⊢
  cases h0 : inB p (-1000) 1000
  · rw [h0] at h
    obtain rfl : b = false := by simpa using h
    exact class0 p q r s h0 w
  · cases h1 : inB q 1 1048576
    · rw [h0, h1] at h
      obtain rfl : b = false := by simpa using h
      exact class1 p q r s h0 h1 w
    · cases h2 : inB r 1 4096
      · rw [h0, h1, h2] at h
        obtain rfl : b = false := by simpa using h
        exact class2 p q r s h0 h1 h2 w
      · cases h3 : inB s 1 24
        · rw [h0, h1, h2, h3] at h
          obtain rfl : b = false := by simpa using h
          exact class3 p q r s h0 h1 h2 h3 w
        · rw [h0, h1, h2, h3] at h
          obtain rfl : b = true := by simpa using h
          exact class4 p q r s h0 h1 h2 h3 w
/-- An index was found. -/
def Found (w : World) (e : Ending) (w' : World) : Prop := ∃ v : Int, 0 ≤ v ∧ e = .returned (.int .i64 v) ∧ Below w.heap.size w w'
set_option maxRecDepth 100000 in
set_option maxHeartbeats 2000000 in
theorem index_all (X : Option Addr) (c : Nat) (ks : List Cls) (hl : ks.length ≤ 4611686018427387904) (w : World) (hk : ClsAt w w.heap.size X ks) (hall : ∀ k ∈ ks, clsB k = true) :
    Calls Try.prog 66 #[.slice X ks.length c, .func (.func 45) #[] #[]] w (fun e w' => e = .returned (.int .i64 (-1)) ∧ Below w.heap.size w w') := by
  have HK := Lib.hid hk
  have HA := Lib.hid hall
  clear hk hall
  go_enter Try.func66, Try.ntmps66
  go_wp2_with fail
  go_loopw [8] (fun i wr => ∃ k : Nat, k ≤ ks.length ∧ i = .int .i64 k ∧ Hid (Below w.heap.size w wr) ∧ Hid (∀ j x, j < k → ks[j]? = some x → clsB x = true))
    (fun i _ => ks.length - (intOf i).toNat)
  case atStart => exact ⟨0, Nat.zero_le _, rfl, Below.refl _ _, fun j x h => by omega⟩
  case round =>
    obtain ⟨k, hk, rfl, hB, hP⟩ := hrel
    by_cases hlt : k < ks.length
    · have hg : ks[k]? = some ks[k] := List.getElem?_eq_getElem hlt
      generalize ks[k] = x at hg
      obtain ⟨b, o, rfl, hb, x0, x1, x2, x3⟩ := HK.out k x hg
      have y0 : wr.cell? ⟨b, o + k * 4, none⟩ = some (.int .i64 x.1) := (hB.out.cell (p := ⟨b, o + k * 4, none⟩) hb).trans x0
      have y1 : wr.cell? ⟨b, o + k * 4 + 1, none⟩ = some (.int .i64 x.2.1) := (hB.out.cell (p := ⟨b, o + k * 4 + 1, none⟩) hb).trans x1
      have y2 : wr.cell? ⟨b, o + k * 4 + 2, none⟩ = some (.int .i64 x.2.2.1) := (hB.out.cell (p := ⟨b, o + k * 4 + 2, none⟩) hb).trans x2
      have y3 : wr.cell? ⟨b, o + k * 4 + 3, none⟩ = some (.int .i64 x.2.2.2) := (hB.out.cell (p := ⟨b, o + k * 4 + 3, none⟩) hb).trans x3
      have HG := Lib.hid hg
      clear hg x0 x1 x2 x3
      have hc : clsB x = !false := HA.out x (List.mem_of_getElem? HG.out)
      have HC := Lib.hid hc
      clear hc
      go_wp2_with fail
      refine (odd_to x false HC.out _).mono ?_
      rintro e w1 ⟨rfl, hB1⟩
      have HB1 := Lib.hid (below_up hB.out hB1)
      clear hB1 y0 y1 y2 y3
      go_wp2_with fail
      go_roundw
      case rel => exact ⟨k + 1, by omega, by go_num, HB1.out, fun j z hj hz => by
        rcases Nat.lt_or_ge j k with h | h
        · exact hP.out j z h hz
        · obtain rfl : j = k := by omega
          rw [HG.out] at hz; cases hz; exact HC.out⟩
      case measure => simp [intOf]; omega
    · obtain rfl : k = ks.length := by omega
      go_wp2_with fail
      go_ret
      exact ⟨rfl, hB.out⟩
set_option maxRecDepth 100000 in
set_option maxHeartbeats 2000000 in
theorem index_some (X : Option Addr) (c : Nat) (ks : List Cls) (hl : ks.length ≤ 4611686018427387904) (w : World) (hk : ClsAt w w.heap.size X ks) (hsome : ¬ ∀ k ∈ ks, clsB k = true) :
    Calls Try.prog 66 #[.slice X ks.length c, .func (.func 45) #[] #[]] w (Found w) := by
  have HK := Lib.hid hk
  have HA := Lib.hid hsome
  clear hk hsome
  go_enter Try.func66, Try.ntmps66
  go_wp2_with fail
  go_loopw [8] (fun i wr => ∃ k : Nat, k ≤ ks.length ∧ i = .int .i64 k ∧ Hid (Below w.heap.size w wr) ∧ Hid (∀ j x, j < k → ks[j]? = some x → clsB x = true))
    (fun i _ => ks.length - (intOf i).toNat)
  case atStart => exact ⟨0, Nat.zero_le _, rfl, Below.refl _ _, fun j x h => by omega⟩
  case round =>
    obtain ⟨k, hk, rfl, hB, hP⟩ := hrel
    by_cases hlt : k < ks.length
    · have hg : ks[k]? = some ks[k] := List.getElem?_eq_getElem hlt
      generalize ks[k] = x at hg
      obtain ⟨b, o, rfl, hb, x0, x1, x2, x3⟩ := HK.out k x hg
      have y0 : wr.cell? ⟨b, o + k * 4, none⟩ = some (.int .i64 x.1) := (hB.out.cell (p := ⟨b, o + k * 4, none⟩) hb).trans x0
      have y1 : wr.cell? ⟨b, o + k * 4 + 1, none⟩ = some (.int .i64 x.2.1) := (hB.out.cell (p := ⟨b, o + k * 4 + 1, none⟩) hb).trans x1
      have y2 : wr.cell? ⟨b, o + k * 4 + 2, none⟩ = some (.int .i64 x.2.2.1) := (hB.out.cell (p := ⟨b, o + k * 4 + 2, none⟩) hb).trans x2
      have y3 : wr.cell? ⟨b, o + k * 4 + 3, none⟩ = some (.int .i64 x.2.2.2) := (hB.out.cell (p := ⟨b, o + k * 4 + 3, none⟩) hb).trans x3
      have HG := Lib.hid hg
      clear hg x0 x1 x2 x3
      cases hc : clsB x
      · have HC := Lib.hid (show clsB x = !true from hc)
        clear hc
        go_wp2_with fail
        refine (odd_to x true HC.out _).mono ?_
        rintro e w1 ⟨rfl, hB1⟩
        have HB1 := Lib.hid (below_up hB.out hB1)
        clear hB1 y0 y1 y2 y3
        go_wp2_with fail
        go_ret
        exact ⟨k, by omega, rfl, HB1.out⟩
      · have HC := Lib.hid (show clsB x = !false from hc)
        clear hc
        go_wp2_with fail
        refine (odd_to x false HC.out _).mono ?_
        rintro e w1 ⟨rfl, hB1⟩
        have HB1 := Lib.hid (below_up hB.out hB1)
        clear hB1 y0 y1 y2 y3
        go_wp2_with fail
        go_roundw
        case rel => exact ⟨k + 1, by omega, by go_num, HB1.out, fun j z hj hz => by
          rcases Nat.lt_or_ge j k with h | h
          · exact hP.out j z h hz
          · obtain rfl : j = k := by omega
            rw [HG.out] at hz; cases hz; exact HC.out⟩
        case measure => simp [intOf]; omega
    · obtain rfl : k = ks.length := by omega
      exfalso
      refine HA.out (fun x hx => ?_)
      obtain ⟨j, hj, e⟩ := List.mem_iff_getElem.1 hx
      exact hP.out j x hj (by rw [List.getElem?_eq_getElem hj, e])
set_option maxHeartbeats 1000000 in
theorem contains_to (X : Option Addr) (c : Nat) (ks : List Cls) (hl : ks.length ≤ 4611686018427387904) (b : Bool) (hb : ks.all clsB = !b) (w : World) (hk : ClsAt w w.heap.size X ks) :
    Calls Try.prog 48 #[.slice X ks.length c, .func (.func 45) #[] #[]] w fun e w' => e = .returned (.bool b) ∧ Below w.heap.size w w' := by
  have HK := Lib.hid hk
  clear hk
  cases b with
  | false =>
    have ha : ∀ k ∈ ks, clsB k = true := by simpa using hb
    have HA := Lib.hid ha
    clear ha hb
    go_enter Try.func48, Try.ntmps48
    go_wp2_with fail
    refine (index_all X c ks hl _ HK.out HA.out).mono ?_
    rintro e w1 ⟨rfl, hB1⟩
    have HB1 := Lib.hid hB1
    clear hB1
    go_wp2_with fail
    go_ret
    exact ⟨rfl, HB1.out⟩
  | true =>
    have ha : ¬ ∀ k ∈ ks, clsB k = true := fun h => by
      have : ks.all clsB = true := by simpa using h
      rw [this] at hb; cases hb
    have HA := Lib.hid ha
    clear ha hb
    go_enter Try.func48, Try.ntmps48
    go_wp2_with fail
    refine (index_some X c ks hl _ HK.out HA.out).mono ?_
    rintro e w1 ⟨v, hv, rfl, hB1⟩
    have HB1 := Lib.hid hB1
    clear hB1
    go_wp2_with fail
    go_ret
    exact ⟨rfl, HB1.out⟩
end Go.Proofs.Ytaldgmmmcbikgaa.PartClass
