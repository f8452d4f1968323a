/- slices.Contains of numbers; who waits for a job. No conditions but those named. -/
import Derived.BigQuiet
import Derived.IntWalk
import Derived.Test.YtaldgmmmcbikgaaJobIndex
namespace Go.Proofs.Ytaldgmmmcbikgaa.LooseI
open Go.RowKit Mem PosMath PartMath TurnMath JobMath JobIndex
set_option linter.unusedVariables false
set_option linter.unusedSimpArgs false

set_option maxRecDepth 100000 in
set_option maxHeartbeats 8000000 in
theorem iIndex (X : Option Addr) (cap : Nat) (l : List Int) (n : Int) (hl : l.length ≤ 4611686018427387904) (w : World) (hX : IntsAt w X l) :
    Calls Try.prog 75 #[.slice X l.length cap, .int .i64 n] w fun e w' => ∃ r : Int, e = .returned (.int .i64 r) ∧ decide (0 ≤ r) = decide (n ∈ l) ∧ w' = w := by
  have HX := Lib.hid hX
  clear hX
  go_enter Try.func75, Try.ntmps75
  go_wp2_with fail
  go_loopw [8] (fun i wr => ∃ k : Nat, k ≤ l.length ∧ i = .int .i64 k ∧ Hid (∀ j x, j < k → l[j]? = some x → x ≠ n) ∧ Hid (wr = w))
    (fun i _ => l.length - (intOf i).toNat)
  case atStart => exact ⟨0, Nat.zero_le _, rfl, fun j x h => by omega, rfl⟩
  case round =>
    obtain ⟨k, hk, rfl, hP, hB⟩ := hrel
    by_cases hlt : k < l.length
    · have hg : l[k]? = some l[k] := List.getElem?_eq_getElem hlt
      generalize l[k] = v at hg
      have hki : (k : Int) < (l.length : Int) := by omega
      obtain ⟨b, o, rfl, hb, hx⟩ := HX.out k v hg
      rw [← hB.out] at hx hb
      have HG := Lib.hid hg
      clear hg hb
      by_cases hv : n = v
      · have hv1 : (n == v) = true := by simpa using hv
        have HV := Lib.hid hv
        clear hv
        go_wp2_with fail
        go_ret
        exact ⟨_, rfl, by rw [decide_eq_true (show (0 : Int) ≤ (k : Int) by omega), decide_eq_true (show n ∈ l by rw [HV.out]; exact List.mem_of_getElem? HG.out)], hB.out⟩
      · have hv1 : (n == v) = false := by simpa using hv
        have HV := Lib.hid hv
        clear hv
        go_wp2_with fail
        go_roundw
        case rel => exact ⟨k + 1, by omega, by go_num, (fun j z hj hz => by
            rcases Nat.lt_or_ge j k with h | h
            · exact hP.out j z h hz
            · obtain rfl : j = k := by omega
              rw [HG.out] at hz; cases hz; exact fun e => HV.out e.symm), hB.out⟩
        case measure => simp [intOf]; omega
    · obtain rfl : k = l.length := by omega
      go_wp2_with fail
      go_ret
      refine ⟨_, rfl, ?_, hB.out⟩
      rw [decide_eq_false (show ¬ (0 : Int) ≤ -1 by omega), decide_eq_false]
      intro h
      obtain ⟨i, hi, e⟩ := List.mem_iff_getElem.1 h
      exact hP.out i _ hi (List.getElem?_eq_getElem hi) e
theorem iContains (X : Option Addr) (cap : Nat) (l : List Int) (n : Int) (hl : l.length ≤ 4611686018427387904) (w : World) (hX : IntsAt w X l) :
    Calls Try.prog 63 #[.slice X l.length cap, .int .i64 n] w fun e w' => e = .returned (.bool (decide (n ∈ l))) ∧ w' = w := by
  have H := Lib.hid (iIndex X cap l n hl w hX)
  clear hX
  generalize decide (n ∈ l) = B at *
  go_enter Try.func63, Try.ntmps63
  go_wp2_with fail
  refine H.out.mono ?_
  rintro e w1 ⟨r, rfl, hr, rfl⟩
  have HR := Lib.hid hr
  clear hr H
  go_wp2_with fail
  go_ret
  exact ⟨by rw [← HR.out]; first | rfl | (congr 2), rfl⟩
theorem waits_any (gx : Nat) (n : Int) (y : JV) (Y : Option Addr) (c : Nat) (hl : y.af.length ≤ 4611686018427387904) (w : World) (cx : w.cell? ⟨gx, 0, none⟩ = some (.int .i64 n)) (hY : IntsAt w Y y.af) :
    Calls Try.prog 62 #[.agg #[.int .i64 y.id, .int .i64 y.us, .int .i64 y.cl, .int .i64 y.x.a, .int .i64 y.x.b, .int .i64 y.x.c, .bool y.x.p, .bool y.x.q, .bool y.x.r, .bool y.x.tn, .int .i64 y.wa, .int .i64 y.pr, .bool y.he, .slice Y y.af.length c, .int .u8 y.st, .int .i64 y.ca], .pointer (some ⟨gx, 0, none⟩)] w fun e w' => e = .returned (.bool (decide (n ∈ y.af))) ∧ Below w.heap.size w w' := by
  have hg := cell_lt cx
  have HC := Lib.hid (fun (W : World) (hB : Below w.heap.size w W) => iContains Y c y.af n hl W (hY.up hB))
  clear hY
  go_enter Try.func62, Try.ntmps62
  go_wp2_with fail
  refine (HC.out _ (below_alloc (Below.refl _ _))).mono ?_
  rintro e w1 ⟨rfl, rfl⟩
  go_wp2_with fail
  go_ret
  exact ⟨rfl, below_alloc (Below.refl _ _)⟩
theorem anyOf_any {l : List JV} {f : JV → Bool} {b : Bool} (h : AnyOf l (fun _ y => f y) b) : b = l.any f := by
  rcases h with ⟨rfl, h⟩ | ⟨rfl, k, v, hk, hv, _⟩
  · symm
    rw [List.any_eq_false]
    intro x hx
    obtain ⟨i, hi, e⟩ := List.mem_iff_getElem.1 hx
    have := h i x (by rw [List.getElem?_eq_getElem hi, e])
    simp [this]
  · symm
    exact List.any_eq_true.2 ⟨v, List.mem_of_getElem? hk, hv⟩
theorem any_waits (gx : Nat) (n : Int) (X : Option Addr) (cap : Nat) (l : List JV) (hl : l.length ≤ 4611686018427387904) (hla : ∀ j ∈ l, j.af.length ≤ 4611686018427387904) (w : World) (cx : w.cell? ⟨gx, 0, none⟩ = some (.int .i64 n)) (hX : JobsAt w X l) :
    Calls Try.prog 64 #[.slice X l.length cap, .func (.func 62) #[] #[.pointer (some ⟨gx, 0, none⟩)]] w fun e w' => e = .returned (.bool (l.any fun y => decide (n ∈ y.af))) ∧ Below w.heap.size w w' := by
  refine (jContainsFunc X cap l (fun _ y => decide (n ∈ y.af)) (fun _ w' => Below w.heap.size w w' ∧ w'.cell? ⟨gx, 0, none⟩ = some (.int .i64 n)) 62 #[.pointer (some ⟨gx, 0, none⟩)] hl w ⟨Below.refl _ _, cx⟩ (fun k w' h => hX.up h.1) (enters_of Try.func62 (by kernel_rfl) rfl)
    (fun k v hk w' Y c hY h => (waits_any gx n v Y c (hla v (List.mem_of_getElem? hk)) w' h.2 hY).mono fun e w'' h2 => ⟨h2.1, below_up h.1 h2.2, keep_cell h.2 h2.2⟩)).mono ?_
  rintro e w1 ⟨b, rfl, hb, k, hI⟩
  rw [anyOf_any hb]
  exact ⟨rfl, hI.1⟩
end Go.Proofs.Ytaldgmmmcbikgaa.LooseI
