/- The reference: areas, logs, acts are checked; great logs. -/
import Derived.BigQuiet
import Derived.Deep.QuietTactic
import Derived.Lib.SliceRun
import Derived.Test.YtfdldbfjeamlcaaLogProg
namespace Go.Proofs.Ytfdldbfjeamlcaa.LogRef1
open Go.RowKit Mem LogMath LogProg
set_option linter.unusedVariables false
set_option linter.unusedSimpArgs false

set_option maxHeartbeats 2000000 in
theorem rArea (x : AV) (X : Option Addr) (ca : Nat) (w : World) :
    Calls Try.prog 95 #[.agg #[.slice X x.t.length ca, .int .i64 x.k]] w fun e w' => e = .returned (.bool (mayA x)) ∧ Below w.heap.size w w' := by
  have hm : mayA x = (decide ((x.t.length : Int) ≤ 262144) && (decide (0 ≤ x.k) && decide (x.k ≤ (x.t.length : Int)))) := rfl
  have HM := Lib.hid hm
  clear hm
  by_cases h1 : (x.t.length : Int) ≤ 262144
  · by_cases h2 : 0 ≤ x.k
    · by_cases h3 : x.k ≤ (x.t.length : Int)
      · go_enter Try.func95, Try.ntmps95
        go_wp2_with fail
        go_ret
        exact ⟨by rw [HM.out, decide_eq_true h1, decide_eq_true h2, decide_eq_true h3]; rfl, below_alloc (Below.refl _ _)⟩
      · go_enter Try.func95, Try.ntmps95
        go_wp2_with fail
        go_ret
        exact ⟨by rw [HM.out, decide_eq_true h1, decide_eq_true h2, decide_eq_false (show ¬ x.k ≤ (x.t.length : Int) by omega)]; rfl, below_alloc (Below.refl _ _)⟩
    · go_enter Try.func95, Try.ntmps95
      go_wp2_with fail
      go_ret
      exact ⟨by rw [HM.out, decide_eq_true h1, decide_eq_false (show ¬ 0 ≤ x.k by omega)]; rfl, below_alloc (Below.refl _ _)⟩
  · go_enter Try.func95, Try.ntmps95
    go_wp2_with fail
    go_ret
    exact ⟨by rw [HM.out, decide_eq_false (show ¬ (x.t.length : Int) ≤ 262144 by omega)]; rfl, below_alloc (Below.refl _ _)⟩
set_option maxHeartbeats 2000000 in
theorem rMay (x y : AV) (X : Option Addr) (ca : Nat) (Y : Option Addr) (cb : Nat) (w : World) :
    Calls Try.prog 60 #[.agg #[.slice X x.t.length ca, .int .i64 x.k, .slice Y y.t.length cb, .int .i64 y.k]] w fun e w' => e = .returned (.bool (mayL ⟨x, y⟩)) ∧ Below w.heap.size w w' := by
  cases hx : mayA x
  · go_enter Try.func60, Try.ntmps60
    go_wp2_with fail
    refine (rArea x X ca _).mono ?_
    rintro e w1 ⟨rfl, hB1⟩
    rw [hx]
    have HB := Lib.hid (below_up (below_alloc (Below.refl _ _)) hB1)
    clear hB1
    go_wp2_with fail
    go_ret
    exact ⟨by rw [mayL_a hx]; rfl, HB.out⟩
  · go_enter Try.func60, Try.ntmps60
    go_wp2_with fail
    refine (rArea x X ca _).mono ?_
    rintro e w1 ⟨rfl, hB1⟩
    rw [hx]
    have hb := (Blk.new w 70 #[.slice X x.t.length ca, .int .i64 x.k, .slice Y y.t.length cb, .int .i64 y.k]).below hB1 (by simp)
    have y0 : w1.cell? ⟨w.heap.size, 0, none⟩ = some (.slice X x.t.length ca) := hb.cell 0
    have y1 : w1.cell? ⟨w.heap.size, 1, none⟩ = some (.int .i64 x.k) := hb.cell 1
    have y2 : w1.cell? ⟨w.heap.size, 2, none⟩ = some (.slice Y y.t.length cb) := hb.cell 2
    have y3 : w1.cell? ⟨w.heap.size, 3, none⟩ = some (.int .i64 y.k) := hb.cell 3
    have HB := Lib.hid (below_up (below_alloc (Below.refl _ _)) hB1)
    clear hB1 hb
    go_wp2_with fail
    refine (rArea y Y cb _).mono ?_
    rintro e w2 ⟨rfl, hB2⟩
    have HB2 := Lib.hid (below_up HB.out hB2)
    clear hB2
    go_wp2_with fail
    go_ret
    exact ⟨by rw [show mayL ⟨x, y⟩ = mayA y from by unfold mayL; rw [hx]; rfl]; rfl, HB2.out⟩
set_option maxHeartbeats 2000000 in
theorem rCheck (x y : AV) (X : Option Addr) (ca : Nat) (Y : Option Addr) (cb : Nat) (w : World) :
    Calls Try.prog 34 #[.agg #[.slice X x.t.length ca, .int .i64 x.k, .slice Y y.t.length cb, .int .i64 y.k]] w fun e w' => e = .returned (.int .i64 (checkL ⟨x, y⟩)) ∧ Below w.heap.size w w' := by
  have hc : checkL ⟨x, y⟩ = if mayL ⟨x, y⟩ then 0 else 8 := rfl
  have HC := Lib.hid hc
  clear hc
  go_enter Try.func34, Try.ntmps34
  go_wp2_with fail
  refine (rMay x y X ca Y cb _).mono ?_
  rintro e w1 ⟨rfl, hB1⟩
  have HB := Lib.hid (below_up (below_alloc (Below.refl _ _)) hB1)
  clear hB1
  generalize mayL ⟨x, y⟩ = m at *
  cases m
  · go_wp2_with fail
    go_ret
    exact ⟨by rw [HC.out]; rfl, HB.out⟩
  · go_wp2_with fail
    go_ret
    exact ⟨by rw [HC.out]; rfl, HB.out⟩
def greatL (x y : AV) : Bool := decide ((300000 : Int) < x.t.length) || decide ((300000 : Int) < y.t.length)
set_option maxHeartbeats 2000000 in
theorem rGreat (x y : AV) (X : Option Addr) (ca : Nat) (Y : Option Addr) (cb : Nat) (w : World) :
    Calls Try.prog 26 #[.agg #[.slice X x.t.length ca, .int .i64 x.k, .slice Y y.t.length cb, .int .i64 y.k]] w fun e w' => e = .returned (.bool (greatL x y)) ∧ Below w.heap.size w w' := by
  have hg : greatL x y = (decide ((300000 : Int) < x.t.length) || decide ((300000 : Int) < y.t.length)) := rfl
  have HG := Lib.hid hg
  clear hg
  by_cases h1 : (300000 : Int) < x.t.length
  · go_enter Try.func26, Try.ntmps26
    go_wp2_with fail
    go_ret
    exact ⟨by rw [HG.out, decide_eq_true h1]; rfl, below_alloc (Below.refl _ _)⟩
  · by_cases h2 : (300000 : Int) < y.t.length
    · go_enter Try.func26, Try.ntmps26
      go_wp2_with fail
      go_ret
      exact ⟨by rw [HG.out, decide_eq_false (show ¬ (300000 : Int) < x.t.length by omega), decide_eq_true h2]; rfl, below_alloc (Below.refl _ _)⟩
    · go_enter Try.func26, Try.ntmps26
      go_wp2_with fail
      go_ret
      exact ⟨by rw [HG.out, decide_eq_false (show ¬ (300000 : Int) < x.t.length by omega), decide_eq_false (show ¬ (300000 : Int) < y.t.length by omega)]; rfl, below_alloc (Below.refl _ _)⟩
set_option maxHeartbeats 4000000 in
theorem rMayAct (kd ar : Int) (T : Option Addr) (ct : Nat) (tx : List Int) (w : World) :
    Calls Try.prog 61 #[.agg #[.int .u8 kd, .int .i64 ar, .slice T tx.length ct]] w fun e w' => e = .returned (.bool (mayAct kd ar tx)) ∧ Below w.heap.size w w' := by
  have hg : mayAct kd ar tx = ((decide (ar = 0) || decide (ar = 1)) && (decide (kd = 2) || ((decide (kd = 1) || decide (kd = 3)) && decide (tx.length = 0)))) := rfl
  have HG := Lib.hid hg
  clear hg
  by_cases a0 : ar = 0 ∨ ar = 1
  · have HG2 : Hid (mayAct kd ar tx = (decide (kd = 2) || ((decide (kd = 1) || decide (kd = 3)) && decide (tx.length = 0)))) := by
      have h := HG.out
      rw [show (decide (ar = 0) || decide (ar = 1)) = true from by rcases a0 with h | h <;> simp [h], Bool.true_and] at h
      exact h
    clear HG
    by_cases k2 : kd = 2
    · subst k2
      rcases a0 with rfl | rfl
      all_goals
        go_enter Try.func61, Try.ntmps61
        go_wp2_with fail
        go_ret
        exact ⟨by rw [HG2.out]; rfl, below_alloc (Below.refl _ _)⟩
    · have e2 : (kd == 2) = false := by simpa using k2
      by_cases k1 : kd = 1 ∨ kd = 3
      · by_cases h0 : tx.length = 0
        · have e0 : ((tx.length : Int) == 0) = true := by rw [beq_iff_eq]; omega
          rcases a0 with rfl | rfl <;> rcases k1 with rfl | rfl
          all_goals
            go_enter Try.func61, Try.ntmps61
            go_wp2_with fail
            go_ret
            exact ⟨by rw [HG2.out, decide_eq_true h0]; rfl, below_alloc (Below.refl _ _)⟩
        · have e0 : ((tx.length : Int) == 0) = false := by rw [beq_eq_false_iff_ne]; omega
          rcases a0 with rfl | rfl <;> rcases k1 with rfl | rfl
          all_goals
            go_enter Try.func61, Try.ntmps61
            go_wp2_with fail
            go_ret
            exact ⟨by rw [HG2.out, decide_eq_false h0]; rfl, below_alloc (Below.refl _ _)⟩
      · have e1 : (kd == 1) = false := by rw [beq_eq_false_iff_ne]; exact fun h => k1 (.inl h)
        have e3 : (kd == 3) = false := by rw [beq_eq_false_iff_ne]; exact fun h => k1 (.inr h)
        have HG3 : Hid (mayAct kd ar tx = false) := by
          have h := HG2.out
          rw [decide_eq_false k2, decide_eq_false (fun h => k1 (.inl h)), decide_eq_false (fun h => k1 (.inr h))] at h
          exact h
        clear HG2 k1 k2
        rcases a0 with rfl | rfl
        all_goals
          go_enter Try.func61, Try.ntmps61
          go_wp2_with fail
          go_ret
          exact ⟨by rw [HG3.out]; rfl, below_alloc (Below.refl _ _)⟩
  · have b0 : (ar != 0) = true := by simpa using fun h => a0 (.inl h)
    have b1 : (ar != 1) = true := by simpa using fun h => a0 (.inr h)
    have HG2 : Hid (mayAct kd ar tx = false) := by
      have h := HG.out
      rw [decide_eq_false (fun h => a0 (.inl h)), decide_eq_false (fun h => a0 (.inr h))] at h
      exact h
    clear HG a0
    go_enter Try.func61, Try.ntmps61
    go_wp2_with fail
    go_ret
    exact ⟨by rw [HG2.out]; rfl, below_alloc (Below.refl _ _)⟩
end Go.Proofs.Ytfdldbfjeamlcaa.LogRef1
