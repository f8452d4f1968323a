/- The reference's state, Never, IsReady, Settled, Ready, Settle. -/
import Derived.BigRegion
import Derived.BigQuiet
import Derived.Deep.QuietTactic
import Derived.Deep.DeepCutAuto
import Derived.Laws.Rows
import Derived.Deep.MidRow
import Derived.Test.YtfpljpdjohmbaaaOpenJob
import Derived.Test.YtfpljpdjohmbaaaJobRef3
import Derived.Test.YtfpljpdjohmbaaaJobRTwin
import Derived.Test.YtfpljpdjohmbaaaDepsMath2
namespace Go.Proofs.Ytfpljpdjohmbaaa.DepsRef
open Go.RowKit Mem PosMath PartMath TurnMath TurnMap JobMath JobIndex JobMem JobFind JobRef3 JobTwin JobRTwin DepsStates DepsSettle DepsMath DepsMath2 Lay
set_option linter.unusedVariables false
set_option linter.unusedSimpArgs false

theorem sweeps_af {l : List JV} (h : ∀ j ∈ l, j.af.length ≤ 1000) : ∀ t, ∀ j ∈ sweeps l t, j.af.length ≤ 1000
  | 0, j, hj => h j hj
  | t + 1, j, hj => by
    rcases sweep_mem hj with h1 | ⟨x, hx, rfl⟩
    · exact sweeps_af h t j h1
    · exact sweeps_af h t x hx
theorem JobsOwn.from_ {w : World} {B B' : Nat} {X : Option Addr} {l : List JV} (h : JobsOwn w B X l) (hle : B' ≤ B) : JobsOwn w B' X l := fun i j hi => by
  obtain ⟨g, Y, c, e, h1, r⟩ := h i j hi
  exact ⟨g, Y, c, e, Nat.le_trans hle h1, r.1, r.2.1, r.2.2.1, fun h => ((r.2.2.2.1 h).less hle), fun h => by have := (List.getElem?_eq_some_iff.1 hi).1; omega⟩
theorem atV_get {l : List JV} {n : Int} (h : ¬ atV l n < 0) : ∃ (k : Nat) (x : JV), atV l n = k ∧ l[k]? = some x := by
  induction l with
  | nil => exact absurd (show atV [] n < 0 by simp [atV]) h
  | cons y t ih =>
    unfold atV at h ⊢
    by_cases h0 : y.id = n
    · exact ⟨0, y, by rw [if_pos h0]; rfl, rfl⟩
    · rw [if_neg h0] at h ⊢
      by_cases h1 : atV t n < 0
      · rw [if_pos h1] at h; omega
      · obtain ⟨k, x, e, hx⟩ := ih h1
        rw [if_neg h1, e]
        exact ⟨k + 1, x, by omega, hx⟩
theorem rstate (X : Option Addr) (cap : Nat) (l : List JV) (n : Int) (hl : l.length ≤ 4611686018427387904) (w : World) (hX : JobsAt w X l) :
    Calls Try.prog 101 #[.slice X l.length cap, .int .i64 n] w fun e w' => e = .returned (.int .u8 (stAt l n)) ∧ Below w.heap.size w w' := by
  have HA := Lib.hid (rAt X cap l n hl w hX)
  have HX := Lib.hid hX
  clear hX
  by_cases h : atV l n < 0
  · rw [stAt_none h]
    generalize atV l n = r at *
    go_enter Try.func101, Try.ntmps101
    go_wp2_with fail
    refine HA.out.mono ?_
    rintro e w1 ⟨rfl, hB⟩
    have HB := Lib.hid hB
    clear hB
    go_wp2_with fail
    go_ret
    exact ⟨rfl, HB.out⟩
  · obtain ⟨k, x, hk, hx⟩ := atV_get h
    rw [stAt_some hk hx]
    rw [hk] at HA
    have hkl := (List.getElem?_eq_some_iff.1 hx).1
    have hki : (k : Int) < (l.length : Int) := by omega
    have hki0 : (0 : Int) ≤ (k : Int) := by omega
    have hki1 : ¬ ((k : Int) < 0) := by omega
    have HG := Lib.hid hx
    clear hx hk h
    go_enter Try.func101, Try.ntmps101
    go_wp2_with fail
    refine HA.out.mono ?_
    rintro e w1 ⟨rfl, hB⟩
    have HB := Lib.hid hB
    obtain ⟨b, o, Y, c, rfl, hb, hJ, _⟩ := HX.out.up hB k x HG.out
    have y14 : w1.cell? ⟨b, o + k * 16 + 14, none⟩ = some (.int .u8 x.st) := hJ.2.2.2.2.2.2.2.2.2.2.2.2.2.2.1
    clear hB hJ
    go_wp2_with fail
    go_ret
    exact ⟨rfl, HB.out⟩
set_option maxRecDepth 100000 in
set_option maxHeartbeats 4000000 in
theorem rnever_no (X : Option Addr) (cap : Nat) (l : List JV) (j : JV) (Y : Option Addr) (cj : Nat) (hl : l.length ≤ 4611686018427387904) (hla : j.af.length ≤ 4611686018427387904) (hs : ¬ j.st = 1) (w : World) (hX : JobsAt w X l) (hY : IntsAt w Y j.af) :
    Calls Try.prog 102 #[.slice X l.length cap, .agg #[.int .i64 j.id, .int .i64 j.us, .int .i64 j.cl, .int .i64 j.x.a, .int .i64 j.x.b, .int .i64 j.x.c, .bool j.x.p, .bool j.x.q, .bool j.x.r, .bool j.x.tn, .int .i64 j.wa, .int .i64 j.pr, .bool j.he, .slice Y j.af.length cj, .int .u8 j.st, .int .i64 j.ca]] w fun e w' => e = .returned (.bool false) ∧ Below w.heap.size w w' := by
  have HX := Lib.hid hX
  have HY := Lib.hid hY
  have HS := Lib.hid (fun n w hX => rstate X cap l n hl w hX)
  have e1 : (j.st != 1) = true := by simpa using hs
  clear hX hY hs
  go_enter Try.func102, Try.ntmps102
  go_upto_region 1 with fail
  have kj0 : Blk (w.alloc (.cells #[.int .i64 j.id, .int .i64 j.us, .int .i64 j.cl, .int .i64 j.x.a, .int .i64 j.x.b, .int .i64 j.x.c, .bool j.x.p, .bool j.x.q, .bool j.x.r, .bool j.x.tn, .int .i64 j.wa, .int .i64 j.pr, .bool j.he, .slice Y j.af.length cj, .int .u8 j.st, .int .i64 j.ca] 33)) w.heap.size 33 #[.int .i64 j.id, .int .i64 j.us, .int .i64 j.cl, .int .i64 j.x.a, .int .i64 j.x.b, .int .i64 j.x.c, .bool j.x.p, .bool j.x.q, .bool j.x.r, .bool j.x.tn, .int .i64 j.wa, .int .i64 j.pr, .bool j.he, .slice Y j.af.length cj, .int .u8 j.st, .int .i64 j.ca] := Blk.new w _ _
  have hb0 : Below w.heap.size w (w.alloc (.cells #[.int .i64 j.id, .int .i64 j.us, .int .i64 j.cl, .int .i64 j.x.a, .int .i64 j.x.b, .int .i64 j.x.c, .bool j.x.p, .bool j.x.q, .bool j.x.r, .bool j.x.tn, .int .i64 j.wa, .int .i64 j.pr, .bool j.he, .slice Y j.af.length cj, .int .u8 j.st, .int .i64 j.ca] 33)) := below_alloc (Below.refl _ _)
  generalize (w.alloc (.cells #[.int .i64 j.id, .int .i64 j.us, .int .i64 j.cl, .int .i64 j.x.a, .int .i64 j.x.b, .int .i64 j.x.c, .bool j.x.p, .bool j.x.q, .bool j.x.r, .bool j.x.tn, .int .i64 j.wa, .int .i64 j.pr, .bool j.he, .slice Y j.af.length cj, .int .u8 j.st, .int .i64 j.ca] 33)) = w0 at *
  have HB0 := Lib.hid hb0
  have KJ0 := Lib.hid kj0
  clear hb0 kj0
  have x14 : w0.cell? ⟨w.heap.size, 14, none⟩ = some (.int .u8 j.st) := KJ0.out.cell 14
  go_wp2_with fail
  go_ret
  exact ⟨rfl, HB0.out⟩
set_option maxRecDepth 100000 in
set_option maxHeartbeats 4000000 in
theorem rnever_loop (X : Option Addr) (cap : Nat) (l : List JV) (j : JV) (Y : Option Addr) (cj : Nat) (hl : l.length ≤ 4611686018427387904) (hla : j.af.length ≤ 4611686018427387904) (hs : j.st = 1) (w : World) (hX : JobsAt w X l) (hY : IntsAt w Y j.af) :
    Calls Try.prog 102 #[.slice X l.length cap, .agg #[.int .i64 j.id, .int .i64 j.us, .int .i64 j.cl, .int .i64 j.x.a, .int .i64 j.x.b, .int .i64 j.x.c, .bool j.x.p, .bool j.x.q, .bool j.x.r, .bool j.x.tn, .int .i64 j.wa, .int .i64 j.pr, .bool j.he, .slice Y j.af.length cj, .int .u8 j.st, .int .i64 j.ca]] w fun e w' => e = .returned (.bool (neverV l j)) ∧ Below w.heap.size w w' := by
  have HX := Lib.hid hX
  have HY := Lib.hid hY
  have HS := Lib.hid (fun n w hX => rstate X cap l n hl w hX)
  obtain ⟨V, hV⟩ : ∃ V, V = neverV l j := ⟨_, rfl⟩
  rw [← hV]
  have hV' : V = j.af.any fun v => decide (3 < stAt l v) := by rw [hV]; unfold neverV; rw [decide_eq_true hs, Bool.true_and]
  have HV := Lib.hid hV'
  have e1 : (j.st != 1) = false := by simpa using hs
  clear hX hY hs hV hV'
  go_enter Try.func102, Try.ntmps102
  go_upto_region 1 with fail
  have kj0 : Blk (w.alloc (.cells #[.int .i64 j.id, .int .i64 j.us, .int .i64 j.cl, .int .i64 j.x.a, .int .i64 j.x.b, .int .i64 j.x.c, .bool j.x.p, .bool j.x.q, .bool j.x.r, .bool j.x.tn, .int .i64 j.wa, .int .i64 j.pr, .bool j.he, .slice Y j.af.length cj, .int .u8 j.st, .int .i64 j.ca] 33)) w.heap.size 33 #[.int .i64 j.id, .int .i64 j.us, .int .i64 j.cl, .int .i64 j.x.a, .int .i64 j.x.b, .int .i64 j.x.c, .bool j.x.p, .bool j.x.q, .bool j.x.r, .bool j.x.tn, .int .i64 j.wa, .int .i64 j.pr, .bool j.he, .slice Y j.af.length cj, .int .u8 j.st, .int .i64 j.ca] := Blk.new w _ _
  have hb0 : Below w.heap.size w (w.alloc (.cells #[.int .i64 j.id, .int .i64 j.us, .int .i64 j.cl, .int .i64 j.x.a, .int .i64 j.x.b, .int .i64 j.x.c, .bool j.x.p, .bool j.x.q, .bool j.x.r, .bool j.x.tn, .int .i64 j.wa, .int .i64 j.pr, .bool j.he, .slice Y j.af.length cj, .int .u8 j.st, .int .i64 j.ca] 33)) := below_alloc (Below.refl _ _)
  generalize (w.alloc (.cells #[.int .i64 j.id, .int .i64 j.us, .int .i64 j.cl, .int .i64 j.x.a, .int .i64 j.x.b, .int .i64 j.x.c, .bool j.x.p, .bool j.x.q, .bool j.x.r, .bool j.x.tn, .int .i64 j.wa, .int .i64 j.pr, .bool j.he, .slice Y j.af.length cj, .int .u8 j.st, .int .i64 j.ca] 33)) = w0 at *
  have HB0 := Lib.hid hb0
  have KJ0 := Lib.hid kj0
  clear hb0 kj0
  have x14 : w0.cell? ⟨w.heap.size, 14, none⟩ = some (.int .u8 j.st) := KJ0.out.cell 14
  go_wp2_with fail
  clear x14 e1
  go_loopw [5] (fun i wr => ∃ k : Nat, k ≤ j.af.length ∧ i = .int .i64 k ∧ Hid (∀ (i : Nat) (v : Int), i < k → j.af[i]? = some v → stAt l v ≤ 3) ∧ Hid (Below w.heap.size w wr) ∧ Hid (Blk wr w.heap.size 33 #[.int .i64 j.id, .int .i64 j.us, .int .i64 j.cl, .int .i64 j.x.a, .int .i64 j.x.b, .int .i64 j.x.c, .bool j.x.p, .bool j.x.q, .bool j.x.r, .bool j.x.tn, .int .i64 j.wa, .int .i64 j.pr, .bool j.he, .slice Y j.af.length cj, .int .u8 j.st, .int .i64 j.ca]))
    (fun i _ => j.af.length - (intOf i).toNat)
  case atStart => exact ⟨0, Nat.zero_le _, rfl, (fun i v h => by omega), HB0.out, KJ0.out⟩
  case round =>
    obtain ⟨k, hk, rfl, hP, hB, hJ⟩ := hrel
    clear HB0 KJ0
    have x13 : wr.cell? ⟨w.heap.size, 13, none⟩ = some (.slice Y j.af.length cj) := hJ.out.cell 13
    by_cases hlt : k < j.af.length
    · have hg : j.af[k]? = some j.af[k] := List.getElem?_eq_getElem hlt
      generalize j.af[k] = v at hg
      have hki : (k : Int) < (j.af.length : Int) := by omega
      have hki0 : (0 : Int) ≤ (k : Int) := by omega
      obtain ⟨b, o, rfl, hb, y0⟩ := HY.out.up hB.out k v hg
      have hC := HS.out v _ (HX.out.up hB.out)
      have hq := Eq.refl (stAt l v)
      generalize hqe : stAt l v = q at hC
      have HG := Lib.hid (And.intro hg hqe)
      have HC := Lib.hid hC
      clear hg hqe hC hq
      by_cases h3 : (3 : Int) < q
      · skip
        have ev : V = true := by
          rw [HV.out]
          rw [List.any_eq_true]
          exact ⟨v, List.mem_of_getElem? HG.out.1, by rw [HG.out.2]; exact decide_eq_true h3⟩
        have EV := Lib.hid ev
        clear ev
        go_wp2_with fail
        refine HC.out.mono ?_
        rintro e w1 ⟨rfl, hB1⟩
        have HB1 := Lib.hid (below_up hB.out hB1)
        clear hB1
        go_wp2_with fail
        go_ret
        rw [EV.out]
        exact ⟨rfl, HB1.out⟩
      · skip
        have H3 := Lib.hid (show q ≤ 3 by omega)
        go_wp2_with fail
        refine HC.out.mono ?_
        rintro e w1 ⟨rfl, hB1⟩
        have HB1 := Lib.hid (below_up hB.out hB1)
        have KJ1 := Lib.hid (hJ.out.below hB1 hJ.out.lt)
        clear hB1 x13 hJ hB
        go_wp2_with fail
        go_roundw
        case rel => exact ⟨k + 1, by omega, by go_num, (fun i u hi hu => by
            rcases Nat.lt_or_ge i k with h | h
            · exact hP.out i u h hu
            · obtain rfl : i = k := by omega
              rw [HG.out.1] at hu; cases hu
              rw [HG.out.2]; exact H3.out), HB1.out, KJ1.out⟩
        case measure => simp [intOf]; omega
    · obtain rfl : k = j.af.length := by omega
      have hall : ∀ v ∈ j.af, stAt l v ≤ 3 := fun v hv => by
        obtain ⟨i, hi, e⟩ := List.mem_iff_getElem.1 hv
        exact hP.out i v hi (by rw [List.getElem?_eq_getElem hi, e])
      have ev : V = false := by
        rw [HV.out, List.any_eq_false]
        intro v hv
        have := hall v hv
        simpa using this
      have EV := Lib.hid ev
      clear hall ev
      go_wp2_with fail
      go_ret
      rw [EV.out]
      exact ⟨rfl, hB.out⟩
theorem rnever (X : Option Addr) (cap : Nat) (l : List JV) (j : JV) (Y : Option Addr) (cj : Nat) (hl : l.length ≤ 4611686018427387904) (hla : j.af.length ≤ 4611686018427387904) (w : World) (hX : JobsAt w X l) (hY : IntsAt w Y j.af) :
    Calls Try.prog 102 #[.slice X l.length cap, .agg #[.int .i64 j.id, .int .i64 j.us, .int .i64 j.cl, .int .i64 j.x.a, .int .i64 j.x.b, .int .i64 j.x.c, .bool j.x.p, .bool j.x.q, .bool j.x.r, .bool j.x.tn, .int .i64 j.wa, .int .i64 j.pr, .bool j.he, .slice Y j.af.length cj, .int .u8 j.st, .int .i64 j.ca]] w fun e w' => e = .returned (.bool (neverV l j)) ∧ Below w.heap.size w w' := by
  by_cases hs : j.st = 1
  · exact rnever_loop X cap l j Y cj hl hla hs w hX hY
  · have h := rnever_no X cap l j Y cj hl hla hs w hX hY
    have e : neverV l j = false := by unfold neverV; rw [decide_eq_false hs]; rfl
    rw [e]; exact h
set_option maxRecDepth 100000 in
set_option maxHeartbeats 4000000 in
theorem rready (X : Option Addr) (cap : Nat) (l : List JV) (j : JV) (Y : Option Addr) (cj : Nat) (hl : l.length ≤ 4611686018427387904) (hla : j.af.length ≤ 4611686018427387904)  (w : World) (hX : JobsAt w X l) (hY : IntsAt w Y j.af) :
    Calls Try.prog 74 #[.slice X l.length cap, .agg #[.int .i64 j.id, .int .i64 j.us, .int .i64 j.cl, .int .i64 j.x.a, .int .i64 j.x.b, .int .i64 j.x.c, .bool j.x.p, .bool j.x.q, .bool j.x.r, .bool j.x.tn, .int .i64 j.wa, .int .i64 j.pr, .bool j.he, .slice Y j.af.length cj, .int .u8 j.st, .int .i64 j.ca]] w fun e w' => e = .returned (.bool (decide (j.st = 1) && !j.he && !(j.af.any fun v => decide (stAt l v ≠ 3)))) ∧ Below w.heap.size w w' := by
  have HX := Lib.hid hX
  have HY := Lib.hid hY
  have HS := Lib.hid (fun n w hX => rstate X cap l n hl w hX)
  obtain ⟨V, hV⟩ : ∃ V, V = (decide (j.st = 1) && !j.he && !(j.af.any fun v => decide (stAt l v ≠ 3))) := ⟨_, rfl⟩
  rw [← hV]
  have HV := Lib.hid hV
  clear hX hY hV
  go_enter Try.func74, Try.ntmps74
  go_upto_region 1 with fail
  have kj0 : Blk (w.alloc (.cells #[.int .i64 j.id, .int .i64 j.us, .int .i64 j.cl, .int .i64 j.x.a, .int .i64 j.x.b, .int .i64 j.x.c, .bool j.x.p, .bool j.x.q, .bool j.x.r, .bool j.x.tn, .int .i64 j.wa, .int .i64 j.pr, .bool j.he, .slice Y j.af.length cj, .int .u8 j.st, .int .i64 j.ca] 33)) w.heap.size 33 #[.int .i64 j.id, .int .i64 j.us, .int .i64 j.cl, .int .i64 j.x.a, .int .i64 j.x.b, .int .i64 j.x.c, .bool j.x.p, .bool j.x.q, .bool j.x.r, .bool j.x.tn, .int .i64 j.wa, .int .i64 j.pr, .bool j.he, .slice Y j.af.length cj, .int .u8 j.st, .int .i64 j.ca] := Blk.new w _ _
  have hb0 : Below w.heap.size w (w.alloc (.cells #[.int .i64 j.id, .int .i64 j.us, .int .i64 j.cl, .int .i64 j.x.a, .int .i64 j.x.b, .int .i64 j.x.c, .bool j.x.p, .bool j.x.q, .bool j.x.r, .bool j.x.tn, .int .i64 j.wa, .int .i64 j.pr, .bool j.he, .slice Y j.af.length cj, .int .u8 j.st, .int .i64 j.ca] 33)) := below_alloc (Below.refl _ _)
  generalize (w.alloc (.cells #[.int .i64 j.id, .int .i64 j.us, .int .i64 j.cl, .int .i64 j.x.a, .int .i64 j.x.b, .int .i64 j.x.c, .bool j.x.p, .bool j.x.q, .bool j.x.r, .bool j.x.tn, .int .i64 j.wa, .int .i64 j.pr, .bool j.he, .slice Y j.af.length cj, .int .u8 j.st, .int .i64 j.ca] 33)) = w0 at *
  have HB0 := Lib.hid hb0
  have KJ0 := Lib.hid kj0
  clear hb0 kj0
  go_wp2_with fail
  go_loopw [5] (fun i wr => ∃ k : Nat, k ≤ j.af.length ∧ i = .int .i64 k ∧ Hid (∀ (i : Nat) (v : Int), i < k → j.af[i]? = some v → stAt l v = 3) ∧ Hid (Below w.heap.size w wr) ∧ Hid (Blk wr w.heap.size 33 #[.int .i64 j.id, .int .i64 j.us, .int .i64 j.cl, .int .i64 j.x.a, .int .i64 j.x.b, .int .i64 j.x.c, .bool j.x.p, .bool j.x.q, .bool j.x.r, .bool j.x.tn, .int .i64 j.wa, .int .i64 j.pr, .bool j.he, .slice Y j.af.length cj, .int .u8 j.st, .int .i64 j.ca]))
    (fun i _ => j.af.length - (intOf i).toNat)
  case atStart => exact ⟨0, Nat.zero_le _, rfl, (fun i v h => by omega), HB0.out, KJ0.out⟩
  case round =>
    obtain ⟨k, hk, rfl, hP, hB, hJ⟩ := hrel
    clear HB0 KJ0
    have x13 : wr.cell? ⟨w.heap.size, 13, none⟩ = some (.slice Y j.af.length cj) := hJ.out.cell 13
    by_cases hlt : k < j.af.length
    · have hg : j.af[k]? = some j.af[k] := List.getElem?_eq_getElem hlt
      generalize j.af[k] = v at hg
      have hki : (k : Int) < (j.af.length : Int) := by omega
      have hki0 : (0 : Int) ≤ (k : Int) := by omega
      obtain ⟨b, o, rfl, hb, y0⟩ := HY.out.up hB.out k v hg
      have hC := HS.out v _ (HX.out.up hB.out)
      have hq := Eq.refl (stAt l v)
      generalize hqe : stAt l v = q at hC
      have HG := Lib.hid (And.intro hg hqe)
      have HC := Lib.hid hC
      clear hg hqe hC hq
      by_cases h3 : q ≠ 3
      · have e1 : (q != 3) = true := by simpa using h3
        have ev : V = false := by
          rw [HV.out]
          have : (j.af.any fun v => decide (stAt l v ≠ 3)) = true := by
            rw [List.any_eq_true]
            exact ⟨v, List.mem_of_getElem? HG.out.1, by rw [HG.out.2]; exact decide_eq_true h3⟩
          rw [this, Bool.not_true, Bool.and_false]
        have EV := Lib.hid ev
        clear ev
        go_wp2_with fail
        refine HC.out.mono ?_
        rintro e w1 ⟨rfl, hB1⟩
        have HB1 := Lib.hid (below_up hB.out hB1)
        clear hB1
        go_wp2_with fail
        go_ret
        rw [EV.out]
        exact ⟨rfl, HB1.out⟩
      · have e1 : (q != 3) = false := by simpa using h3
        have H3 := Lib.hid (show q = 3 by omega)
        go_wp2_with fail
        refine HC.out.mono ?_
        rintro e w1 ⟨rfl, hB1⟩
        have HB1 := Lib.hid (below_up hB.out hB1)
        have KJ1 := Lib.hid (hJ.out.below hB1 hJ.out.lt)
        clear hB1 x13 hJ hB
        go_wp2_with fail
        go_roundw
        case rel => exact ⟨k + 1, by omega, by go_num, (fun i u hi hu => by
            rcases Nat.lt_or_ge i k with h | h
            · exact hP.out i u h hu
            · obtain rfl : i = k := by omega
              rw [HG.out.1] at hu; cases hu
              rw [HG.out.2]; exact H3.out), HB1.out, KJ1.out⟩
        case measure => simp [intOf]; omega
    · obtain rfl : k = j.af.length := by omega
      have hall : ∀ v ∈ j.af, stAt l v = 3 := fun v hv => by
        obtain ⟨i, hi, e⟩ := List.mem_iff_getElem.1 hv
        exact hP.out i v hi (by rw [List.getElem?_eq_getElem hi, e])
      have ha : (j.af.any fun v => decide (stAt l v ≠ 3)) = false := by
        rw [List.any_eq_false]
        intro v hv
        have := hall v hv
        simpa using this
      have ev : V = (decide (j.st = 1) && !j.he) := by rw [HV.out, ha, Bool.not_false, Bool.and_true]
      have EV := Lib.hid ev
      have x14 : wr.cell? ⟨w.heap.size, 14, none⟩ = some (.int .u8 j.st) := hJ.out.cell 14
      have x12 : wr.cell? ⟨w.heap.size, 12, none⟩ = some (.bool j.he) := hJ.out.cell 12
      clear hall ev ha
      by_cases h1 : j.st = 1
      · have e1 : (j.st == 1) = true := by simpa using h1
        have H1 := Lib.hid h1
        clear h1
        go_wp2_with fail
        go_ret
        rw [EV.out, H1.out]
        exact ⟨rfl, hB.out⟩
      · have e1 : (j.st == 1) = false := by simpa using h1
        have H1 := Lib.hid (decide_eq_false h1)
        clear h1
        go_wp2_with fail
        go_ret
        rw [EV.out, H1.out]
        exact ⟨rfl, hB.out⟩
set_option maxRecDepth 100000 in
set_option maxHeartbeats 8000000 in
theorem rsettled (X : Option Addr) (cap : Nat) (l : List JV) (hl : l.length ≤ 1000) (hla : ∀ j ∈ l, j.af.length ≤ 1000) (w : World) (hX : JobsAt w X l) :
    Calls Try.prog 76 #[.slice X l.length cap] w fun e w' => ∃ X' c', e = .returned (.slice X' l.length c') ∧ JobsOwn w' w.heap.size X' (sweeps l (l.length + 1)) ∧ Below w.heap.size w w' := by
  have HT := Lib.hid (fun w h => rtwin X cap l hl hla w h)
  have HN := Lib.hid (fun X1 c1 (m : List JV) j Y cj (hm : m.length = l.length) (ha : j.af.length ≤ 1000) w hX hY => rnever X1 c1 m j Y cj (by omega) (by omega) w hX hY)
  have HX := Lib.hid hX
  have HLA := Lib.hid hla
  clear hX hla
  go_enter Try.func76, Try.ntmps76
  go_wp2_with fail
  refine (HT.out w HX.out).mono ?_
  rintro e w1 ⟨X1, c1, rfl, hO, hB1⟩
  have HO := Lib.hid hO
  have HB1 := Lib.hid hB1
  clear hO hB1
  go_wp2_with fail
  go_loopw [4] (fun i wr => ∃ t : Nat, t ≤ l.length + 1 ∧ i = .int .i64 t ∧ Hid (JobsOwn wr w.heap.size X1 (sweeps l t)) ∧ Hid (Below w.heap.size w wr))
    (fun i _ => l.length + 1 - (intOf i).toNat)
  case atStart => exact ⟨0, Nat.zero_le _, rfl, HO.out, HB1.out⟩
  case round =>
    obtain ⟨t, ht, rfl, hO, hB⟩ := hrel
    clear HO HB1
    by_cases htl : t ≤ l.length
    · have hti : (t : Int) ≤ (l.length : Int) := by omega
      have hti0 : (0 : Int) ≤ (t : Int) := by omega
      have hsl := sweeps_len (l := l) t
      have hmem : ∀ j ∈ sweeps l t, j.af.length ≤ 1000 := sweeps_af HLA.out t
      have hnx : sweeps l (t + 1) = sweep (sweeps l t) l.length := by show sweep _ (sweeps l t).length = _; rw [hsl]
      generalize hS : sweeps l t = S at *
      have HNX := Lib.hid hnx
      have HSL := Lib.hid (And.intro hsl hmem)
      clear hnx hS hsl hmem
      go_wp2_with fail
      go_loopw [5] (fun i wi => ∃ k : Nat, k ≤ l.length ∧ i = .int .i64 k ∧ Hid (JobsOwn wi w.heap.size X1 (sweep S k)) ∧ Hid (Below w.heap.size w wi))
        (fun i _ => l.length - (intOf i).toNat)
      case atStart => exact ⟨0, Nat.zero_le _, rfl, hO.out, hB.out⟩
      case round =>
        clear hO hB
        obtain ⟨k, hk, rfl, hO, hB⟩ := hrel
        by_cases hlt : k < l.length
        · have hki : (k : Int) < (l.length : Int) := by omega
          have hki0 : (0 : Int) ≤ (k : Int) := by omega
          have hlen := (sweep_len S k).trans HSL.out.1
          have hg : (sweep S k)[k]? = some ((sweep S k)[k]'(by omega)) := List.getElem?_eq_getElem (by omega)
          have hmm : ((sweep S k)[k]'(by omega)).af.length ≤ 1000 := by
            rcases sweep_mem (List.getElem_mem (h := show k < (sweep S k).length by omega)) with h | ⟨x, hx, h⟩
            · exact HSL.out.2 _ h
            · rw [h]; exact HSL.out.2 x hx
          generalize (sweep S k)[k]'(by omega) = x at hg hmm
          obtain ⟨g, Y, c, rfl, hgB, hgs, hJ, hF, hI, _⟩ := hO.out k x hg
          have hY := (hI (by rw [hlen]; exact hlt)).ints
          have hC := HN.out (some ⟨g, 0, none⟩) c1 (sweep S k) x Y c hlen hmm wr hO.out.jobs hY
          rw [hlen] at hC
          have y14 : wr.cell? ⟨g, k * 16 + 14, none⟩ = some (.int .u8 x.st) := hJ.2.2.2.2.2.2.2.2.2.2.2.2.2.2.1
          have y12 : wr.cell? ⟨g, k * 16 + 12, none⟩ = some (.bool x.he) := hJ.2.2.2.2.2.2.2.2.2.2.2.2.1
          have f14 : wr.frozen? ⟨g, k * 16 + 14, none⟩ = false := hF 14 (by omega)
          have f12 : wr.frozen? ⟨g, k * 16 + 12, none⟩ = false := hF 12 (by omega)
          have HJ := Lib.hid (And.intro hJ.range (And.intro hg hgB))
          have HC := Lib.hid hC
          clear hg hJ hF hI hY hC hgB hgs hlen hmm
          go_wp2_with (first | (refine wpList_load_mid rfl 33 _ rfl _ _ rfl _ _ HJ.out.1 Try.underlying33 rfl (by kernel_rfl) ?_))
          refine HC.out.mono ?_
          rintro e w4 ⟨rfl, hB4⟩
          have f14 := frozen_keep f14 (cell_lt y14) hB4
          have f12 := frozen_keep f12 (cell_lt y12) hB4
          have y14 := keep_cell y14 hB4
          have y12 := keep_cell y12 hB4
          have HO4 := Lib.hid (hO.out.up hB4)
          have HB4 := Lib.hid (below_up hB.out hB4)
          clear hO hB hB4 HC
          cases hn : neverV (sweep S k) x
          · have HNO := Lib.hid (sweep_no HJ.out.2.1 hn)
            clear hn
            go_wp2_with fail
            go_roundw
            case rel => exact ⟨k + 1, by omega, by go_num, by rw [HNO.out]; exact HO4.out, HB4.out⟩
            case measure => simp [intOf]; omega
          · have HYES := Lib.hid (sweep_yes HJ.out.2.1 hn)
            clear hn
            go_wp2_with fail
            have hO5 := JobsOwn.cancel HO4.out HJ.out.2.1
            have hB5 := (HB4.out.setCell (p := ⟨g, k * 16 + 14, none⟩) HJ.out.2.2 (.int .u8 5)).setCell (p := ⟨g, k * 16 + 12, none⟩) HJ.out.2.2 (.bool false)
            go_roundw
            case rel => exact ⟨k + 1, by omega, by go_num, by rw [HYES.out]; exact hO5, hB5⟩
            case measure => simp [intOf]; omega
        · obtain rfl : k = l.length := by omega
          have hki : ¬ (l.length : Int) < (l.length : Int) := by omega
          go_wp2_with fail
          go_roundw
          case rel => exact ⟨t + 1, by omega, by go_num, by rw [HNX.out]; exact hO.out, hB.out⟩
          case measure => simp [intOf]; omega
    · obtain rfl : t = l.length + 1 := by omega
      go_wp2_with fail
      go_ret
      exact ⟨X1, c1, rfl, hO.out, hB.out⟩
set_option maxRecDepth 100000 in
set_option maxHeartbeats 8000000 in
theorem rReady_bad (d0 d1 d2 bo fr tr ag : Int) (K : Option Addr) (kc : Nat) (ks : List Cls) (hlk : ks.length ≤ 4611686018427387904) (X : Option Addr) (cap : Nat) (l : List JV) (hl : l.length ≤ 1000) (hla : ∀ j ∈ l, j.af.length ≤ 1000) (n : Int) (hv : tableV d0 d1 d2 bo fr tr ag ks l ≠ 0) (w : World) (hk : ClsAt w w.heap.size K ks) (hX : JobsAt w X l) :
    Calls Try.prog 42 #[.agg #[.int .i64 d0, .int .i64 d1, .int .i64 d2, .int .i64 bo, .int .i64 fr, .int .i64 tr, .int .i64 ag, .slice K ks.length kc], .slice X l.length cap, .int .i64 n] w fun e w' => e = .returned (.tuple #[.bool false, .int .i64 (tableV d0 d1 d2 bo fr tr ag ks l)]) ∧ Below w.heap.size w w' := by
  have HT := Lib.hid (fun w hk hX => rtable_any d0 d1 d2 bo fr tr ag K kc ks hlk X cap l (by omega) (fun j hj => by have := hla j hj; omega) w hk hX)
  generalize tableV d0 d1 d2 bo fr tr ag ks l = V at *
  have HK := Lib.hid hk
  have HX := Lib.hid hX
  have hv' : (V != 0) = true := by simpa using hv
  clear hk hX hv hla
  go_enter Try.func42, Try.ntmps42
  go_upto_region 1 with fail
  have kc0 : Blk (w.alloc (.cells #[.int .i64 d0, .int .i64 d1, .int .i64 d2, .int .i64 bo, .int .i64 fr, .int .i64 tr, .int .i64 ag, .slice K ks.length kc] 26)) w.heap.size 26 #[.int .i64 d0, .int .i64 d1, .int .i64 d2, .int .i64 bo, .int .i64 fr, .int .i64 tr, .int .i64 ag, .slice K ks.length kc] := Blk.new w _ _
  have hb0 : Below w.heap.size w (w.alloc (.cells #[.int .i64 d0, .int .i64 d1, .int .i64 d2, .int .i64 bo, .int .i64 fr, .int .i64 tr, .int .i64 ag, .slice K ks.length kc] 26)) := below_alloc (Below.refl _ _)
  generalize (w.alloc (.cells #[.int .i64 d0, .int .i64 d1, .int .i64 d2, .int .i64 bo, .int .i64 fr, .int .i64 tr, .int .i64 ag, .slice K ks.length kc] 26)) = w0 at *
  have HB0 := Lib.hid hb0
  have KC0 := Lib.hid kc0
  clear hb0 kc0
  go_wp2_with (first | (refine wpList_load_row rfl 26 _ rfl _ rfl 26 #[.int .i64 d0, .int .i64 d1, .int .i64 d2, .int .i64 bo, .int .i64 fr, .int .i64 tr, .int .i64 ag, .slice K ks.length kc] (0, 0) _ KC0.out Try.underlying26 rfl (by kernel_rfl) ?_))
  refine (HT.out _ (HK.out.up HB0.out) (HX.out.up HB0.out)).mono ?_
  rintro e w1 ⟨rfl, hB1⟩
  have HB1 := Lib.hid (below_up HB0.out hB1)
  clear hB1 KC0 HB0 HT
  go_wp2_with fail
  go_ret2
  exact ⟨rfl, HB1.out⟩
set_option maxRecDepth 100000 in
set_option maxHeartbeats 8000000 in
theorem rReady_none (d0 d1 d2 bo fr tr ag : Int) (K : Option Addr) (kc : Nat) (ks : List Cls) (hlk : ks.length ≤ 4611686018427387904) (X : Option Addr) (cap : Nat) (l : List JV) (hl : l.length ≤ 1000) (hla : ∀ j ∈ l, j.af.length ≤ 1000) (n : Int) (hv : tableV d0 d1 d2 bo fr tr ag ks l = 0) (hn : atV l n < 0) (w : World) (hk : ClsAt w w.heap.size K ks) (hX : JobsAt w X l) :
    Calls Try.prog 42 #[.agg #[.int .i64 d0, .int .i64 d1, .int .i64 d2, .int .i64 bo, .int .i64 fr, .int .i64 tr, .int .i64 ag, .slice K ks.length kc], .slice X l.length cap, .int .i64 n] w fun e w' => e = .returned (.tuple #[.bool false, .int .i64 6]) ∧ Below w.heap.size w w' := by
  have HT := Lib.hid (fun w hk hX => rtable_any d0 d1 d2 bo fr tr ag K kc ks hlk X cap l (by omega) (fun j hj => by have := hla j hj; omega) w hk hX)
  generalize tableV d0 d1 d2 bo fr tr ag ks l = V at *
  have HK := Lib.hid hk
  have HX := Lib.hid hX
  have HF := Lib.hid (fun w hX => rAt X cap l n (by omega) w hX)
  generalize atV l n = r at *
  subst hv
  clear hk hX hla
  go_enter Try.func42, Try.ntmps42
  go_upto_region 1 with fail
  have kc0 : Blk (w.alloc (.cells #[.int .i64 d0, .int .i64 d1, .int .i64 d2, .int .i64 bo, .int .i64 fr, .int .i64 tr, .int .i64 ag, .slice K ks.length kc] 26)) w.heap.size 26 #[.int .i64 d0, .int .i64 d1, .int .i64 d2, .int .i64 bo, .int .i64 fr, .int .i64 tr, .int .i64 ag, .slice K ks.length kc] := Blk.new w _ _
  have hb0 : Below w.heap.size w (w.alloc (.cells #[.int .i64 d0, .int .i64 d1, .int .i64 d2, .int .i64 bo, .int .i64 fr, .int .i64 tr, .int .i64 ag, .slice K ks.length kc] 26)) := below_alloc (Below.refl _ _)
  generalize (w.alloc (.cells #[.int .i64 d0, .int .i64 d1, .int .i64 d2, .int .i64 bo, .int .i64 fr, .int .i64 tr, .int .i64 ag, .slice K ks.length kc] 26)) = w0 at *
  have HB0 := Lib.hid hb0
  have KC0 := Lib.hid kc0
  clear hb0 kc0
  go_wp2_with (first | (refine wpList_load_row rfl 26 _ rfl _ rfl 26 #[.int .i64 d0, .int .i64 d1, .int .i64 d2, .int .i64 bo, .int .i64 fr, .int .i64 tr, .int .i64 ag, .slice K ks.length kc] (0, 0) _ KC0.out Try.underlying26 rfl (by kernel_rfl) ?_))
  refine (HT.out _ (HK.out.up HB0.out) (HX.out.up HB0.out)).mono ?_
  rintro e w1 ⟨rfl, hB1⟩
  have HB1 := Lib.hid (below_up HB0.out hB1)
  clear hB1 KC0 HB0 HT
  go_wp2_with fail
  refine (HF.out _ (HX.out.up HB1.out)).mono ?_
  rintro e w2 ⟨rfl, hB2⟩
  have HB2 := Lib.hid (below_up HB1.out hB2)
  clear hB2
  go_wp2_with fail
  go_ret2
  exact ⟨rfl, HB2.out⟩
set_option maxRecDepth 100000 in
set_option maxHeartbeats 8000000 in
theorem rReady_ok (d0 d1 d2 bo fr tr ag : Int) (K : Option Addr) (kc : Nat) (ks : List Cls) (hlk : ks.length ≤ 4611686018427387904) (X : Option Addr) (cap : Nat) (l : List JV) (hl : l.length ≤ 1000) (hla : ∀ j ∈ l, j.af.length ≤ 1000) (n : Int) (hu : Up l) (hv : tableV d0 d1 d2 bo fr tr ag ks l = 0) (k : Nat) (j : JV) (hn : atV l n = k) (hj : l[k]? = some j) (w : World) (hk : ClsAt w w.heap.size K ks) (hX : JobsAt w X l) :
    Calls Try.prog 42 #[.agg #[.int .i64 d0, .int .i64 d1, .int .i64 d2, .int .i64 bo, .int .i64 fr, .int .i64 tr, .int .i64 ag, .slice K ks.length kc], .slice X l.length cap, .int .i64 n] w fun e w' => e = .returned (.tuple #[.bool (readyV l j), .int .i64 0]) ∧ Below w.heap.size w w' := by
  have HT := Lib.hid (fun w hk hX => rtable_any d0 d1 d2 bo fr tr ag K kc ks hlk X cap l (by omega) (fun j hj => by have := hla j hj; omega) w hk hX)
  generalize tableV d0 d1 d2 bo fr tr ag ks l = V at *
  have HK := Lib.hid hk
  have HX := Lib.hid hX
  have HF := Lib.hid (fun w hX => rAt X cap l n (by omega) w hX)
  rw [hn] at HF
  subst hv
  have hjm := List.mem_of_getElem? hj
  have hkl := (List.getElem?_eq_some_iff.1 hj).1
  have HR := Lib.hid (fun Y cj w hX hY => rready X cap l j Y cj (by omega) (by have := hla j hjm; omega) w hX hY)
  have hrd : (decide (j.st = 1) && !j.he && !(j.af.any fun v => decide (stAt l v ≠ 3))) = readyV l j := by rw [ready_any hu]; rfl
  rw [hrd] at HR
  generalize readyV l j = R at *
  have hki : (k : Int) < (l.length : Int) := by omega
  have hki0 : (0 : Int) ≤ (k : Int) := by omega
  have hki1 : ¬ ((k : Int) < 0) := by omega
  have HG := Lib.hid hj
  clear hk hX hla hn hj hjm hrd hu
  go_enter Try.func42, Try.ntmps42
  go_upto_region 1 with fail
  have kc0 : Blk (w.alloc (.cells #[.int .i64 d0, .int .i64 d1, .int .i64 d2, .int .i64 bo, .int .i64 fr, .int .i64 tr, .int .i64 ag, .slice K ks.length kc] 26)) w.heap.size 26 #[.int .i64 d0, .int .i64 d1, .int .i64 d2, .int .i64 bo, .int .i64 fr, .int .i64 tr, .int .i64 ag, .slice K ks.length kc] := Blk.new w _ _
  have hb0 : Below w.heap.size w (w.alloc (.cells #[.int .i64 d0, .int .i64 d1, .int .i64 d2, .int .i64 bo, .int .i64 fr, .int .i64 tr, .int .i64 ag, .slice K ks.length kc] 26)) := below_alloc (Below.refl _ _)
  generalize (w.alloc (.cells #[.int .i64 d0, .int .i64 d1, .int .i64 d2, .int .i64 bo, .int .i64 fr, .int .i64 tr, .int .i64 ag, .slice K ks.length kc] 26)) = w0 at *
  have HB0 := Lib.hid hb0
  have KC0 := Lib.hid kc0
  clear hb0 kc0
  go_wp2_with (first | (refine wpList_load_row rfl 26 _ rfl _ rfl 26 #[.int .i64 d0, .int .i64 d1, .int .i64 d2, .int .i64 bo, .int .i64 fr, .int .i64 tr, .int .i64 ag, .slice K ks.length kc] (0, 0) _ KC0.out Try.underlying26 rfl (by kernel_rfl) ?_))
  refine (HT.out _ (HK.out.up HB0.out) (HX.out.up HB0.out)).mono ?_
  rintro e w1 ⟨rfl, hB1⟩
  have HB1 := Lib.hid (below_up HB0.out hB1)
  clear hB1 KC0 HB0 HT
  go_wp2_with fail
  refine (HF.out _ (HX.out.up HB1.out)).mono ?_
  rintro e w2 ⟨rfl, hB2⟩
  have HB2 := Lib.hid (below_up HB1.out hB2)
  have HX2 := Lib.hid (HX.out.up HB2.out)
  clear hB2 HX HF HB1
  obtain ⟨b, o, Y, cj, rfl, hb, hJ, hY⟩ := HX2.out k j HG.out
  have HJ := Lib.hid (And.intro hJ.range hY)
  clear hJ hY
  go_wp2_with (first | (refine wpList_load_mid rfl 33 _ rfl _ _ rfl _ _ HJ.out.1 Try.underlying33 rfl (by kernel_rfl) ?_))
  refine (HR.out _ _ _ HX2.out HJ.out.2).mono ?_
  rintro e w3 ⟨rfl, hB3⟩
  have HB3 := Lib.hid (below_up HB2.out hB3)
  clear hB3
  go_wp2_with fail
  go_ret2
  exact ⟨rfl, HB3.out⟩
set_option maxRecDepth 100000 in
set_option maxHeartbeats 8000000 in
theorem rSettle_bad (d0 d1 d2 bo fr tr ag : Int) (K : Option Addr) (kc : Nat) (ks : List Cls) (hlk : ks.length ≤ 4611686018427387904) (X : Option Addr) (cap : Nat) (l : List JV) (hl : l.length ≤ 1000) (hla : ∀ j ∈ l, j.af.length ≤ 1000)  (hv : tableV d0 d1 d2 bo fr tr ag ks l ≠ 0) (w : World) (hk : ClsAt w w.heap.size K ks) (hX : JobsAt w X l) :
    Calls Try.prog 44 #[.agg #[.int .i64 d0, .int .i64 d1, .int .i64 d2, .int .i64 bo, .int .i64 fr, .int .i64 tr, .int .i64 ag, .slice K ks.length kc], .slice X l.length cap] w fun e w' => e = .returned (.tuple #[.slice none 0 0, .int .i64 (tableV d0 d1 d2 bo fr tr ag ks l)]) ∧ Below w.heap.size w w' := by
  have HT := Lib.hid (fun w hk hX => rtable_any d0 d1 d2 bo fr tr ag K kc ks hlk X cap l (by omega) (fun j hj => by have := hla j hj; omega) w hk hX)
  generalize tableV d0 d1 d2 bo fr tr ag ks l = V at *
  have HK := Lib.hid hk
  have HX := Lib.hid hX
  have hv' : (V != 0) = true := by simpa using hv
  clear hk hX hv hla
  go_enter Try.func44, Try.ntmps44
  go_upto_region 1 with fail
  have kc0 : Blk (w.alloc (.cells #[.int .i64 d0, .int .i64 d1, .int .i64 d2, .int .i64 bo, .int .i64 fr, .int .i64 tr, .int .i64 ag, .slice K ks.length kc] 26)) w.heap.size 26 #[.int .i64 d0, .int .i64 d1, .int .i64 d2, .int .i64 bo, .int .i64 fr, .int .i64 tr, .int .i64 ag, .slice K ks.length kc] := Blk.new w _ _
  have hb0 : Below w.heap.size w (w.alloc (.cells #[.int .i64 d0, .int .i64 d1, .int .i64 d2, .int .i64 bo, .int .i64 fr, .int .i64 tr, .int .i64 ag, .slice K ks.length kc] 26)) := below_alloc (Below.refl _ _)
  generalize (w.alloc (.cells #[.int .i64 d0, .int .i64 d1, .int .i64 d2, .int .i64 bo, .int .i64 fr, .int .i64 tr, .int .i64 ag, .slice K ks.length kc] 26)) = w0 at *
  have HB0 := Lib.hid hb0
  have KC0 := Lib.hid kc0
  clear hb0 kc0
  go_wp2_with (first | (refine wpList_load_row rfl 26 _ rfl _ rfl 26 #[.int .i64 d0, .int .i64 d1, .int .i64 d2, .int .i64 bo, .int .i64 fr, .int .i64 tr, .int .i64 ag, .slice K ks.length kc] (0, 0) _ KC0.out Try.underlying26 rfl (by kernel_rfl) ?_))
  refine (HT.out _ (HK.out.up HB0.out) (HX.out.up HB0.out)).mono ?_
  rintro e w1 ⟨rfl, hB1⟩
  have HB1 := Lib.hid (below_up HB0.out hB1)
  clear hB1 KC0 HB0 HT
  go_wp2_with fail
  go_ret2
  exact ⟨rfl, HB1.out⟩
set_option maxRecDepth 100000 in
set_option maxHeartbeats 8000000 in
theorem rSettle_ok (d0 d1 d2 bo fr tr ag : Int) (K : Option Addr) (kc : Nat) (ks : List Cls) (hlk : ks.length ≤ 4611686018427387904) (X : Option Addr) (cap : Nat) (l : List JV) (hl : l.length ≤ 1000) (hla : ∀ j ∈ l, j.af.length ≤ 1000)  (hu : Up l) (hc : Clos l) (hv : tableV d0 d1 d2 bo fr tr ag ks l = 0) (w : World) (hk : ClsAt w w.heap.size K ks) (hX : JobsAt w X l) :
    Calls Try.prog 44 #[.agg #[.int .i64 d0, .int .i64 d1, .int .i64 d2, .int .i64 bo, .int .i64 fr, .int .i64 tr, .int .i64 ag, .slice K ks.length kc], .slice X l.length cap] w fun e w' => ∃ X' c', e = .returned (.tuple #[.slice X' l.length c', .int .i64 0]) ∧ JobsOwn w' w.heap.size X' (settleV l) ∧ Below w.heap.size w w' := by
  have HT := Lib.hid (fun w hk hX => rtable_any d0 d1 d2 bo fr tr ag K kc ks hlk X cap l (by omega) (fun j hj => by have := hla j hj; omega) w hk hX)
  generalize tableV d0 d1 d2 bo fr tr ag ks l = V at *
  have HK := Lib.hid hk
  have HX := Lib.hid hX
  have HS := Lib.hid (fun w hX => rsettled X cap l hl hla w hX)
  rw [sweeps_all hu hc] at HS
  subst hv
  clear hk hX hla hu hc
  go_enter Try.func44, Try.ntmps44
  go_upto_region 1 with fail
  have kc0 : Blk (w.alloc (.cells #[.int .i64 d0, .int .i64 d1, .int .i64 d2, .int .i64 bo, .int .i64 fr, .int .i64 tr, .int .i64 ag, .slice K ks.length kc] 26)) w.heap.size 26 #[.int .i64 d0, .int .i64 d1, .int .i64 d2, .int .i64 bo, .int .i64 fr, .int .i64 tr, .int .i64 ag, .slice K ks.length kc] := Blk.new w _ _
  have hb0 : Below w.heap.size w (w.alloc (.cells #[.int .i64 d0, .int .i64 d1, .int .i64 d2, .int .i64 bo, .int .i64 fr, .int .i64 tr, .int .i64 ag, .slice K ks.length kc] 26)) := below_alloc (Below.refl _ _)
  generalize (w.alloc (.cells #[.int .i64 d0, .int .i64 d1, .int .i64 d2, .int .i64 bo, .int .i64 fr, .int .i64 tr, .int .i64 ag, .slice K ks.length kc] 26)) = w0 at *
  have HB0 := Lib.hid hb0
  have KC0 := Lib.hid kc0
  clear hb0 kc0
  go_wp2_with (first | (refine wpList_load_row rfl 26 _ rfl _ rfl 26 #[.int .i64 d0, .int .i64 d1, .int .i64 d2, .int .i64 bo, .int .i64 fr, .int .i64 tr, .int .i64 ag, .slice K ks.length kc] (0, 0) _ KC0.out Try.underlying26 rfl (by kernel_rfl) ?_))
  refine (HT.out _ (HK.out.up HB0.out) (HX.out.up HB0.out)).mono ?_
  rintro e w1 ⟨rfl, hB1⟩
  have HB1 := Lib.hid (below_up HB0.out hB1)
  clear hB1 KC0 HB0 HT
  go_wp2_with fail
  refine (HS.out _ (HX.out.up HB1.out)).mono ?_
  rintro e w2 ⟨X2, c2, rfl, hO, hB2⟩
  have HB2 := Lib.hid (below_up HB1.out hB2)
  have HO := Lib.hid (JobsOwn.from_ hO HB1.out.size)
  clear hB2 hO
  go_wp2_with fail
  go_ret2
  exact ⟨X2, c2, rfl, HO.out, HB2.out⟩
end Go.Proofs.Ytfpljpdjohmbaaa.DepsRef
