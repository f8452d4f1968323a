/- DepsDo: the walk. -/
import Derived.BigRegion
import Derived.BigQuiet
import Derived.Deep.QuietTactic
import Derived.Deep.DeepCutAuto
import Derived.Laws.Rows
import Derived.Test.YtfpljpdjohmbaaaOpenJob
import Derived.Test.YtfpljpdjohmbaaaJobShape
import Derived.Test.YtfpljpdjohmbaaaJobGreat
import Derived.Test.YtfpljpdjohmbaaaJobRSame
import Derived.Test.YtfpljpdjohmbaaaDepsReady
import Derived.Test.YtfpljpdjohmbaaaDepsRef
namespace Go.Proofs.Ytfpljpdjohmbaaa.DepsDo
open Go.RowKit Mem PosMath PartMath TurnMath TurnMap TurnFitsV JobMath JobIndex JobMem JobShape JobTable JobTwin JobRTwin JobRSame JobGreat DepsStates DepsSettle DepsMath DepsMath2 DepsReady DepsRef Lay
set_option linter.unusedVariables false
set_option linter.unusedSimpArgs false

/-- What Ready answers, and what Settle leaves. -/
def readyR (V : Int) (l : List JV) (n : Int) : Bool × Int := if V ≠ 0 then (false, V) else if atV l n < 0 then (false, 6) else (readyV l (l.getD (atV l n).toNat default), 0)
def settleM (V : Int) (l : List JV) : List JV := if V = 0 then settleV l else []
theorem settleM_len (V : Int) (l : List JV) : (settleM V l).length ≤ l.length := by
  unfold settleM
  split
  · exact Nat.le_of_eq (stepS_len l l.length)
  · simp
theorem settleM_mem {V : Int} {l : List JV} {j : JV} (h : j ∈ settleM V l) : ∃ x ∈ l, j = x ∨ j = cancel x := by
  unfold settleM at h
  split at h
  · obtain ⟨x, hx, e⟩ := settled_at h
    exact ⟨x, hx, e.imp id fun h => h.2⟩
  · cases h
theorem ready_all (d0 d1 d2 bo fr tr ag : Int) (K : Option Addr) (kc : Nat) (ks : List Cls) (hlk : ks.length ≤ 4611686018427387904) (X : Option Addr) (cap : Nat) (l : List JV) (hl : l.length ≤ 1000) (hla : ∀ j ∈ l, j.af.length ≤ 1000) (hw : ∀ j ∈ l, JWf j) (n : Int) (w : World) (hc : ClsAt w w.heap.size K ks) (hX : JobsAt w X l) :
    Calls Try.prog 38 #[.agg #[.int .i64 d0, .int .i64 d1, .int .i64 d2, .int .i64 bo, .int .i64 fr, .int .i64 tr, .int .i64 ag, .slice K ks.length kc], .slice X l.length cap, .int .i64 n] w fun e w' => e = .returned (.tuple #[.bool (readyR (tableV d0 d1 d2 bo fr tr ag ks l) l n).1, .int .i64 (readyR (tableV d0 d1 d2 bo fr tr ag ks l) l n).2]) ∧ Below w.heap.size w w' := by
  by_cases hv : tableV d0 d1 d2 bo fr tr ag ks l = 0
  · by_cases ha : atV l n < 0
    · have e : readyR (tableV d0 d1 d2 bo fr tr ag ks l) l n = (false, 6) := by unfold readyR; rw [if_neg (by simpa using hv), if_pos ha]
      rw [e]
      exact ready_none d0 d1 d2 bo fr tr ag K kc ks hlk X cap l hl hla n hv ha w hc hX
    · obtain ⟨k, x, hk, hx⟩ := atV_get ha
      have e : readyR (tableV d0 d1 d2 bo fr tr ag ks l) l n = (readyV l x, 0) := by
        unfold readyR
        rw [if_neg (by simpa using hv), if_neg ha, hk]
        simp [List.getD_eq_getElem?_getD, hx]
      rw [e]
      exact ready_ok d0 d1 d2 bo fr tr ag K kc ks hlk X cap l hl hla n hw hv k x hk hx w hc hX
  · have e : readyR (tableV d0 d1 d2 bo fr tr ag ks l) l n = (false, tableV d0 d1 d2 bo fr tr ag ks l) := by unfold readyR; rw [if_pos hv]
    rw [e]
    exact ready_bad d0 d1 d2 bo fr tr ag K kc ks hlk X cap l hl hla n hv w hc hX
theorem rReady_all (d0 d1 d2 bo fr tr ag : Int) (K : Option Addr) (kc : Nat) (ks : List Cls) (hlk : ks.length ≤ 4611686018427387904) (X : Option Addr) (cap : Nat) (l : List JV) (hl : l.length ≤ 1000) (hla : ∀ j ∈ l, j.af.length ≤ 1000) (hw : ∀ j ∈ l, JWf j) (n : Int) (w : World) (hc : ClsAt w w.heap.size K ks) (hX : JobsAt w X l) :
    Calls Try.prog 42 #[.agg #[.int .i64 d0, .int .i64 d1, .int .i64 d2, .int .i64 bo, .int .i64 fr, .int .i64 tr, .int .i64 ag, .slice K ks.length kc], .slice X l.length cap, .int .i64 n] w fun e w' => e = .returned (.tuple #[.bool (readyR (tableV d0 d1 d2 bo fr tr ag ks l) l n).1, .int .i64 (readyR (tableV d0 d1 d2 bo fr tr ag ks l) l n).2]) ∧ Below w.heap.size w w' := by
  by_cases hv : tableV d0 d1 d2 bo fr tr ag ks l = 0
  · by_cases ha : atV l n < 0
    · have e : readyR (tableV d0 d1 d2 bo fr tr ag ks l) l n = (false, 6) := by unfold readyR; rw [if_neg (by simpa using hv), if_pos ha]
      rw [e]
      exact rReady_none d0 d1 d2 bo fr tr ag K kc ks hlk X cap l hl hla n hv ha w hc hX
    · obtain ⟨k, x, hk, hx⟩ := atV_get ha
      have e : readyR (tableV d0 d1 d2 bo fr tr ag ks l) l n = (readyV l x, 0) := by
        unfold readyR
        rw [if_neg (by simpa using hv), if_neg ha, hk]
        simp [List.getD_eq_getElem?_getD, hx]
      rw [e]
      exact rReady_ok d0 d1 d2 bo fr tr ag K kc ks hlk X cap l hl hla n (tableV_of hv).2.rise hv k x hk hx w hc hX
  · have e : readyR (tableV d0 d1 d2 bo fr tr ag ks l) l n = (false, tableV d0 d1 d2 bo fr tr ag ks l) := by unfold readyR; rw [if_pos hv]
    rw [e]
    exact rReady_bad d0 d1 d2 bo fr tr ag K kc ks hlk X cap l hl hla n hv w hc hX
theorem settle_all (d0 d1 d2 bo fr tr ag : Int) (K : Option Addr) (kc : Nat) (ks : List Cls) (hlk : ks.length ≤ 4611686018427387904) (X : Option Addr) (cap : Nat) (l : List JV) (hl : l.length ≤ 1000) (hla : ∀ j ∈ l, j.af.length ≤ 1000) (hw : ∀ j ∈ l, JWf j) (w : World) (hc : ClsAt w w.heap.size K ks) (hX : JobsAt w X l) :
    Calls Try.prog 43 #[.agg #[.int .i64 d0, .int .i64 d1, .int .i64 d2, .int .i64 bo, .int .i64 fr, .int .i64 tr, .int .i64 ag, .slice K ks.length kc], .slice X l.length cap] w fun e w' => ∃ X' c', e = .returned (.tuple #[.slice X' (settleM (tableV d0 d1 d2 bo fr tr ag ks l) l).length c', .int .i64 (tableV d0 d1 d2 bo fr tr ag ks l)]) ∧ JobsOwn w' w.heap.size X' (settleM (tableV d0 d1 d2 bo fr tr ag ks l) l) ∧ Below w.heap.size w w' := by
  by_cases hv : tableV d0 d1 d2 bo fr tr ag ks l = 0
  · have e : settleM (tableV d0 d1 d2 bo fr tr ag ks l) l = settleV l := if_pos hv
    have e2 : (settleV l).length = l.length := stepS_len l l.length
    rw [e, e2]
    have h := settle_ok d0 d1 d2 bo fr tr ag K kc ks hlk X cap l hl hla hw hv w hc hX
    rw [hv]
    exact h
  · have e : settleM (tableV d0 d1 d2 bo fr tr ag ks l) l = [] := if_neg hv
    rw [e]
    refine (settle_bad d0 d1 d2 bo fr tr ag K kc ks hlk X cap l hl hla hv w hc hX).mono ?_
    rintro e w' ⟨rfl, hB⟩
    exact ⟨none, 0, rfl, fun i j h => by simp at h, hB⟩
theorem rSettle_all (d0 d1 d2 bo fr tr ag : Int) (K : Option Addr) (kc : Nat) (ks : List Cls) (hlk : ks.length ≤ 4611686018427387904) (X : Option Addr) (cap : Nat) (l : List JV) (hl : l.length ≤ 1000) (hla : ∀ j ∈ l, j.af.length ≤ 1000) (hw : ∀ j ∈ l, JWf j) (w : World) (hc : ClsAt w w.heap.size K ks) (hX : JobsAt w X l) :
    Calls Try.prog 44 #[.agg #[.int .i64 d0, .int .i64 d1, .int .i64 d2, .int .i64 bo, .int .i64 fr, .int .i64 tr, .int .i64 ag, .slice K ks.length kc], .slice X l.length cap] w fun e w' => ∃ X' c', e = .returned (.tuple #[.slice X' (settleM (tableV d0 d1 d2 bo fr tr ag ks l) l).length c', .int .i64 (tableV d0 d1 d2 bo fr tr ag ks l)]) ∧ JobsOwn w' w.heap.size X' (settleM (tableV d0 d1 d2 bo fr tr ag ks l) l) ∧ Below w.heap.size w w' := by
  by_cases hv : tableV d0 d1 d2 bo fr tr ag ks l = 0
  · have e : settleM (tableV d0 d1 d2 bo fr tr ag ks l) l = settleV l := if_pos hv
    have e2 : (settleV l).length = l.length := stepS_len l l.length
    rw [e, e2]
    have h := rSettle_ok d0 d1 d2 bo fr tr ag K kc ks hlk X cap l hl hla (tableV_of hv).2.rise (tok_clos (tableV_of hv).2) hv w hc hX
    rw [hv]
    exact h
  · have e : settleM (tableV d0 d1 d2 bo fr tr ag ks l) l = [] := if_neg hv
    rw [e]
    refine (rSettle_bad d0 d1 d2 bo fr tr ag K kc ks hlk X cap l hl hla hv w hc hX).mono ?_
    rintro e w' ⟨rfl, hB⟩
    exact ⟨none, 0, rfl, fun i j h => by simp at h, hB⟩
set_option maxRecDepth 100000 in
set_option maxHeartbeats 16000000 in
theorem dd_cls (d0 d1 d2 bo fr tr ag : Int) (K : Option Addr) (kc : Nat) (ks : List Cls) (hlk : ks.length ≤ maxLen) (X : Option Addr) (cX : Nat) (l : List JV) (hl : l.length ≤ maxLen) (hla : ∀ j ∈ l, JWf j ∧ j.af.length ≤ maxLen) (n : Int) (h0 : (100 : Int) < (ks.length : Int)) (w : World) (hk : ClsAt w w.heap.size K ks) (hX : JobsAt w X l) :
    Calls Try.prog 13 #[.agg #[.int .i64 d0, .int .i64 d1, .int .i64 d2, .int .i64 bo, .int .i64 fr, .int .i64 tr, .int .i64 ag, .slice K ks.length kc], .slice X l.length cX, .int .i64 n] w fun e w' => e = .returned (.bool true) ∧ Below w.heap.size w w' := by
  unfold maxLen at hlk hl
  clear hk hX
  go_enter Try.func13, Try.ntmps13
  go_upto_region 1 with fail
  have kc0 : Blk (w.alloc (.cells #[.int .i64 d0, .int .i64 d1, .int .i64 d2, .int .i64 bo, .int .i64 fr, .int .i64 tr, .int .i64 ag, .slice K ks.length kc] 26)) w.heap.size 26 #[.int .i64 d0, .int .i64 d1, .int .i64 d2, .int .i64 bo, .int .i64 fr, .int .i64 tr, .int .i64 ag, .slice K ks.length kc] := Blk.new w _ _
  have hb0 : Below w.heap.size w (w.alloc (.cells #[.int .i64 d0, .int .i64 d1, .int .i64 d2, .int .i64 bo, .int .i64 fr, .int .i64 tr, .int .i64 ag, .slice K ks.length kc] 26)) := below_alloc (Below.refl _ _)
  generalize (w.alloc (.cells #[.int .i64 d0, .int .i64 d1, .int .i64 d2, .int .i64 bo, .int .i64 fr, .int .i64 tr, .int .i64 ag, .slice K ks.length kc] 26)) = w1 at *
  have HB1 := Lib.hid hb0
  have KC1 := Lib.hid kc0
  have xk : w1.cell? ⟨w.heap.size, 7, none⟩ = some (.slice K ks.length kc) := KC1.out.cell 7
  clear hb0 kc0
  go_wp2_with fail
  go_ret
  exact ⟨rfl, HB1.out⟩
set_option maxRecDepth 100000 in
set_option maxHeartbeats 16000000 in
theorem dd_great (d0 d1 d2 bo fr tr ag : Int) (K : Option Addr) (kc : Nat) (ks : List Cls) (hlk : ks.length ≤ maxLen) (X : Option Addr) (cX : Nat) (l : List JV) (hl : l.length ≤ maxLen) (hla : ∀ j ∈ l, JWf j ∧ j.af.length ≤ maxLen) (n : Int) (h0 : ¬ (100 : Int) < (ks.length : Int)) (h1 : greatB l = true) (w : World) (hk : ClsAt w w.heap.size K ks) (hX : JobsAt w X l) :
    Calls Try.prog 13 #[.agg #[.int .i64 d0, .int .i64 d1, .int .i64 d2, .int .i64 bo, .int .i64 fr, .int .i64 tr, .int .i64 ag, .slice K ks.length kc], .slice X l.length cX, .int .i64 n] w fun e w' => e = .returned (.bool true) ∧ Below w.heap.size w w' := by
  unfold maxLen at hlk hl
  have HG1 := Lib.hid (fun w h => great_big X cX l (by omega) (fun j hj => by have := (hla j hj).2; unfold maxLen at this; omega) w h)
  rw [h1] at HG1
  have HX := Lib.hid hX
  clear hk hX h1
  go_enter Try.func13, Try.ntmps13
  go_upto_region 1 with fail
  have kc0 : Blk (w.alloc (.cells #[.int .i64 d0, .int .i64 d1, .int .i64 d2, .int .i64 bo, .int .i64 fr, .int .i64 tr, .int .i64 ag, .slice K ks.length kc] 26)) w.heap.size 26 #[.int .i64 d0, .int .i64 d1, .int .i64 d2, .int .i64 bo, .int .i64 fr, .int .i64 tr, .int .i64 ag, .slice K ks.length kc] := Blk.new w _ _
  have hb0 : Below w.heap.size w (w.alloc (.cells #[.int .i64 d0, .int .i64 d1, .int .i64 d2, .int .i64 bo, .int .i64 fr, .int .i64 tr, .int .i64 ag, .slice K ks.length kc] 26)) := below_alloc (Below.refl _ _)
  generalize (w.alloc (.cells #[.int .i64 d0, .int .i64 d1, .int .i64 d2, .int .i64 bo, .int .i64 fr, .int .i64 tr, .int .i64 ag, .slice K ks.length kc] 26)) = w1 at *
  have HB1 := Lib.hid hb0
  have KC1 := Lib.hid kc0
  have xk : w1.cell? ⟨w.heap.size, 7, none⟩ = some (.slice K ks.length kc) := KC1.out.cell 7
  clear hb0 kc0
  go_wp2_with fail
  refine (HG1.out _ (HX.out.up HB1.out)).mono ?_
  rintro e w2 ⟨rfl, hB2⟩
  have HB2 := Lib.hid (below_up HB1.out hB2)
  have KC2 := Lib.hid (KC1.out.below hB2 KC1.out.lt)
  clear hB2 KC1 xk HB1 HG1
  go_wp2_with fail
  go_ret
  exact ⟨rfl, HB2.out⟩
set_option maxRecDepth 100000 in
set_option maxHeartbeats 16000000 in
theorem dd_main (d0 d1 d2 bo fr tr ag : Int) (K : Option Addr) (kc : Nat) (ks : List Cls) (hlk : ks.length ≤ maxLen) (X : Option Addr) (cX : Nat) (l : List JV) (hl : l.length ≤ maxLen) (hla : ∀ j ∈ l, JWf j ∧ j.af.length ≤ maxLen) (n : Int) (h0 : ¬ (100 : Int) < (ks.length : Int)) (h1 : greatB l = false) (w : World) (hk : ClsAt w w.heap.size K ks) (hX : JobsAt w X l) :
    Calls Try.prog 13 #[.agg #[.int .i64 d0, .int .i64 d1, .int .i64 d2, .int .i64 bo, .int .i64 fr, .int .i64 tr, .int .i64 ag, .slice K ks.length kc], .slice X l.length cX, .int .i64 n] w fun e w' => e = .returned (.bool true) ∧ Below w.heap.size w w' := by
  unfold maxLen at hlk hl
  have HG1 := Lib.hid (fun w h => great_big X cX l (by omega) (fun j hj => by have := (hla j hj).2; unfold maxLen at this; omega) w h)
  rw [h1] at HG1
  obtain ⟨hl1, hl2⟩ := great_not h1
  have hlj : ∀ j ∈ l, JWf j := fun j hj => (hla j hj).1
  have hl4 : ∀ j ∈ l, j.af.length ≤ 1000 := fun j hj => by have := hl2 j hj; omega
  have hlw : ∀ j ∈ l, WWf j.x ∧ j.af.length ≤ 1000 := fun j hj => ⟨(hlj j hj).2.2.2.1, hl4 j hj⟩
  have HX := Lib.hid hX
  have HK := Lib.hid hk
  have hmn := settleM_len (tableV d0 d1 d2 bo fr tr ag ks l) l
  have hmw : ∀ j ∈ settleM (tableV d0 d1 d2 bo fr tr ag ks l) l, WWf j.x ∧ j.af.length ≤ 100 := fun j hj => by
    obtain ⟨x, hx, rfl | rfl⟩ := settleM_mem hj
    · exact ⟨(hlw _ hx).1, hl2 _ hx⟩
    · exact ⟨(hlw x hx).1, hl2 x hx⟩
  have HT1 := Lib.hid (fun w h => rtwin X cX l (by omega) hl4 w h)
  have HRa := Lib.hid (fun X1 c1 w hk hX => ready_all d0 d1 d2 bo fr tr ag K kc ks (by omega) X1 c1 l (by omega) hl4 hlj n w hk hX)
  have HRb := Lib.hid (fun w hk hX => rReady_all d0 d1 d2 bo fr tr ag K kc ks (by omega) X cX l (by omega) hl4 hlj n w hk hX)
  have HSa := Lib.hid (fun X1 c1 w hk hX => settle_all d0 d1 d2 bo fr tr ag K kc ks (by omega) X1 c1 l (by omega) hl4 hlj w hk hX)
  have HSb := Lib.hid (fun w hk hX => rSettle_all d0 d1 d2 bo fr tr ag K kc ks (by omega) X cX l (by omega) hl4 hlj w hk hX)
  generalize settleM (tableV d0 d1 d2 bo fr tr ag ks l) l = m at *
  generalize readyR (tableV d0 d1 d2 bo fr tr ag ks l) l n = R at *
  generalize tableV d0 d1 d2 bo fr tr ag ks l = V at *
  have HSm := Lib.hid (fun X1 X2 c1 c2 w h1 h2 => rSame X1 X2 c1 c2 m m (by omega) (by omega) (fun j hj => ⟨(hmw j hj).1, by have := (hmw j hj).2; omega⟩) (fun j hj => ⟨(hmw j hj).1, by have := (hmw j hj).2; omega⟩) w h1 h2)
  rw [decide_eq_true (rfl : m = m)] at HSm
  have HSl := Lib.hid (fun X1 c1 w h1 h2 => rSame X1 X c1 cX l l (by omega) (by omega) hlw hlw w h1 h2)
  rw [decide_eq_true (rfl : l = l)] at HSl
  have HM := Lib.hid (fun j (hj : j ∈ m) => (hmw j hj).2)
  have hml : m.length ≤ 100 := by omega
  obtain ⟨R1, R2⟩ := R
  clear hk hX h1 hlj hl4 hl2 hlw hla hmw hmn hl1
  go_enter Try.func13, Try.ntmps13
  go_upto_region 1 with fail
  have kc0 : Blk (w.alloc (.cells #[.int .i64 d0, .int .i64 d1, .int .i64 d2, .int .i64 bo, .int .i64 fr, .int .i64 tr, .int .i64 ag, .slice K ks.length kc] 26)) w.heap.size 26 #[.int .i64 d0, .int .i64 d1, .int .i64 d2, .int .i64 bo, .int .i64 fr, .int .i64 tr, .int .i64 ag, .slice K ks.length kc] := Blk.new w _ _
  have hb0 : Below w.heap.size w (w.alloc (.cells #[.int .i64 d0, .int .i64 d1, .int .i64 d2, .int .i64 bo, .int .i64 fr, .int .i64 tr, .int .i64 ag, .slice K ks.length kc] 26)) := below_alloc (Below.refl _ _)
  generalize (w.alloc (.cells #[.int .i64 d0, .int .i64 d1, .int .i64 d2, .int .i64 bo, .int .i64 fr, .int .i64 tr, .int .i64 ag, .slice K ks.length kc] 26)) = w1 at *
  have HB1 := Lib.hid hb0
  have KC1 := Lib.hid kc0
  have xk : w1.cell? ⟨w.heap.size, 7, none⟩ = some (.slice K ks.length kc) := KC1.out.cell 7
  clear hb0 kc0
  go_wp2_with fail
  refine (HG1.out _ (HX.out.up HB1.out)).mono ?_
  rintro e w2 ⟨rfl, hB2⟩
  have HB2 := Lib.hid (below_up HB1.out hB2)
  have KC2 := Lib.hid (KC1.out.below hB2 KC1.out.lt)
  clear hB2 KC1 xk HB1 HG1
  go_wp2_with fail
  refine (HT1.out _ (HX.out.up HB2.out)).mono ?_
  rintro e w3 ⟨X1, q1, rfl, hO1, hB3⟩
  have HB3 := Lib.hid (below_up HB2.out hB3)
  have KC3 := Lib.hid (KC2.out.below hB3 KC2.out.lt)
  have HO3 := Lib.hid hO1.jobs
  clear hO1
  clear hB3 KC2 HT1
  go_wp2_with (first | (refine wpList_load_row rfl 26 _ rfl _ rfl 26 #[.int .i64 d0, .int .i64 d1, .int .i64 d2, .int .i64 bo, .int .i64 fr, .int .i64 tr, .int .i64 ag, .slice K ks.length kc] (0, 0) _ KC3.out Try.underlying26 rfl (by kernel_rfl) ?_))
  refine (HRa.out X1 q1 _ (HK.out.up HB3.out) HO3.out).mono ?_
  rintro e w4 ⟨rfl, hB4⟩
  have HB4 := Lib.hid (below_up HB3.out hB4)
  have KC4 := Lib.hid (KC3.out.below hB4 KC3.out.lt)
  have HO4 := Lib.hid (HO3.out.up hB4)
  clear HO3
  clear hB4 KC3 HRa
  go_wp2_with (first | (refine wpList_load_row rfl 26 _ rfl _ rfl 26 #[.int .i64 d0, .int .i64 d1, .int .i64 d2, .int .i64 bo, .int .i64 fr, .int .i64 tr, .int .i64 ag, .slice K ks.length kc] (0, 0) _ KC4.out Try.underlying26 rfl (by kernel_rfl) ?_))
  refine (HRb.out _ (HK.out.up HB4.out) (HX.out.up HB4.out)).mono ?_
  rintro e w5 ⟨rfl, hB5⟩
  have HB5 := Lib.hid (below_up HB4.out hB5)
  have KC5 := Lib.hid (KC4.out.below hB5 KC4.out.lt)
  have HO5 := Lib.hid (HO4.out.up hB5)
  clear HO4
  clear hB5 KC4 HRb
  go_wp2_with (first | (refine wpList_load_row rfl 26 _ rfl _ rfl 26 #[.int .i64 d0, .int .i64 d1, .int .i64 d2, .int .i64 bo, .int .i64 fr, .int .i64 tr, .int .i64 ag, .slice K ks.length kc] (0, 0) _ KC5.out Try.underlying26 rfl (by kernel_rfl) ?_))
  refine (HSa.out X1 q1 _ (HK.out.up HB5.out) HO5.out).mono ?_
  rintro e w6 ⟨X2, q2, rfl, hN, hB6⟩
  have HB6 := Lib.hid (below_up HB5.out hB6)
  have KC6 := Lib.hid (KC5.out.below hB6 KC5.out.lt)
  have HN6 := Lib.hid hN
  have HD6 := Lib.hid hB6
  clear hN
  clear hB6 KC5 HSa
  go_wp2_with (first | (refine wpList_load_row rfl 26 _ rfl _ rfl 26 #[.int .i64 d0, .int .i64 d1, .int .i64 d2, .int .i64 bo, .int .i64 fr, .int .i64 tr, .int .i64 ag, .slice K ks.length kc] (0, 0) _ KC6.out Try.underlying26 rfl (by kernel_rfl) ?_))
  refine (HSb.out _ (HK.out.up HB6.out) (HX.out.up HB6.out)).mono ?_
  rintro e w7 ⟨X3, q3, rfl, hN, hB7⟩
  have HB7 := Lib.hid (below_up HB6.out hB7)
  have KC7 := Lib.hid (KC6.out.below hB7 KC6.out.lt)
  have HN7 := Lib.hid (And.intro (HN6.out.up hB7) hN.jobs)
  have HD7 := Lib.hid (below_up HD6.out hB7)
  clear hN HN6 HD6
  clear hB7 KC6 HSb
  have e1 : (R1 == R1) = true := by simp
  have e2 : (R2 != R2) = false := by simp
  have e3 : (V != V) = false := by simp
  go_wp2_with fail
  refine (HSm.out X2 X3 q2 q3 _ (JobsOwn.jobs HN7.out.1) HN7.out.2).mono ?_
  rintro e w8 ⟨rfl, hB8⟩
  have HB8 := Lib.hid (below_up HD7.out hB8)
  have HS8 := Lib.hid ((JobsOwn.shape HN7.out.1).up hB8)
  clear hB8 KC7 HN7 HD7 HSm
  go_wp2_with fail
  have hns : (lens m).length = m.length := by simp [lens]
  go_loopw [16] (fun i wr => ∃ k : Nat, k ≤ m.length ∧ i = .int .i64 k ∧ Hid (Below w5.heap.size w5 wr) ∧ Hid (Shape wr w5.heap.size X2 (lens m)))
    (fun i _ => m.length - (intOf i).toNat)
  case atStart => exact ⟨0, Nat.zero_le _, rfl, HB8.out, HS8.out⟩
  case round =>
    obtain ⟨k, hk, rfl, hB, hS⟩ := hrel
    clear HB8 HS8
    by_cases hlt : k < m.length
    · have hg : (lens m)[k]? = some (lens m)[k] := List.getElem?_eq_getElem (by omega)
      have hnm : (lens m)[k]'(by omega) ≤ 100 := by
        have : (lens m)[k]'(by omega) = (m[k]'hlt).af.length := by simp [lens]
        rw [this]
        exact HM.out _ (List.getElem_mem hlt)
      generalize (lens m)[k]'(by omega) = z at hg hnm
      have hki : (k : Int) < (m.length : Int) := by omega
      have hki0 : (0 : Int) ≤ (k : Int) := by omega
      obtain ⟨g, Ya, ca, rfl, hgB, hc13, _, _, hel⟩ := hS.out k z hg
      have HG := Lib.hid (And.intro hg hgB)
      clear hg hc13 hel
      go_wp2_with fail
      go_loopw [17] (fun i wi => ∃ q : Nat, q ≤ z ∧ i = .int .i64 q ∧ Hid (Below w5.heap.size w5 wi) ∧ Hid (Shape wi w5.heap.size (some ⟨g, 0, none⟩) (lens m)))
        (fun i _ => z - (intOf i).toNat)
      case atStart => exact ⟨0, Nat.zero_le _, rfl, hB.out, hS.out⟩
      case round =>
        clear hB hS
        obtain ⟨q, hq, rfl, hB, hS⟩ := hrel
        obtain ⟨g', Yb, cb, e1, _, hc13, _, _, hel⟩ := hS.out k z HG.out.1
        have e2 : g' = g := by simp at e1; exact e1.symm
        rw [e2] at hc13 hel
        clear e1 e2
        by_cases hqn : q < z
        · obtain ⟨b, o, rfl, hbB, hbg, ⟨u, hu⟩, hf⟩ := hel q hqn
          have hqi : (q : Int) < (z : Int) := by omega
          have hqi0 : (0 : Int) ≤ (q : Int) := by omega
          have HH := Lib.hid (And.intro hbB hbg)
          clear hel hbB hbg
          go_wp2_with fail
          go_roundw
          case rel => exact ⟨q + 1, by omega, by go_num, hB.out.setCell HH.out.1 _, hS.out.set_ HH.out.2 _⟩
          case measure => simp [intOf]; omega
        · obtain rfl : q = z := by omega
          have hqi : ¬ (q : Int) < (q : Int) := by omega
          clear hel
          go_wp2_with fail
          go_roundw
          case rel => exact ⟨k + 1, by omega, by go_num, hB.out, hS.out⟩
          case measure => simp [intOf]; omega
    · obtain rfl : k = m.length := by omega
      go_wp2_with fail
      refine (HSl.out X1 q1 _ (HO5.out.up hB.out) (HX.out.up (below_up HB5.out hB.out))).mono ?_
      rintro e w9 ⟨rfl, hB9⟩
      have HB9 := Lib.hid (below_up (below_up HB5.out hB.out) hB9)
      clear hB9
      go_wp2_with fail
      go_ret
      exact ⟨rfl, HB9.out⟩
theorem doLaw (w : World) (d0 d1 d2 bo fr tr ag : Int) (K : Option Addr) (kc : Nat) (ks : List Cls) (hkc : ks.length ≤ kc) (hkm : kc ≤ maxLen) (hk : ClsAt w w.heap.size K ks)
    (X : Option Addr) (cX : Nat) (l : List JV) (hlc : l.length ≤ cX) (hlm : cX ≤ maxLen) (hX : JobsAt w X l) (hla : ∀ j ∈ l, JWf j ∧ j.af.length ≤ maxLen) (n : Int) (wn : (Lit.int .i64 n).wf = true) :
    Calls Try.prog 13 #[.agg #[.int .i64 d0, .int .i64 d1, .int .i64 d2, .int .i64 bo, .int .i64 fr, .int .i64 tr, .int .i64 ag, .slice K ks.length kc], .slice X l.length cX, .int .i64 n] w fun e w' => e = .returned (.bool true) ∧ Below w.heap.size w w' := by
  have hlk : ks.length ≤ maxLen := Nat.le_trans hkc hkm
  have hl : l.length ≤ maxLen := Nat.le_trans hlc hlm
  by_cases h0 : (100 : Int) < (ks.length : Int)
  · exact dd_cls d0 d1 d2 bo fr tr ag K kc ks hlk X cX l hl hla n h0 w hk hX
  · cases h1 : greatB l
    · exact dd_main d0 d1 d2 bo fr tr ag K kc ks hlk X cX l hl hla n h0 h1 w hk hX
    · exact dd_great d0 d1 d2 bo fr tr ag K kc ks hlk X cX l hl hla n h0 h1 w hk hX
end Go.Proofs.Ytfpljpdjohmbaaa.DepsDo
