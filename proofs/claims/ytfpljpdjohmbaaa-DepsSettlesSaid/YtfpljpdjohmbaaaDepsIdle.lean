/- DepsIdle: the walk. -/
import Derived.BigRegion
import Derived.BigQuiet
import Derived.Deep.QuietTactic
import Derived.Deep.DeepCutAuto
import Derived.Deep.RegionHeld3
import Derived.Deep.MidRow
import Derived.Test.YtfpljpdjohmbaaaOpenJob
import Derived.Test.YtfpljpdjohmbaaaJobTable
import Derived.Test.YtfpljpdjohmbaaaJobSame
import Derived.Test.YtfpljpdjohmbaaaJobGreat
import Derived.Test.YtfpljpdjohmbaaaDepsAlive
import Derived.Test.YtfpljpdjohmbaaaDepsMath
namespace Go.Proofs.Ytfpljpdjohmbaaa.DepsIdle
open Go.RowKit Mem PosMath PartMath TurnMath TurnMap TurnFitsV JobMath JobIndex JobMem JobTable JobTwin JobSame JobRSame JobGreat DepsStates DepsSettle DepsAlive DepsMath Lay
set_option linter.unusedVariables false
set_option linter.unusedSimpArgs false

theorem jobs_take {w : World} {X : Option Addr} {m : List JV} (h : JobsAt w X m) (k : Nat) : JobsAt w X (m.take k) := fun i j hi => by
  have hik : i < k := by have := (List.getElem?_eq_some_iff.1 hi).1; simp at this; omega
  rw [List.getElem?_take_of_lt hik] at hi
  exact h i j hi
theorem wf_cancel {j : JV} (h : JWf j) : JWf (cancel j) := by
  unfold JWf at *
  obtain ⟨a, b, c, d, e, f, g, h⟩ := h
  exact ⟨a, b, c, d, e, f, rfl, h⟩
set_option maxRecDepth 100000 in
set_option maxHeartbeats 16000000 in
theorem di_cls (d0 d1 d2 bo fr tr ag : Int) (K : Option Addr) (kc : Nat) (ks : List Cls) (hlk : ks.length ≤ maxLen) (X : Option Addr) (cX : Nat) (l : List JV) (hl : l.length ≤ maxLen) (hla : ∀ j ∈ l, JWf j ∧ j.af.length ≤ maxLen) (n : Int) (h0 : (100 : Int) < (ks.length : Int)) (w : World) (hk : ClsAt w w.heap.size K ks) (hX : JobsAt w X l) :
    Calls Try.prog 16 #[.agg #[.int .i64 d0, .int .i64 d1, .int .i64 d2, .int .i64 bo, .int .i64 fr, .int .i64 tr, .int .i64 ag, .slice K ks.length kc], .slice X l.length cX, .int .i64 n] w fun e w' => e = .returned (.bool true) ∧ Below w.heap.size w w' := by
  unfold maxLen at hlk hl
  clear hk hX
  go_enter Try.func16, Try.ntmps16
  go_upto_region 1 with fail
  have kc0 : Blk (w.alloc (.cells #[.int .i64 d0, .int .i64 d1, .int .i64 d2, .int .i64 bo, .int .i64 fr, .int .i64 tr, .int .i64 ag, .slice K ks.length kc] 26)) w.heap.size 26 #[.int .i64 d0, .int .i64 d1, .int .i64 d2, .int .i64 bo, .int .i64 fr, .int .i64 tr, .int .i64 ag, .slice K ks.length kc] := Blk.new w _ _
  have hb0 : Below w.heap.size w (w.alloc (.cells #[.int .i64 d0, .int .i64 d1, .int .i64 d2, .int .i64 bo, .int .i64 fr, .int .i64 tr, .int .i64 ag, .slice K ks.length kc] 26)) := below_alloc (Below.refl _ _)
  generalize (w.alloc (.cells #[.int .i64 d0, .int .i64 d1, .int .i64 d2, .int .i64 bo, .int .i64 fr, .int .i64 tr, .int .i64 ag, .slice K ks.length kc] 26)) = w0 at *
  have HB0 := Lib.hid hb0
  have KC0 := Lib.hid kc0
  clear hb0 kc0
  go_wp2_with fail
  refine (dalive _).mono ?_
  rintro e w1 ⟨rfl, hB1⟩
  have HB1 := Lib.hid (below_up HB0.out hB1)
  have KC1 := Lib.hid (KC0.out.below hB1 KC0.out.lt)
  have xk : w1.cell? ⟨w.heap.size, 7, none⟩ = some (.slice K ks.length kc) := KC1.out.cell 7
  clear hB1 KC0 HB0
  go_wp2_with fail
  go_ret
  exact ⟨rfl, HB1.out⟩
set_option maxRecDepth 100000 in
set_option maxHeartbeats 16000000 in
theorem di_great (d0 d1 d2 bo fr tr ag : Int) (K : Option Addr) (kc : Nat) (ks : List Cls) (hlk : ks.length ≤ maxLen) (X : Option Addr) (cX : Nat) (l : List JV) (hl : l.length ≤ maxLen) (hla : ∀ j ∈ l, JWf j ∧ j.af.length ≤ maxLen) (n : Int) (h0 : ¬ (100 : Int) < (ks.length : Int)) (h1 : greatB l = true) (w : World) (hk : ClsAt w w.heap.size K ks) (hX : JobsAt w X l) :
    Calls Try.prog 16 #[.agg #[.int .i64 d0, .int .i64 d1, .int .i64 d2, .int .i64 bo, .int .i64 fr, .int .i64 tr, .int .i64 ag, .slice K ks.length kc], .slice X l.length cX, .int .i64 n] w fun e w' => e = .returned (.bool true) ∧ Below w.heap.size w w' := by
  unfold maxLen at hlk hl
  have HG1 := Lib.hid (fun w h => great_big X cX l (by omega) (fun j hj => by have := (hla j hj).2; unfold maxLen at this; omega) w h)
  rw [h1] at HG1
  have HX := Lib.hid hX
  clear hk hX h1
  go_enter Try.func16, Try.ntmps16
  go_upto_region 1 with fail
  have kc0 : Blk (w.alloc (.cells #[.int .i64 d0, .int .i64 d1, .int .i64 d2, .int .i64 bo, .int .i64 fr, .int .i64 tr, .int .i64 ag, .slice K ks.length kc] 26)) w.heap.size 26 #[.int .i64 d0, .int .i64 d1, .int .i64 d2, .int .i64 bo, .int .i64 fr, .int .i64 tr, .int .i64 ag, .slice K ks.length kc] := Blk.new w _ _
  have hb0 : Below w.heap.size w (w.alloc (.cells #[.int .i64 d0, .int .i64 d1, .int .i64 d2, .int .i64 bo, .int .i64 fr, .int .i64 tr, .int .i64 ag, .slice K ks.length kc] 26)) := below_alloc (Below.refl _ _)
  generalize (w.alloc (.cells #[.int .i64 d0, .int .i64 d1, .int .i64 d2, .int .i64 bo, .int .i64 fr, .int .i64 tr, .int .i64 ag, .slice K ks.length kc] 26)) = w0 at *
  have HB0 := Lib.hid hb0
  have KC0 := Lib.hid kc0
  clear hb0 kc0
  go_wp2_with fail
  refine (dalive _).mono ?_
  rintro e w1 ⟨rfl, hB1⟩
  have HB1 := Lib.hid (below_up HB0.out hB1)
  have KC1 := Lib.hid (KC0.out.below hB1 KC0.out.lt)
  have xk : w1.cell? ⟨w.heap.size, 7, none⟩ = some (.slice K ks.length kc) := KC1.out.cell 7
  clear hB1 KC0 HB0
  go_wp2_with fail
  refine (HG1.out _ (HX.out.up HB1.out)).mono ?_
  rintro e w2 ⟨rfl, hB2⟩
  have HB2 := Lib.hid (below_up HB1.out hB2)
  have KC2 := Lib.hid (KC1.out.below hB2 KC1.out.lt)
  clear hB2 KC1 xk
  go_wp2_with fail
  go_ret
  exact ⟨rfl, HB2.out⟩
set_option maxRecDepth 100000 in
set_option maxHeartbeats 16000000 in
theorem di_bad (d0 d1 d2 bo fr tr ag : Int) (K : Option Addr) (kc : Nat) (ks : List Cls) (hlk : ks.length ≤ maxLen) (X : Option Addr) (cX : Nat) (l : List JV) (hl : l.length ≤ maxLen) (hla : ∀ j ∈ l, JWf j ∧ j.af.length ≤ maxLen) (n : Int) (h0 : ¬ (100 : Int) < (ks.length : Int)) (h1 : greatB l = false) (hv : tableV d0 d1 d2 bo fr tr ag ks l ≠ 0) (w : World) (hk : ClsAt w w.heap.size K ks) (hX : JobsAt w X l) :
    Calls Try.prog 16 #[.agg #[.int .i64 d0, .int .i64 d1, .int .i64 d2, .int .i64 bo, .int .i64 fr, .int .i64 tr, .int .i64 ag, .slice K ks.length kc], .slice X l.length cX, .int .i64 n] w fun e w' => e = .returned (.bool true) ∧ Below w.heap.size w w' := by
  unfold maxLen at hlk hl
  have HG1 := Lib.hid (fun w h => great_big X cX l (by omega) (fun j hj => by have := (hla j hj).2; unfold maxLen at this; omega) w h)
  rw [h1] at HG1
  obtain ⟨hl1, hl2⟩ := great_not h1
  have hlj : ∀ j ∈ l, JWf j := fun j hj => (hla j hj).1
  have hl4 : ∀ j ∈ l, j.af.length ≤ 1000 := fun j hj => by have := hl2 j hj; omega
  have HX := Lib.hid hX
  have HK := Lib.hid hk
  have HSa := Lib.hid (fun w hk hX => settle_bad d0 d1 d2 bo fr tr ag K kc ks (by omega) X cX l (by omega) hl4 hv w hk hX)
  generalize tableV d0 d1 d2 bo fr tr ag ks l = V at *
  have hv' : (V != 0) = true := by simpa using hv
  clear hk hX h1 hlj hl4 hl2 hv
  go_enter Try.func16, Try.ntmps16
  go_upto_region 1 with fail
  have kc0 : Blk (w.alloc (.cells #[.int .i64 d0, .int .i64 d1, .int .i64 d2, .int .i64 bo, .int .i64 fr, .int .i64 tr, .int .i64 ag, .slice K ks.length kc] 26)) w.heap.size 26 #[.int .i64 d0, .int .i64 d1, .int .i64 d2, .int .i64 bo, .int .i64 fr, .int .i64 tr, .int .i64 ag, .slice K ks.length kc] := Blk.new w _ _
  have hb0 : Below w.heap.size w (w.alloc (.cells #[.int .i64 d0, .int .i64 d1, .int .i64 d2, .int .i64 bo, .int .i64 fr, .int .i64 tr, .int .i64 ag, .slice K ks.length kc] 26)) := below_alloc (Below.refl _ _)
  generalize (w.alloc (.cells #[.int .i64 d0, .int .i64 d1, .int .i64 d2, .int .i64 bo, .int .i64 fr, .int .i64 tr, .int .i64 ag, .slice K ks.length kc] 26)) = w0 at *
  have HB0 := Lib.hid hb0
  have KC0 := Lib.hid kc0
  clear hb0 kc0
  go_wp2_with fail
  refine (dalive _).mono ?_
  rintro e w1 ⟨rfl, hB1⟩
  have HB1 := Lib.hid (below_up HB0.out hB1)
  have KC1 := Lib.hid (KC0.out.below hB1 KC0.out.lt)
  have xk : w1.cell? ⟨w.heap.size, 7, none⟩ = some (.slice K ks.length kc) := KC1.out.cell 7
  clear hB1 KC0 HB0
  go_wp2_with fail
  refine (HG1.out _ (HX.out.up HB1.out)).mono ?_
  rintro e w2 ⟨rfl, hB2⟩
  have HB2 := Lib.hid (below_up HB1.out hB2)
  have KC2 := Lib.hid (KC1.out.below hB2 KC1.out.lt)
  clear hB2 KC1 xk
  go_wp2_with (first | (refine wpList_load_row rfl 26 _ rfl _ rfl 26 #[.int .i64 d0, .int .i64 d1, .int .i64 d2, .int .i64 bo, .int .i64 fr, .int .i64 tr, .int .i64 ag, .slice K ks.length kc] (0, 0) _ KC2.out Try.underlying26 rfl (by kernel_rfl) ?_))
  refine (HSa.out _ (HK.out.up HB2.out) (HX.out.up HB2.out)).mono ?_
  rintro e w3 ⟨rfl, hB3⟩
  have HB3 := Lib.hid (below_up HB2.out hB3)
  clear hB3
  go_wp2_with fail
  go_ret
  exact ⟨rfl, HB3.out⟩
set_option maxRecDepth 100000 in
set_option maxHeartbeats 16000000 in
theorem di_main (d0 d1 d2 bo fr tr ag : Int) (K : Option Addr) (kc : Nat) (ks : List Cls) (hlk : ks.length ≤ maxLen) (X : Option Addr) (cX : Nat) (l : List JV) (hl : l.length ≤ maxLen) (hla : ∀ j ∈ l, JWf j ∧ j.af.length ≤ maxLen) (n : Int) (h0 : ¬ (100 : Int) < (ks.length : Int)) (h1 : greatB l = false) (hv : tableV d0 d1 d2 bo fr tr ag ks l = 0) (w : World) (hk : ClsAt w w.heap.size K ks) (hX : JobsAt w X l) :
    Calls Try.prog 16 #[.agg #[.int .i64 d0, .int .i64 d1, .int .i64 d2, .int .i64 bo, .int .i64 fr, .int .i64 tr, .int .i64 ag, .slice K ks.length kc], .slice X l.length cX, .int .i64 n] w fun e w' => e = .returned (.bool true) ∧ Below w.heap.size w w' := by
  unfold maxLen at hlk hl
  have HG1 := Lib.hid (fun w h => great_big X cX l (by omega) (fun j hj => by have := (hla j hj).2; unfold maxLen at this; omega) w h)
  rw [h1] at HG1
  obtain ⟨hl1, hl2⟩ := great_not h1
  have hlj : ∀ j ∈ l, JWf j := fun j hj => (hla j hj).1
  have hl4 : ∀ j ∈ l, j.af.length ≤ 1000 := fun j hj => by have := hl2 j hj; omega
  have HX := Lib.hid hX
  have HK := Lib.hid hk
  have hpl := idle_plain hv
  have hml : (settleV l).length = l.length := stepS_len l l.length
  have hmj : ∀ j ∈ settleV l, JWf j ∧ j.af.length ≤ 1000 := fun j hj => by
    obtain ⟨x, hx, rfl | ⟨_, rfl⟩⟩ := settled_at hj
    · exact ⟨hlj _ hx, hl4 _ hx⟩
    · exact ⟨wf_cancel (hlj x hx), hl4 x hx⟩
  have HSa := Lib.hid (fun w hk hX => settle_okC d0 d1 d2 bo fr tr ag K kc ks (by omega) X cX l (by omega) hl4 hlj hv w hk hX)
  generalize settleV l = m at *
  have hmw : ∀ j ∈ m, WWf j.x ∧ j.af.length ≤ 1000 := fun j hj => ⟨(hmj j hj).1.2.2.2.1, (hmj j hj).2⟩
  have hlw : ∀ j ∈ l, WWf j.x ∧ j.af.length ≤ 1000 := fun j hj => ⟨(hlj j hj).2.2.2.1, hl4 j hj⟩
  have HSb := Lib.hid (fun (k : Nat) (X1 : Option Addr) (c1 : Nat) (w : World) (hkm : k ≤ l.length) (hk : ClsAt w w.heap.size K ks) (hX : JobsAt w X1 m) =>
    (show Calls Try.prog 43 #[.agg #[.int .i64 d0, .int .i64 d1, .int .i64 d2, .int .i64 bo, .int .i64 fr, .int .i64 tr, .int .i64 ag, .slice K ks.length kc], .slice X1 k c1] w (fun e w' => ∃ X' c', e = .returned (.tuple #[.slice X' k c', .int .i64 0]) ∧ JobsOwn w' w.heap.size X' (m.take k) ∧ Below w.heap.size w w') from by
      have h := settle_ok d0 d1 d2 bo fr tr ag K kc ks (by omega) X1 c1 (m.take k) (by simp; omega) (fun j hj => (hmj j (List.mem_of_mem_take hj)).2) (fun j hj => (hmj j (List.mem_of_mem_take hj)).1) (hpl.2 k).1 w hk (jobs_take hX k)
      rw [(hpl.2 k).2] at h
      have e : (m.take k).length = k := by simp; omega
      rw [e] at h
      exact h))
  have HSm := Lib.hid (fun (X1 : Option Addr) (c1 : Nat) (w : World) (h1 : JobsAt w X1 m) (h2 : JobsAt w X l) =>
    (show Calls Try.prog 26 #[.slice X1 l.length c1, .slice X l.length cX] w (fun e w' => e = .returned (.bool (decide (m = l))) ∧ Below w.heap.size w w') from by
      have h := jSame X1 X c1 cX m l (by omega) (by omega) hmw hlw w h1 h2
      rw [hml] at h
      exact h))
  have HSt := Lib.hid (fun (k : Nat) (X1 X2 : Option Addr) (c1 c2 : Nat) (w : World) (hkm : k ≤ l.length) (h1 : JobsAt w X1 (m.take k)) (h2 : JobsAt w X2 (m.take k)) =>
    (show Calls Try.prog 26 #[.slice X1 k c1, .slice X2 k c2] w (fun e w' => e = .returned (.bool true) ∧ Below w.heap.size w w') from by
      have e : (m.take k).length = k := by simp; omega
      have h := jSame X1 X2 c1 c2 (m.take k) (m.take k) (by omega) (by omega) (fun j hj => hmw j (List.mem_of_mem_take hj)) (fun j hj => hmw j (List.mem_of_mem_take hj)) w h1 h2
      rw [e, decide_eq_true rfl] at h
      exact h))
  have HI := Lib.hid hpl.1
  clear hk hX h1 hlj hl4 hl2 hv hpl hmj hmw hlw hla hml
  go_enter Try.func16, Try.ntmps16
  go_upto_region 1 with fail
  have kc0 : Blk (w.alloc (.cells #[.int .i64 d0, .int .i64 d1, .int .i64 d2, .int .i64 bo, .int .i64 fr, .int .i64 tr, .int .i64 ag, .slice K ks.length kc] 26)) w.heap.size 26 #[.int .i64 d0, .int .i64 d1, .int .i64 d2, .int .i64 bo, .int .i64 fr, .int .i64 tr, .int .i64 ag, .slice K ks.length kc] := Blk.new w _ _
  have hb0 : Below w.heap.size w (w.alloc (.cells #[.int .i64 d0, .int .i64 d1, .int .i64 d2, .int .i64 bo, .int .i64 fr, .int .i64 tr, .int .i64 ag, .slice K ks.length kc] 26)) := below_alloc (Below.refl _ _)
  generalize (w.alloc (.cells #[.int .i64 d0, .int .i64 d1, .int .i64 d2, .int .i64 bo, .int .i64 fr, .int .i64 tr, .int .i64 ag, .slice K ks.length kc] 26)) = w0 at *
  have HB0 := Lib.hid hb0
  have KC0 := Lib.hid kc0
  clear hb0 kc0
  go_wp2_with fail
  refine (dalive _).mono ?_
  rintro e w1 ⟨rfl, hB1⟩
  have HB1 := Lib.hid (below_up HB0.out hB1)
  have KC1 := Lib.hid (KC0.out.below hB1 KC0.out.lt)
  have xk : w1.cell? ⟨w.heap.size, 7, none⟩ = some (.slice K ks.length kc) := KC1.out.cell 7
  clear hB1 KC0 HB0
  go_wp2_with fail
  refine (HG1.out _ (HX.out.up HB1.out)).mono ?_
  rintro e w2 ⟨rfl, hB2⟩
  have HB2 := Lib.hid (below_up HB1.out hB2)
  have KC2 := Lib.hid (KC1.out.below hB2 KC1.out.lt)
  clear hB2 KC1 xk
  go_wp2_with (first | (refine wpList_load_row rfl 26 _ rfl _ rfl 26 #[.int .i64 d0, .int .i64 d1, .int .i64 d2, .int .i64 bo, .int .i64 fr, .int .i64 tr, .int .i64 ag, .slice K ks.length kc] (0, 0) _ KC2.out Try.underlying26 rfl (by kernel_rfl) ?_))
  refine (HSa.out _ (HK.out.up HB2.out) (HX.out.up HB2.out)).mono ?_
  rintro e w3 ⟨X1, c1, rfl, hO, hB3, hc1⟩
  have HB3 := Lib.hid (below_up HB2.out hB3)
  have KC3 := Lib.hid (KC2.out.below hB3 KC2.out.lt)
  have HO := Lib.hid hO.jobs
  have HC1 := Lib.hid hc1
  clear hB3 hO hc1 HB2 KC2 HSa HG1
  go_wp2_with fail
  go_loopw [11, 10] (fun i b wr => ∃ k : Nat, k ≤ l.length ∧ i = .int .i64 k ∧ b = .bool ((l.take k).any fun j => decide (3 < j.st)) ∧ Hid (Below w3.heap.size w3 wr))
    (fun i _ _ => l.length - (intOf i).toNat)
  case atStart => exact ⟨0, Nat.zero_le _, rfl, rfl, Below.refl _ _⟩
  case round =>
    obtain ⟨k, hk, rfl, rfl, hB⟩ := hrel
    by_cases hlt : k < l.length
    · have hg : l[k]? = some l[k] := List.getElem?_eq_getElem hlt
      generalize l[k] = x at hg
      have hki : (k : Int) < (l.length : Int) := by omega
      have hki0 : (0 : Int) ≤ (k : Int) := by omega
      have hX' := HX.out.up (below_up HB3.out hB.out)
      obtain ⟨b, o, Y, c, hXe, hb, hJ, _⟩ := hX' k x hg
      have y14 : wr.cell? ⟨b, o + k * 16 + 14, none⟩ = some (.int .u8 x.st) := hJ.2.2.2.2.2.2.2.2.2.2.2.2.2.2.1
      have hstep : ((l.take (k + 1)).any fun j => decide (3 < j.st)) = (((l.take k).any fun j => decide (3 < j.st)) || decide (3 < x.st)) := by
        rw [List.take_add_one, hg]; simp
      have HST := Lib.hid hstep
      generalize ((l.take k).any fun j => decide (3 < j.st)) = B at *
      subst hXe
      clear hX' hJ hg hstep
      rcases B with _ | _
      · go_wp2_with fail
        go_roundw
        case rel => exact ⟨k + 1, by omega, by go_num, by rw [HST.out]; simp, hB.out⟩
        case measure => simp [intOf]; omega
      · go_wp2_with fail
        go_roundw
        case rel => exact ⟨k + 1, by omega, by go_num, by rw [HST.out]; simp, hB.out⟩
        case measure => simp [intOf]; omega
    · obtain rfl : k = l.length := by omega
      rw [List.take_length]
      rcases hB' : (l.any fun j => decide (3 < j.st)) with _ | _
      · have hml := HI.out hB'
        clear hB'
        go_wp2_with fail
        refine (HSm.out X1 c1 _ (HO.out.up hB.out) (HX.out.up (below_up HB3.out hB.out))).mono ?_
        rw [decide_eq_true hml]
        rintro e w5 ⟨rfl, hB5⟩
        have HB5 := Lib.hid (below_up hB.out hB5)
        clear hB hB5 hml
        by_cases hn0 : n < 0
        · go_wp2_with fail
          go_ret
          exact ⟨rfl, below_up HB3.out HB5.out⟩
        · by_cases hn1 : (l.length : Int) < n
          · go_wp2_with fail
            go_ret
            exact ⟨rfl, below_up HB3.out HB5.out⟩
          · obtain ⟨k, rfl⟩ : ∃ k : Nat, n = k := ⟨n.toNat, by omega⟩
            have hkl : k ≤ l.length := by omega
            have hkc : (k : Int) ≤ (c1 : Int) := by have := HC1.out; omega
            have hk0 : (0 : Int) ≤ (k : Int) := by omega
            have HO5 := Lib.hid (HO.out.up HB5.out)
            have HK5 := Lib.hid (HK.out.up (below_up HB3.out HB5.out))
            have KC5 := Lib.hid (KC3.out.below HB5.out KC3.out.lt)
            have HBz := Lib.hid (below_up HB3.out HB5.out)
            clear HB5
            go_upto_region 16 with fail
            have kc5 := KC5.out
            have x0 : w5.cell? ⟨w.heap.size, 0, none⟩ = some (.int .i64 d0) := kc5.cell 0
            have x1 : w5.cell? ⟨w.heap.size, 1, none⟩ = some (.int .i64 d1) := kc5.cell 1
            have x2 : w5.cell? ⟨w.heap.size, 2, none⟩ = some (.int .i64 d2) := kc5.cell 2
            have x3 : w5.cell? ⟨w.heap.size, 3, none⟩ = some (.int .i64 bo) := kc5.cell 3
            have x4 : w5.cell? ⟨w.heap.size, 4, none⟩ = some (.int .i64 fr) := kc5.cell 4
            have x5 : w5.cell? ⟨w.heap.size, 5, none⟩ = some (.int .i64 tr) := kc5.cell 5
            have x6 : w5.cell? ⟨w.heap.size, 6, none⟩ = some (.int .i64 ag) := kc5.cell 6
            have x7 : w5.cell? ⟨w.heap.size, 7, none⟩ = some (.slice K ks.length kc) := kc5.cell 7
            have K0 : KeptL w5 [(⟨w.heap.size, 0, none⟩, .int .i64 d0), (⟨w.heap.size, 1, none⟩, .int .i64 d1), (⟨w.heap.size, 2, none⟩, .int .i64 d2), (⟨w.heap.size, 3, none⟩, .int .i64 bo), (⟨w.heap.size, 4, none⟩, .int .i64 fr), (⟨w.heap.size, 5, none⟩, .int .i64 tr), (⟨w.heap.size, 6, none⟩, .int .i64 ag), (⟨w.heap.size, 7, none⟩, .slice K ks.length kc)] w5 := ⟨Below.refl _ _, x0, x1, x2, x3, x4, x5, x6, x7⟩
            have K1 := K0.drew
            have S0 : ∀ W, KeptL w5 [(⟨w.heap.size, 0, none⟩, .int .i64 d0), (⟨w.heap.size, 1, none⟩, .int .i64 d1), (⟨w.heap.size, 2, none⟩, .int .i64 d2), (⟨w.heap.size, 3, none⟩, .int .i64 bo), (⟨w.heap.size, 4, none⟩, .int .i64 fr), (⟨w.heap.size, 5, none⟩, .int .i64 tr), (⟨w.heap.size, 6, none⟩, .int .i64 ag), (⟨w.heap.size, 7, none⟩, .slice K ks.length kc)] W → (Below w5.heap.size w5 W ∧ W.cell? ⟨w.heap.size, 0, none⟩ = some (.int .i64 d0) ∧ W.cell? ⟨w.heap.size, 1, none⟩ = some (.int .i64 d1) ∧ W.cell? ⟨w.heap.size, 2, none⟩ = some (.int .i64 d2) ∧ W.cell? ⟨w.heap.size, 3, none⟩ = some (.int .i64 bo) ∧ W.cell? ⟨w.heap.size, 4, none⟩ = some (.int .i64 fr) ∧ W.cell? ⟨w.heap.size, 5, none⟩ = some (.int .i64 tr) ∧ W.cell? ⟨w.heap.size, 6, none⟩ = some (.int .i64 ag) ∧ W.cell? ⟨w.heap.size, 7, none⟩ = some (.slice K ks.length kc)) := fun _ h => h
            clear kc5
            go_region_held3 (fun W => Below w5.heap.size w5 W ∧ W.cell? ⟨w.heap.size, 0, none⟩ = some (.int .i64 d0) ∧ W.cell? ⟨w.heap.size, 1, none⟩ = some (.int .i64 d1) ∧ W.cell? ⟨w.heap.size, 2, none⟩ = some (.int .i64 d2) ∧ W.cell? ⟨w.heap.size, 3, none⟩ = some (.int .i64 bo) ∧ W.cell? ⟨w.heap.size, 4, none⟩ = some (.int .i64 fr) ∧ W.cell? ⟨w.heap.size, 5, none⟩ = some (.int .i64 tr) ∧ W.cell? ⟨w.heap.size, 6, none⟩ = some (.int .i64 ag) ∧ W.cell? ⟨w.heap.size, 7, none⟩ = some (.slice K ks.length kc)) (first | with_reducible exact S0 _ K1 | with_reducible exact S0 _ KB) (first | (go_at_call 43; refine (HSb.out k X1 c1 _ hkl (HK5.out.up K1.1) (HO5.out.up K1.1)).mono ?_; rintro e w7 ⟨X2, c2, rfl, hO7, hB7⟩; have KB := K1.up hB7; have HO7 := Lib.hid hO7.jobs; clear hO7))
            all_goals
              have HB7 := Lib.hid KB.1
              have HT7 := Lib.hid (jobs_take HO5.out k)
              clear K0 K1 KB hB7 S0 x0 x1 x2 x3 x4 x5 x6 x7
              go_wp2_with fail
              refine (HSt.out k X2 X1 c2 c1 _ hkl HO7.out (HT7.out.up HB7.out)).mono ?_
              rintro e w9 ⟨rfl, hB9⟩
              have HB9 := Lib.hid (below_up (below_up HBz.out HB7.out) hB9)
              clear hB9
              go_wp2_with fail
              go_ret
              exact ⟨rfl, HB9.out⟩
      · have HB5 := hB
        clear hB hB'
        by_cases hn0 : n < 0
        · go_wp2_with fail
          go_ret
          exact ⟨rfl, below_up HB3.out HB5.out⟩
        · by_cases hn1 : (l.length : Int) < n
          · go_wp2_with fail
            go_ret
            exact ⟨rfl, below_up HB3.out HB5.out⟩
          · obtain ⟨k, rfl⟩ : ∃ k : Nat, n = k := ⟨n.toNat, by omega⟩
            have hkl : k ≤ l.length := by omega
            have hkc : (k : Int) ≤ (c1 : Int) := by have := HC1.out; omega
            have hk0 : (0 : Int) ≤ (k : Int) := by omega
            have HO5 := Lib.hid (HO.out.up HB5.out)
            have HK5 := Lib.hid (HK.out.up (below_up HB3.out HB5.out))
            have KC5 := Lib.hid (KC3.out.below HB5.out KC3.out.lt)
            have HBz := Lib.hid (below_up HB3.out HB5.out)
            clear HB5
            go_upto_region 16 with fail
            have kc5 := KC5.out
            have x0 : wr.cell? ⟨w.heap.size, 0, none⟩ = some (.int .i64 d0) := kc5.cell 0
            have x1 : wr.cell? ⟨w.heap.size, 1, none⟩ = some (.int .i64 d1) := kc5.cell 1
            have x2 : wr.cell? ⟨w.heap.size, 2, none⟩ = some (.int .i64 d2) := kc5.cell 2
            have x3 : wr.cell? ⟨w.heap.size, 3, none⟩ = some (.int .i64 bo) := kc5.cell 3
            have x4 : wr.cell? ⟨w.heap.size, 4, none⟩ = some (.int .i64 fr) := kc5.cell 4
            have x5 : wr.cell? ⟨w.heap.size, 5, none⟩ = some (.int .i64 tr) := kc5.cell 5
            have x6 : wr.cell? ⟨w.heap.size, 6, none⟩ = some (.int .i64 ag) := kc5.cell 6
            have x7 : wr.cell? ⟨w.heap.size, 7, none⟩ = some (.slice K ks.length kc) := kc5.cell 7
            have K0 : KeptL wr [(⟨w.heap.size, 0, none⟩, .int .i64 d0), (⟨w.heap.size, 1, none⟩, .int .i64 d1), (⟨w.heap.size, 2, none⟩, .int .i64 d2), (⟨w.heap.size, 3, none⟩, .int .i64 bo), (⟨w.heap.size, 4, none⟩, .int .i64 fr), (⟨w.heap.size, 5, none⟩, .int .i64 tr), (⟨w.heap.size, 6, none⟩, .int .i64 ag), (⟨w.heap.size, 7, none⟩, .slice K ks.length kc)] wr := ⟨Below.refl _ _, x0, x1, x2, x3, x4, x5, x6, x7⟩
            have K1 := K0.drew
            have S0 : ∀ W, KeptL wr [(⟨w.heap.size, 0, none⟩, .int .i64 d0), (⟨w.heap.size, 1, none⟩, .int .i64 d1), (⟨w.heap.size, 2, none⟩, .int .i64 d2), (⟨w.heap.size, 3, none⟩, .int .i64 bo), (⟨w.heap.size, 4, none⟩, .int .i64 fr), (⟨w.heap.size, 5, none⟩, .int .i64 tr), (⟨w.heap.size, 6, none⟩, .int .i64 ag), (⟨w.heap.size, 7, none⟩, .slice K ks.length kc)] W → (Below wr.heap.size wr W ∧ W.cell? ⟨w.heap.size, 0, none⟩ = some (.int .i64 d0) ∧ W.cell? ⟨w.heap.size, 1, none⟩ = some (.int .i64 d1) ∧ W.cell? ⟨w.heap.size, 2, none⟩ = some (.int .i64 d2) ∧ W.cell? ⟨w.heap.size, 3, none⟩ = some (.int .i64 bo) ∧ W.cell? ⟨w.heap.size, 4, none⟩ = some (.int .i64 fr) ∧ W.cell? ⟨w.heap.size, 5, none⟩ = some (.int .i64 tr) ∧ W.cell? ⟨w.heap.size, 6, none⟩ = some (.int .i64 ag) ∧ W.cell? ⟨w.heap.size, 7, none⟩ = some (.slice K ks.length kc)) := fun _ h => h
            clear kc5
            go_region_held3 (fun W => Below wr.heap.size wr W ∧ W.cell? ⟨w.heap.size, 0, none⟩ = some (.int .i64 d0) ∧ W.cell? ⟨w.heap.size, 1, none⟩ = some (.int .i64 d1) ∧ W.cell? ⟨w.heap.size, 2, none⟩ = some (.int .i64 d2) ∧ W.cell? ⟨w.heap.size, 3, none⟩ = some (.int .i64 bo) ∧ W.cell? ⟨w.heap.size, 4, none⟩ = some (.int .i64 fr) ∧ W.cell? ⟨w.heap.size, 5, none⟩ = some (.int .i64 tr) ∧ W.cell? ⟨w.heap.size, 6, none⟩ = some (.int .i64 ag) ∧ W.cell? ⟨w.heap.size, 7, none⟩ = some (.slice K ks.length kc)) (first | with_reducible exact S0 _ K1 | with_reducible exact S0 _ KB) (first | (go_at_call 43; refine (HSb.out k X1 c1 _ hkl (HK5.out.up K1.1) (HO5.out.up K1.1)).mono ?_; rintro e w7 ⟨X2, c2, rfl, hO7, hB7⟩; have KB := K1.up hB7; have HO7 := Lib.hid hO7.jobs; clear hO7))
            all_goals
              have HB7 := Lib.hid KB.1
              have HT7 := Lib.hid (jobs_take HO5.out k)
              clear K0 K1 KB hB7 S0 x0 x1 x2 x3 x4 x5 x6 x7
              go_wp2_with fail
              refine (HSt.out k X2 X1 c2 c1 _ hkl HO7.out (HT7.out.up HB7.out)).mono ?_
              rintro e w9 ⟨rfl, hB9⟩
              have HB9 := Lib.hid (below_up (below_up HBz.out HB7.out) hB9)
              clear hB9
              go_wp2_with fail
              go_ret
              exact ⟨rfl, HB9.out⟩
theorem idleLaw (w : World) (d0 d1 d2 bo fr tr ag : Int) (K : Option Addr) (kc : Nat) (ks : List Cls) (hkc : ks.length ≤ kc) (hkm : kc ≤ maxLen) (hk : ClsAt w w.heap.size K ks)
    (X : Option Addr) (cX : Nat) (l : List JV) (hlc : l.length ≤ cX) (hlm : cX ≤ maxLen) (hX : JobsAt w X l) (hla : ∀ j ∈ l, JWf j ∧ j.af.length ≤ maxLen) (n : Int) (wn : (Lit.int .i64 n).wf = true) :
    Calls Try.prog 16 #[.agg #[.int .i64 d0, .int .i64 d1, .int .i64 d2, .int .i64 bo, .int .i64 fr, .int .i64 tr, .int .i64 ag, .slice K ks.length kc], .slice X l.length cX, .int .i64 n] w fun e w' => e = .returned (.bool true) ∧ Below w.heap.size w w' := by
  have hlk : ks.length ≤ maxLen := Nat.le_trans hkc hkm
  have hl : l.length ≤ maxLen := Nat.le_trans hlc hlm
  by_cases h0 : (100 : Int) < (ks.length : Int)
  · exact di_cls d0 d1 d2 bo fr tr ag K kc ks hlk X cX l hl hla n h0 w hk hX
  · cases h1 : greatB l
    · by_cases hv : tableV d0 d1 d2 bo fr tr ag ks l = 0
      · exact di_main d0 d1 d2 bo fr tr ag K kc ks hlk X cX l hl hla n h0 h1 hv w hk hX
      · exact di_bad d0 d1 d2 bo fr tr ag K kc ks hlk X cX l hl hla n h0 h1 hv w hk hX
    · exact di_great d0 d1 d2 bo fr tr ag K kc ks hlk X cX l hl hla n h0 h1 w hk hX
end Go.Proofs.Ytfpljpdjohmbaaa.DepsIdle
