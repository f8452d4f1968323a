/- DepsSettles: the walk. -/
import Derived.BigRegion
import Derived.BigQuiet
import Derived.Lib.QuietBelow
import Derived.Deep.QuietTactic
import Derived.Deep.DeepCutAuto
import Derived.Deep.RegionHeld3
import Derived.Deep.MidRow
import Derived.Test.YtfpljpdjohmbaaaOpenJob
import Derived.Test.YtfpljpdjohmbaaaJobTable
import Derived.Test.YtfpljpdjohmbaaaJobSame
import Derived.Test.YtfpljpdjohmbaaaJobGreat
import Derived.Test.YtfpljpdjohmbaaaDepsAlive
import Derived.Test.YtfpljpdjohmbaaaDepsMath
import Derived.Test.YtfpljpdjohmbaaaDepsIdle
import Derived.Test.YtfpljpdjohmbaaaQuietRow
import Derived.Test.YtfpljpdjohmbaaaSetList
namespace Go.Proofs.Ytfpljpdjohmbaaa.DepsSettles
open Go.Sort (grow)
open Go.RowKit Mem PosMath PartMath TurnMath TurnMap TurnFitsV JobMath JobIndex JobFind JobMem JobTable JobTwin JobSame JobRSame JobGreat DepsStates DepsSettle DepsAlive DepsMath DepsIdle QuietRow SetList Lay
set_option linter.unusedVariables false
set_option linter.unusedSimpArgs false

theorem one_at {W : World} {g : Nat} {q : JV} {Y : Option Addr} {c : Nat} (hb : Blk W g 33 #[.int .i64 q.id, .int .i64 q.us, .int .i64 q.cl, .int .i64 q.x.a, .int .i64 q.x.b, .int .i64 q.x.c, .bool q.x.p, .bool q.x.q, .bool q.x.r, .bool q.x.tn, .int .i64 q.wa, .int .i64 q.pr, .bool q.he, .slice Y q.af.length c, .int .u8 q.st, .int .i64 q.ca]) (hY : IntsAt W Y q.af) : JobsAt W (some ⟨g, 0, none⟩) [q] := fun i j hi => by
  match i, hi with
  | 0, hi =>
    simp at hi
    subst hi
    exact ⟨g, 0, Y, c, rfl, hb.lt, ⟨hb.cell 0, hb.cell 1, hb.cell 2, hb.cell 3, hb.cell 4, hb.cell 5, hb.cell 6, hb.cell 7, hb.cell 8, hb.cell 9, hb.cell 10, hb.cell 11, hb.cell 12, hb.cell 13, hb.cell 14, hb.cell 15⟩, hY⟩
  | i + 1, hi => simp at hi
set_option maxRecDepth 100000 in
set_option maxHeartbeats 16000000 in
theorem ds_cls (d0 d1 d2 bo fr tr ag : Int) (K : Option Addr) (kc : Nat) (ks : List Cls) (hlk : ks.length ≤ maxLen) (X : Option Addr) (cX : Nat) (l : List JV) (hl : l.length ≤ maxLen) (hla : ∀ j ∈ l, JWf j ∧ j.af.length ≤ maxLen) (h0 : (100 : Int) < (ks.length : Int)) (w : World) (hk : ClsAt w w.heap.size K ks) (hX : JobsAt w X l) :
    Calls Try.prog 15 #[.agg #[.int .i64 d0, .int .i64 d1, .int .i64 d2, .int .i64 bo, .int .i64 fr, .int .i64 tr, .int .i64 ag, .slice K ks.length kc], .slice X l.length cX] w fun e w' => e = .returned (.bool true) ∧ Below w.heap.size w w' := by
  unfold maxLen at hlk hl
  clear hk hX
  go_enter Try.func15, Try.ntmps15
  go_upto_region 1 with fail
  have kc0 : Blk (w.alloc (.cells #[.int .i64 d0, .int .i64 d1, .int .i64 d2, .int .i64 bo, .int .i64 fr, .int .i64 tr, .int .i64 ag, .slice K ks.length kc] 26)) w.heap.size 26 #[.int .i64 d0, .int .i64 d1, .int .i64 d2, .int .i64 bo, .int .i64 fr, .int .i64 tr, .int .i64 ag, .slice K ks.length kc] := Blk.new w _ _
  have hb0 : Below w.heap.size w (w.alloc (.cells #[.int .i64 d0, .int .i64 d1, .int .i64 d2, .int .i64 bo, .int .i64 fr, .int .i64 tr, .int .i64 ag, .slice K ks.length kc] 26)) := below_alloc (Below.refl _ _)
  generalize (w.alloc (.cells #[.int .i64 d0, .int .i64 d1, .int .i64 d2, .int .i64 bo, .int .i64 fr, .int .i64 tr, .int .i64 ag, .slice K ks.length kc] 26)) = w0 at *
  have HB0 := Lib.hid hb0
  have KC0 := Lib.hid kc0
  clear hb0 kc0
  go_wp2_with fail
  refine (dalive _).mono ?_
  rintro e w1 ⟨rfl, hB1⟩
  have HB1 := Lib.hid (below_up HB0.out hB1)
  have KC1 := Lib.hid (KC0.out.below hB1 KC0.out.lt)
  have xk : w1.cell? ⟨w.heap.size, 7, none⟩ = some (.slice K ks.length kc) := KC1.out.cell 7
  clear hB1 KC0 HB0
  go_wp2_with fail
  go_ret
  exact ⟨rfl, HB1.out⟩
set_option maxRecDepth 100000 in
set_option maxHeartbeats 16000000 in
theorem ds_great (d0 d1 d2 bo fr tr ag : Int) (K : Option Addr) (kc : Nat) (ks : List Cls) (hlk : ks.length ≤ maxLen) (X : Option Addr) (cX : Nat) (l : List JV) (hl : l.length ≤ maxLen) (hla : ∀ j ∈ l, JWf j ∧ j.af.length ≤ maxLen) (h0 : ¬ (100 : Int) < (ks.length : Int)) (h1 : greatB l = true) (w : World) (hk : ClsAt w w.heap.size K ks) (hX : JobsAt w X l) :
    Calls Try.prog 15 #[.agg #[.int .i64 d0, .int .i64 d1, .int .i64 d2, .int .i64 bo, .int .i64 fr, .int .i64 tr, .int .i64 ag, .slice K ks.length kc], .slice X l.length cX] w fun e w' => e = .returned (.bool true) ∧ Below w.heap.size w w' := by
  unfold maxLen at hlk hl
  have HG1 := Lib.hid (fun w h => great_big X cX l (by omega) (fun j hj => by have := (hla j hj).2; unfold maxLen at this; omega) w h)
  rw [h1] at HG1
  have HX := Lib.hid hX
  clear hk hX h1
  go_enter Try.func15, Try.ntmps15
  go_upto_region 1 with fail
  have kc0 : Blk (w.alloc (.cells #[.int .i64 d0, .int .i64 d1, .int .i64 d2, .int .i64 bo, .int .i64 fr, .int .i64 tr, .int .i64 ag, .slice K ks.length kc] 26)) w.heap.size 26 #[.int .i64 d0, .int .i64 d1, .int .i64 d2, .int .i64 bo, .int .i64 fr, .int .i64 tr, .int .i64 ag, .slice K ks.length kc] := Blk.new w _ _
  have hb0 : Below w.heap.size w (w.alloc (.cells #[.int .i64 d0, .int .i64 d1, .int .i64 d2, .int .i64 bo, .int .i64 fr, .int .i64 tr, .int .i64 ag, .slice K ks.length kc] 26)) := below_alloc (Below.refl _ _)
  generalize (w.alloc (.cells #[.int .i64 d0, .int .i64 d1, .int .i64 d2, .int .i64 bo, .int .i64 fr, .int .i64 tr, .int .i64 ag, .slice K ks.length kc] 26)) = w0 at *
  have HB0 := Lib.hid hb0
  have KC0 := Lib.hid kc0
  clear hb0 kc0
  go_wp2_with fail
  refine (dalive _).mono ?_
  rintro e w1 ⟨rfl, hB1⟩
  have HB1 := Lib.hid (below_up HB0.out hB1)
  have KC1 := Lib.hid (KC0.out.below hB1 KC0.out.lt)
  have xk : w1.cell? ⟨w.heap.size, 7, none⟩ = some (.slice K ks.length kc) := KC1.out.cell 7
  clear hB1 KC0 HB0
  go_wp2_with fail
  refine (HG1.out _ (HX.out.up HB1.out)).mono ?_
  rintro e w2 ⟨rfl, hB2⟩
  have HB2 := Lib.hid (below_up HB1.out hB2)
  have KC2 := Lib.hid (KC1.out.below hB2 KC1.out.lt)
  clear hB2 KC1 xk
  go_wp2_with fail
  go_ret
  exact ⟨rfl, HB2.out⟩
set_option maxRecDepth 100000 in
set_option maxHeartbeats 16000000 in
theorem ds_bad (d0 d1 d2 bo fr tr ag : Int) (K : Option Addr) (kc : Nat) (ks : List Cls) (hlk : ks.length ≤ maxLen) (X : Option Addr) (cX : Nat) (l : List JV) (hl : l.length ≤ maxLen) (hla : ∀ j ∈ l, JWf j ∧ j.af.length ≤ maxLen) (h0 : ¬ (100 : Int) < (ks.length : Int)) (h1 : greatB l = false) (hv : tableV d0 d1 d2 bo fr tr ag ks l ≠ 0) (w : World) (hk : ClsAt w w.heap.size K ks) (hX : JobsAt w X l) :
    Calls Try.prog 15 #[.agg #[.int .i64 d0, .int .i64 d1, .int .i64 d2, .int .i64 bo, .int .i64 fr, .int .i64 tr, .int .i64 ag, .slice K ks.length kc], .slice X l.length cX] w fun e w' => e = .returned (.bool true) ∧ Below w.heap.size w w' := by
  unfold maxLen at hlk hl
  have HG1 := Lib.hid (fun w h => great_big X cX l (by omega) (fun j hj => by have := (hla j hj).2; unfold maxLen at this; omega) w h)
  rw [h1] at HG1
  obtain ⟨hl1, hl2⟩ := great_not h1
  have hlj : ∀ j ∈ l, JWf j := fun j hj => (hla j hj).1
  have hl4 : ∀ j ∈ l, j.af.length ≤ 1000 := fun j hj => by have := hl2 j hj; omega
  have HX := Lib.hid hX
  have HK := Lib.hid hk
  have HSa := Lib.hid (fun w hk hX => settle_bad d0 d1 d2 bo fr tr ag K kc ks (by omega) X cX l (by omega) hl4 hv w hk hX)
  generalize tableV d0 d1 d2 bo fr tr ag ks l = V at *
  have hv' : (V != 0) = true := by simpa using hv
  clear hk hX h1 hlj hl4 hl2 hv
  go_enter Try.func15, Try.ntmps15
  go_upto_region 1 with fail
  have kc0 : Blk (w.alloc (.cells #[.int .i64 d0, .int .i64 d1, .int .i64 d2, .int .i64 bo, .int .i64 fr, .int .i64 tr, .int .i64 ag, .slice K ks.length kc] 26)) w.heap.size 26 #[.int .i64 d0, .int .i64 d1, .int .i64 d2, .int .i64 bo, .int .i64 fr, .int .i64 tr, .int .i64 ag, .slice K ks.length kc] := Blk.new w _ _
  have hb0 : Below w.heap.size w (w.alloc (.cells #[.int .i64 d0, .int .i64 d1, .int .i64 d2, .int .i64 bo, .int .i64 fr, .int .i64 tr, .int .i64 ag, .slice K ks.length kc] 26)) := below_alloc (Below.refl _ _)
  generalize (w.alloc (.cells #[.int .i64 d0, .int .i64 d1, .int .i64 d2, .int .i64 bo, .int .i64 fr, .int .i64 tr, .int .i64 ag, .slice K ks.length kc] 26)) = w0 at *
  have HB0 := Lib.hid hb0
  have KC0 := Lib.hid kc0
  clear hb0 kc0
  go_wp2_with fail
  refine (dalive _).mono ?_
  rintro e w1 ⟨rfl, hB1⟩
  have HB1 := Lib.hid (below_up HB0.out hB1)
  have KC1 := Lib.hid (KC0.out.below hB1 KC0.out.lt)
  have xk : w1.cell? ⟨w.heap.size, 7, none⟩ = some (.slice K ks.length kc) := KC1.out.cell 7
  clear hB1 KC0 HB0
  go_wp2_with fail
  refine (HG1.out _ (HX.out.up HB1.out)).mono ?_
  rintro e w2 ⟨rfl, hB2⟩
  have HB2 := Lib.hid (below_up HB1.out hB2)
  have KC2 := Lib.hid (KC1.out.below hB2 KC1.out.lt)
  clear hB2 KC1 xk
  go_wp2_with (first | (refine wpList_load_row rfl 26 _ rfl _ rfl 26 #[.int .i64 d0, .int .i64 d1, .int .i64 d2, .int .i64 bo, .int .i64 fr, .int .i64 tr, .int .i64 ag, .slice K ks.length kc] (0, 0) _ KC2.out Try.underlying26 rfl (by kernel_rfl) ?_))
  refine (HSa.out _ (HK.out.up HB2.out) (HX.out.up HB2.out)).mono ?_
  rintro e w3 ⟨rfl, hB3⟩
  have HB3 := Lib.hid (below_up HB2.out hB3)
  clear hB3
  go_wp2_with fail
  go_ret
  exact ⟨rfl, HB3.out⟩
set_option maxRecDepth 100000 in
set_option maxHeartbeats 16000000 in
theorem ds_main (d0 d1 d2 bo fr tr ag : Int) (K : Option Addr) (kc : Nat) (ks : List Cls) (hlk : ks.length ≤ maxLen) (X : Option Addr) (cX : Nat) (l : List JV) (hl : l.length ≤ maxLen) (hla : ∀ j ∈ l, JWf j ∧ j.af.length ≤ maxLen) (h0 : ¬ (100 : Int) < (ks.length : Int)) (h1 : greatB l = false) (hv : tableV d0 d1 d2 bo fr tr ag ks l = 0) (w : World) (hk : ClsAt w w.heap.size K ks) (hX : JobsAt w X l) :
    Calls Try.prog 15 #[.agg #[.int .i64 d0, .int .i64 d1, .int .i64 d2, .int .i64 bo, .int .i64 fr, .int .i64 tr, .int .i64 ag, .slice K ks.length kc], .slice X l.length cX] w fun e w' => e = .returned (.bool true) ∧ Below w.heap.size w w' := by
  unfold maxLen at hlk hl
  have HG1 := Lib.hid (fun w h => great_big X cX l (by omega) (fun j hj => by have := (hla j hj).2; unfold maxLen at this; omega) w h)
  rw [h1] at HG1
  obtain ⟨hl1, hl2⟩ := great_not h1
  have hlj : ∀ j ∈ l, JWf j := fun j hj => (hla j hj).1
  have hl4 : ∀ j ∈ l, j.af.length ≤ 1000 := fun j hj => by have := hl2 j hj; omega
  have HX := Lib.hid hX
  have HK := Lib.hid hk
  have hpl := settles_plain hv
  have hml : (settleV l).length = l.length := stepS_len l l.length
  have hmj : ∀ j ∈ settleV l, JWf j ∧ j.af.length ≤ 1000 := fun j hj => by
    obtain ⟨x, hx, rfl | ⟨_, rfl⟩⟩ := settled_at hj
    · exact ⟨hlj _ hx, hl4 _ hx⟩
    · exact ⟨wf_cancel (hlj x hx), hl4 x hx⟩
  have HSa := Lib.hid (fun w hk hX => settle_ok d0 d1 d2 bo fr tr ag K kc ks (by omega) X cX l (by omega) hl4 hlj hv w hk hX)
  generalize settleV l = m at *
  have hmw : ∀ j ∈ m, WWf j.x ∧ j.af.length ≤ 1000 := fun j hj => ⟨(hmj j hj).1.2.2.2.1, (hmj j hj).2⟩
  have HSb := Lib.hid (fun (X1 : Option Addr) (c1 : Nat) (w : World) (hk : ClsAt w w.heap.size K ks) (hX : JobsAt w X1 m) =>
    (show Calls Try.prog 43 #[.agg #[.int .i64 d0, .int .i64 d1, .int .i64 d2, .int .i64 bo, .int .i64 fr, .int .i64 tr, .int .i64 ag, .slice K ks.length kc], .slice X1 l.length c1] w (fun e w' => ∃ X' c', e = .returned (.tuple #[.slice X' l.length c', .int .i64 0]) ∧ JobsOwn w' w.heap.size X' m ∧ Below w.heap.size w w') from by
      have h := settle_ok d0 d1 d2 bo fr tr ag K kc ks (by omega) X1 c1 m (by omega) (fun j hj => (hmj j hj).2) (fun j hj => (hmj j hj).1) hpl.1 w hk hX
      rw [hpl.2.1, hml] at h
      exact h))
  have HSm := Lib.hid (fun (X1 X2 : Option Addr) (c1 c2 : Nat) (w : World) (h1 : JobsAt w X1 m) (h2 : JobsAt w X2 m) =>
    (show Calls Try.prog 26 #[.slice X1 l.length c1, .slice X2 l.length c2] w (fun e w' => e = .returned (.bool true) ∧ Below w.heap.size w w') from by
      have h := jSame X1 X2 c1 c2 m m (by omega) (by omega) hmw hmw w h1 h2
      rw [hml, decide_eq_true rfl] at h
      exact h))
  have HS1 := Lib.hid (fun (q : JV) (hq : q ∈ m) (g1 g2 : Nat) (w : World) (h1 : JobsAt w (some ⟨g1, 0, none⟩) [q]) (h2 : JobsAt w (some ⟨g2, 0, none⟩) [q]) =>
    (show Calls Try.prog 26 #[.slice (some ⟨g1, 0, none⟩) 1 1, .slice (some ⟨g2, 0, none⟩) 1 1] w (fun e w' => e = .returned (.bool true) ∧ Below w.heap.size w w') from by
      have hh : ∀ j ∈ [q], WWf j.x ∧ j.af.length ≤ 1000 := fun j hj => by
        obtain rfl : j = q := by simpa using hj
        exact hmw j hq
      have h := jSame (some ⟨g1, 0, none⟩) (some ⟨g2, 0, none⟩) 1 1 [q] [q] (by simp) (by simp) hh hh w h1 h2
      rw [decide_eq_true rfl] at h
      exact h))
  have HF := Lib.hid (fun (X1 : Option Addr) (c1 : Nat) (v : Int) (i : Nat) (w : World) (ha : atV m v = i) (h1 : JobsAt w X1 m) =>
    (show Calls Try.prog 19 #[.slice X1 l.length c1, .int .i64 v] w (fun e w' => e = .returned (.tuple #[.int .i64 (i : Int), .int .i64 0]) ∧ Below w.heap.size w w') from by
      have h := find_any X1 c1 m v (by omega) w h1
      have e : findV m v = ((i : Int), 0) := by unfold findV; rw [ha, if_neg (by omega)]
      rw [e, hml] at h
      exact h))
  have HP := Lib.hid hpl.2.2
  have HML := Lib.hid hml
  have HMA := Lib.hid (fun j hj => (hmj j hj).2)
  clear hk hX h1 hlj hl4 hl2 hv hpl hmj hmw hla hml
  go_enter Try.func15, Try.ntmps15
  go_upto_region 1 with fail
  have kc0 : Blk (w.alloc (.cells #[.int .i64 d0, .int .i64 d1, .int .i64 d2, .int .i64 bo, .int .i64 fr, .int .i64 tr, .int .i64 ag, .slice K ks.length kc] 26)) w.heap.size 26 #[.int .i64 d0, .int .i64 d1, .int .i64 d2, .int .i64 bo, .int .i64 fr, .int .i64 tr, .int .i64 ag, .slice K ks.length kc] := Blk.new w _ _
  have hb0 : Below w.heap.size w (w.alloc (.cells #[.int .i64 d0, .int .i64 d1, .int .i64 d2, .int .i64 bo, .int .i64 fr, .int .i64 tr, .int .i64 ag, .slice K ks.length kc] 26)) := below_alloc (Below.refl _ _)
  generalize (w.alloc (.cells #[.int .i64 d0, .int .i64 d1, .int .i64 d2, .int .i64 bo, .int .i64 fr, .int .i64 tr, .int .i64 ag, .slice K ks.length kc] 26)) = w0 at *
  have HB0 := Lib.hid hb0
  have KC0 := Lib.hid kc0
  clear hb0 kc0
  go_wp2_with fail
  refine (dalive _).mono ?_
  rintro e w1 ⟨rfl, hB1⟩
  have HB1 := Lib.hid (below_up HB0.out hB1)
  have KC1 := Lib.hid (KC0.out.below hB1 KC0.out.lt)
  have xk : w1.cell? ⟨w.heap.size, 7, none⟩ = some (.slice K ks.length kc) := KC1.out.cell 7
  clear hB1 KC0 HB0
  go_wp2_with fail
  refine (HG1.out _ (HX.out.up HB1.out)).mono ?_
  rintro e w2 ⟨rfl, hB2⟩
  have HB2 := Lib.hid (below_up HB1.out hB2)
  have KC2 := Lib.hid (KC1.out.below hB2 KC1.out.lt)
  clear hB2 KC1 xk
  go_wp2_with (first | (refine wpList_load_row rfl 26 _ rfl _ rfl 26 #[.int .i64 d0, .int .i64 d1, .int .i64 d2, .int .i64 bo, .int .i64 fr, .int .i64 tr, .int .i64 ag, .slice K ks.length kc] (0, 0) _ KC2.out Try.underlying26 rfl (by kernel_rfl) ?_))
  refine (HSa.out _ (HK.out.up HB2.out) (HX.out.up HB2.out)).mono ?_
  rintro e w3 ⟨X1, c1, rfl, hO, hB3⟩
  have HB3 := Lib.hid (below_up HB2.out hB3)
  have KC3 := Lib.hid (KC2.out.below hB3 KC2.out.lt)
  have HO3 := Lib.hid hO.jobs
  clear hB3 hO HB2 KC2 HSa HG1
  go_wp2_with (first | (refine wpList_load_row rfl 26 _ rfl _ rfl 26 #[.int .i64 d0, .int .i64 d1, .int .i64 d2, .int .i64 bo, .int .i64 fr, .int .i64 tr, .int .i64 ag, .slice K ks.length kc] (0, 0) _ KC3.out Try.underlying26 rfl (by kernel_rfl) ?_))
  refine (HSb.out X1 c1 _ (HK.out.up HB3.out) HO3.out).mono ?_
  rintro e w4 ⟨X2, c2, rfl, hO, hB4⟩
  have HB4 := Lib.hid (below_up HB3.out hB4)
  have HY4 := Lib.hid hO.jobs
  have HO4 := Lib.hid (HO3.out.up hB4)
  clear hB4 hO HO3 HB3 KC3 HSb HK
  go_wp2_with fail
  refine (HSm.out X1 X2 c1 c2 _ HO4.out HY4.out).mono ?_
  rintro e w5 ⟨rfl, hB5⟩
  have HB5 := Lib.hid (below_up HB4.out hB5)
  have HO5 := Lib.hid (HO4.out.up hB5)
  have HX5 := Lib.hid (HX.out.up HB5.out)
  clear hB5 HO4 HB4 HY4 HSm HX
  go_wp2_with fail
  go_loopw [10] (fun i wr => ∃ k : Nat, k ≤ l.length ∧ i = .int .i64 k ∧ Hid (Below w5.heap.size w5 wr))
    (fun i _ => l.length - (intOf i).toNat)
  case atStart => exact ⟨0, Nat.zero_le _, rfl, Below.refl _ _⟩
  case round =>
    obtain ⟨k, hk, rfl, hB⟩ := hrel
    by_cases hlt : k < l.length
    · have hgp : l[k]? = some l[k] := List.getElem?_eq_getElem hlt
      have hlm : k < m.length := by have := HML.out; omega
      have hgq : m[k]? = some m[k] := List.getElem?_eq_getElem hlm
      generalize l[k] = p at hgp
      generalize m[k] = q at hgq
      have hki : (k : Int) < (l.length : Int) := by omega
      have hki0 : (0 : Int) ≤ (k : Int) := by omega
      obtain ⟨hpq, hafter⟩ := HP.out k p q hgp hgq
      have hqm := List.mem_of_getElem? hgq
      have hqa := HMA.out q hqm
      obtain ⟨b, o, Yp, cp, hXe, hb, hJ, hYp⟩ := (HX5.out.up hB.out) k p hgp
      obtain ⟨b1, o1, Yq, cq, hOe, hb1, hJ1, hYq⟩ := (HO5.out.up hB.out) k q hgq
      subst hXe
      subst hOe
      have HJ := Lib.hid hJ
      have HJ1 := Lib.hid hJ1
      have HYq := Lib.hid hYq
      have HYp := Lib.hid hYp
      have HAF := Lib.hid hafter
      have HQM := Lib.hid hqm
      clear hJ hJ1 hYq hYp hafter hgp hgq hb hb1 hqm
      go_upto_region 14 with (first | (refine wpList_load_mid rfl 33 _ rfl _ _ rfl _ _ HJ.out.range Try.underlying33 rfl (by kernel_rfl) ?_))
      have kb6 : Blk (wr.alloc (.cells #[.int .i64 p.id, .int .i64 p.us, .int .i64 p.cl, .int .i64 p.x.a, .int .i64 p.x.b, .int .i64 p.x.c, .bool p.x.p, .bool p.x.q, .bool p.x.r, .bool p.x.tn, .int .i64 p.wa, .int .i64 p.pr, .bool p.he, .slice Yp p.af.length cp, .int .u8 p.st, .int .i64 p.ca] 33)) wr.heap.size 33 #[.int .i64 p.id, .int .i64 p.us, .int .i64 p.cl, .int .i64 p.x.a, .int .i64 p.x.b, .int .i64 p.x.c, .bool p.x.p, .bool p.x.q, .bool p.x.r, .bool p.x.tn, .int .i64 p.wa, .int .i64 p.pr, .bool p.he, .slice Yp p.af.length cp, .int .u8 p.st, .int .i64 p.ca] := Blk.new wr _ _
      have hB6 : Below wr.heap.size wr (wr.alloc (.cells #[.int .i64 p.id, .int .i64 p.us, .int .i64 p.cl, .int .i64 p.x.a, .int .i64 p.x.b, .int .i64 p.x.c, .bool p.x.p, .bool p.x.q, .bool p.x.r, .bool p.x.tn, .int .i64 p.wa, .int .i64 p.pr, .bool p.he, .slice Yp p.af.length cp, .int .u8 p.st, .int .i64 p.ca] 33)) := below_alloc (Below.refl _ _)
      generalize wr.alloc (.cells #[.int .i64 p.id, .int .i64 p.us, .int .i64 p.cl, .int .i64 p.x.a, .int .i64 p.x.b, .int .i64 p.x.c, .bool p.x.p, .bool p.x.q, .bool p.x.r, .bool p.x.tn, .int .i64 p.wa, .int .i64 p.pr, .bool p.he, .slice Yp p.af.length cp, .int .u8 p.st, .int .i64 p.ca] 33) = w6 at *
      have HB6 := Lib.hid (below_up hB.out hB6)
      have HBr := Lib.hid hB6
      have KB6 := Lib.hid kb6
      have HJ6 := Lib.hid (HJ.out.up hB6)
      have HJ16 := Lib.hid (HJ1.out.up hB6)
      have HYq6 := Lib.hid (HYq.out.up hB6)
      have HYp6 := Lib.hid (HYp.out.up hB6)
      clear kb6 hB6 HJ
      rcases hpq with hqp | ⟨hp1, hqp⟩
      · have yp : w6.cell? ⟨b, o + k * 16 + 14, none⟩ = some (.int .u8 q.st) := by rw [hqp]; exact HJ6.out.2.2.2.2.2.2.2.2.2.2.2.2.2.2.1
        have yq : w6.cell? ⟨b1, o1 + k * 16 + 14, none⟩ = some (.int .u8 q.st) := HJ16.out.2.2.2.2.2.2.2.2.2.2.2.2.2.2.1
        subst hqp
        have kq0 := cell_regrown yp
        have kq1 := cell_regrown yq
        refine wp_region_quiet_below (by kernel_rfl) (by kernel_rfl) ?_
        repeat (first | go_big_quiet_step (first | fail))
        refine wpQuiet_nil ?_
        intro _ hw'
        obtain ⟨⟨dq, osq⟩, hw''⟩ := hw'
        subst hw''
        have hBq := below_regrown w6 dq osq
        clear kq0 kq1
        generalize grow (redrawn w6 dq) osq = w7 at *
        have KB7 := Lib.hid (KB6.out.below hBq KB6.out.lt)
        have HB7 := Lib.hid (below_up HB6.out hBq)
        have HJ17 := Lib.hid (HJ16.out.up hBq)
        have HYq7 := Lib.hid (HYq6.out.up hBq)
        have HYp7 := Lib.hid (HYp6.out.up hBq)
        clear KB6 HB6 HJ6 HJ16 HYq6 HYp6 hBq yp yq HBr HJ1 HYq HYp
        go_upto_region 18 with fail
        have HQ := Lib.hid (HS1.out q HQM.out)
        go_cut [109] (fun s109 wx => s109 = .bool false ∧ Hid (Below w7.heap.size w7 wx))
        case first =>
          have K2 : Below w7.heap.size w7 w7 := Below.refl _ _
          have HR0 := Lib.hid (range_of KB7.out)
          have HR1 := Lib.hid (HJ17.out.range)
          refine wp_region_noPanic ?_
          refine wp_region_held_drew (S := (fun W => Below w7.heap.size w7 W)) (by kernel_rfl) ?_ (fun hHeld => ?_)
          · exact K2.drew
          refine' wpAnyH_take (i := 0) (v := _) rfl (by kernel_rfl) (by kernel_rfl) (by kernel_rfl) (fun _ _ _ h => h) (yieldsIf_load_mid (by rfl) _ _ rfl _ _ rfl [.int .i64 q.id, .int .i64 q.us, .int .i64 q.cl, .int .i64 q.x.a, .int .i64 q.x.b, .int .i64 q.x.c, .bool q.x.p, .bool q.x.q, .bool q.x.r, .bool q.x.tn, .int .i64 q.wa, .int .i64 q.pr, .bool q.he, .slice Yp q.af.length cp, .int .u8 q.st, .int .i64 q.ca] _ (fun W hW => range_up HR0.out hW) Try.underlying33 rfl (by kernel_rfl)) (by assumption) ?r1
          (try simp only [Act.put, List.setIfInBounds_toArray, List.set_cons_zero, List.set_cons_succ])
          refine' wpAnyH_take (i := 2) (v := ?v2) rfl (by kernel_rfl) (by kernel_rfl) (by kernel_rfl) (fun _ _ _ h => h) (Or.inl ⟨by rfl, ?y2⟩) (by assumption) ?r2
          case y2 => (intro w hSw; (try dsimp only at hSw); go_simp; try with_reducible rfl)
          (try simp only [Act.put, List.setIfInBounds_toArray, List.set_cons_zero, List.set_cons_succ])
          refine' wpAnyH_take (i := 3) (v := ?v3) rfl (by kernel_rfl) (by kernel_rfl) (by kernel_rfl) (fun _ _ _ h => h) (Or.inl ⟨by rfl, ?y3⟩) (by assumption) ?r3
          case y3 => (intro w hSw; (try dsimp only at hSw); go_simp; try with_reducible rfl)
          (try simp only [Act.put, List.setIfInBounds_toArray, List.set_cons_zero, List.set_cons_succ])
          refine' wpAnyH_take (i := 4) (v := ?v4) rfl (by kernel_rfl) (by kernel_rfl) (by kernel_rfl) (fun _ _ _ h => h) (Or.inl ⟨by rfl, ?y4⟩) (by assumption) ?r4
          case y4 => (intro w hSw; (try dsimp only at hSw); go_simp; try with_reducible rfl)
          (try simp only [Act.put, List.setIfInBounds_toArray, List.set_cons_zero, List.set_cons_succ])
          refine' wpAnyH_take (i := 5) (v := _) rfl (by kernel_rfl) (by kernel_rfl) (by kernel_rfl) (fun _ _ _ h => h) (yieldsIf_load_mid (by rfl) _ _ rfl _ _ rfl [.int .i64 q.id, .int .i64 q.us, .int .i64 q.cl, .int .i64 q.x.a, .int .i64 q.x.b, .int .i64 q.x.c, .bool q.x.p, .bool q.x.q, .bool q.x.r, .bool q.x.tn, .int .i64 q.wa, .int .i64 q.pr, .bool q.he, .slice Yq q.af.length cq, .int .u8 q.st, .int .i64 q.ca] _ (fun W hW => range_up HR1.out hW) Try.underlying33 rfl (by kernel_rfl)) (by assumption) ?r5
          (try simp only [Act.put, List.setIfInBounds_toArray, List.set_cons_zero, List.set_cons_succ])
          refine wpAnyH_ready (rs := [1, 6]) (by kernel_rfl) (by simp) ?_
          refine AllReadyH.cons (i := 1) rfl (fun K hK => ?_) ?_
          · go_simp
            refine hK.out _ _ ?_ (fun hHeld => ?_)
            · exact (below_alloc K2).drew
            clear hK K
            (try simp only [Act.put, List.setIfInBounds_toArray, List.set_cons_zero, List.set_cons_succ])
            refine wpAnyH_ready (rs := [6]) (by kernel_rfl) (by simp) ?_
            refine AllReadyH.cons (i := 6) rfl (fun K hK => ?_) ?_
            · go_simp
              refine hK.out _ _ ?_ (fun hHeld => ?_)
              · exact (below_alloc (below_alloc K2)).drew
              clear hK K
              (try simp only [Act.put, List.setIfInBounds_toArray, List.set_cons_zero, List.set_cons_succ])
              refine wpAnyH_ready (rs := [7]) (by kernel_rfl) (by simp) ?_
              refine AllReadyH.cons (i := 7) rfl (fun K hK => ?_) ?_
              · go_simp
                refine (HQ.out _ _ _ (one_at ((Blk.new w7 _ _).alloc _).drew (IntsAt.up HYp7.out (below_alloc (below_alloc K2)).drew)) (one_at (blk1 w7 _ _).drew (IntsAt.up HYq7.out (below_alloc (below_alloc K2)).drew))).mono ?_
                rintro e w9 ⟨rfl, hB9⟩
                have KB : Below w7.heap.size w7 w9 := below_up (below_alloc (below_alloc K2)).drew hB9
                clear hB9
                (try dsimp only)
                refine hK.out _ _ ?_ (fun hHeld => ?_)
                · exact KB
                clear hK K
                (try simp only [Act.put, List.setIfInBounds_toArray, List.set_cons_zero, List.set_cons_succ])
                refine wpAnyH_ready (rs := [8]) (by kernel_rfl) (by simp) ?_
                refine AllReadyH.cons (i := 8) rfl (fun K hK => ?_) ?_
                · go_simp
                  refine hK.out _ _ ?_ (fun hHeld => ?_)
                  · exact KB
                  clear hK K
                  (try simp only [Act.put, List.setIfInBounds_toArray, List.set_cons_zero, List.set_cons_succ])
                  refine wpAnyH_done (by kernel_rfl) ?_ _
                  refine NoPanic.normal ?_
                  go_wp2_with fail
                  go_meet
                  exact ⟨rfl, KB⟩
                exact AllReadyH.nil
              exact AllReadyH.nil
            exact AllReadyH.nil
          refine AllReadyH.cons (i := 6) rfl (fun K hK => ?_) ?_
          · go_simp
            refine hK.out _ _ ?_ (fun hHeld => ?_)
            · exact (below_alloc K2).drew
            clear hK K
            (try simp only [Act.put, List.setIfInBounds_toArray, List.set_cons_zero, List.set_cons_succ])
            refine wpAnyH_ready (rs := [1]) (by kernel_rfl) (by simp) ?_
            refine AllReadyH.cons (i := 1) rfl (fun K hK => ?_) ?_
            · go_simp
              refine hK.out _ _ ?_ (fun hHeld => ?_)
              · exact (below_alloc (below_alloc K2)).drew
              clear hK K
              (try simp only [Act.put, List.setIfInBounds_toArray, List.set_cons_zero, List.set_cons_succ])
              refine wpAnyH_ready (rs := [7]) (by kernel_rfl) (by simp) ?_
              refine AllReadyH.cons (i := 7) rfl (fun K hK => ?_) ?_
              · go_simp
                refine (HQ.out _ _ _ (one_at (blk1 w7 _ _).drew (IntsAt.up HYp7.out (below_alloc (below_alloc K2)).drew)) (one_at ((Blk.new w7 _ _).alloc _).drew (IntsAt.up HYq7.out (below_alloc (below_alloc K2)).drew))).mono ?_
                rintro e w9 ⟨rfl, hB9⟩
                have KB : Below w7.heap.size w7 w9 := below_up (below_alloc (below_alloc K2)).drew hB9
                clear hB9
                (try dsimp only)
                refine hK.out _ _ ?_ (fun hHeld => ?_)
                · exact KB
                clear hK K
                (try simp only [Act.put, List.setIfInBounds_toArray, List.set_cons_zero, List.set_cons_succ])
                refine wpAnyH_ready (rs := [8]) (by kernel_rfl) (by simp) ?_
                refine AllReadyH.cons (i := 8) rfl (fun K hK => ?_) ?_
                · go_simp
                  refine hK.out _ _ ?_ (fun hHeld => ?_)
                  · exact KB
                  clear hK K
                  (try simp only [Act.put, List.setIfInBounds_toArray, List.set_cons_zero, List.set_cons_succ])
                  refine wpAnyH_done (by kernel_rfl) ?_ _
                  refine NoPanic.normal ?_
                  go_wp2_with fail
                  go_meet
                  exact ⟨rfl, KB⟩
                exact AllReadyH.nil
              exact AllReadyH.nil
            exact AllReadyH.nil
          exact AllReadyH.nil
        case rest =>
          obtain ⟨rfl, hBx⟩ := hcut
          have HB9 := Lib.hid (below_up HB7.out hBx.out)
          have HJ9 := Lib.hid (HJ17.out.up hBx.out)
          have HYq9 := Lib.hid (HYq7.out.up hBx.out)
          clear hBx
          go_wp2_with fail
          go_loopw [12] (fun i wi => ∃ t : Nat, t ≤ q.af.length ∧ i = .int .i64 t ∧ Hid (Below wc.heap.size wc wi))
            (fun i _ => q.af.length - (intOf i).toNat)
          case atStart => exact ⟨0, Nat.zero_le _, rfl, Below.refl _ _⟩
          case round =>
            obtain ⟨t, ht, rfl, hBi⟩ := hrel
            have hJi := HJ9.out.up hBi.out
            have y13 : wr.cell? ⟨b1, o1 + k * 16 + 13, none⟩ = some (.slice Yq q.af.length cq) := hJi.2.2.2.2.2.2.2.2.2.2.2.2.2.1
            have y14 : wr.cell? ⟨b1, o1 + k * 16 + 14, none⟩ = some (.int .u8 q.st) := hJi.2.2.2.2.2.2.2.2.2.2.2.2.2.2.1
            clear hJi
            by_cases htl : t < q.af.length
            · have hti : (t : Int) < (q.af.length : Int) := by omega
              have hti0 : (0 : Int) ≤ (t : Int) := by omega
              by_cases hs : q.st = 1
              · have e1 : (q.st == 1) = true := by simpa using hs
                have hv : q.af[t]? = some q.af[t] := List.getElem?_eq_getElem htl
                have hvm := List.getElem_mem htl
                generalize q.af[t] = v at hv hvm
                obtain ⟨i', y, ha, hik, hy, hyl⟩ := HAF.out hs v hvm
                obtain ⟨b2, o2, hYe, hb2, cv⟩ := (HYq9.out.up hBi.out) t v hv
                subst hYe
                have HOi := Lib.hid (HO5.out.up (below_up HB9.out hBi.out))
                obtain ⟨b3, o3, Y3, c3, hX3, hb3, hJ3, _⟩ := HOi.out i' y hy
                have e3 : b3 = b1 ∧ o3 = o1 := by simp at hX3; exact ⟨hX3.1.symm, hX3.2.symm⟩
                rw [e3.1, e3.2] at hJ3
                have z14 : wr.cell? ⟨b1, o1 + i' * 16 + 14, none⟩ = some (.int .u8 y.st) := hJ3.2.2.2.2.2.2.2.2.2.2.2.2.2.2.1
                have hi1 : (i' : Int) < (l.length : Int) := by omega
                have hi2 : ¬ ((k : Int) ≤ (i' : Int)) := by omega
                have hi3 : ¬ ((3 : Int) < y.st) := by omega
                have hi0 : (0 : Int) ≤ (i' : Int) := by omega
                have HC := Lib.hid (HF.out (some ⟨b1, o1, none⟩) c1 v i' wr ha HOi.out)
                clear hv hvm ha hik hy hyl hb2 hX3 hb3 hJ3 e3 hs
                go_wp2_with fail
                refine HC.out.mono ?_
                rintro e w10 ⟨rfl, hB10⟩
                have z14' := keep_cell z14 hB10
                have HB10 := Lib.hid (below_up hBi.out hB10)
                clear z14 hB10 y13 y14 cv HC HOi hBi
                go_wp2_with fail
                go_roundw
                case rel => exact ⟨t + 1, by omega, by go_num, HB10.out⟩
                case measure => simp [intOf]; omega
              · have e1 : (q.st == 1) = false := by simpa using hs
                go_wp2_with fail
                go_roundw
                case rel => exact ⟨k + 1, by omega, by go_num, below_up HB9.out hBi.out⟩
                case measure => simp [intOf]; omega
            · obtain rfl : t = q.af.length := by omega
              go_wp2_with fail
              go_roundw
              case rel => exact ⟨k + 1, by omega, by go_num, below_up HB9.out hBi.out⟩
              case measure => simp [intOf]; omega
      · have yp : w6.cell? ⟨b, o + k * 16 + 14, none⟩ = some (.int .u8 1) := by have := HJ6.out.2.2.2.2.2.2.2.2.2.2.2.2.2.2.1; rw [hp1] at this; exact this
        have yq : w6.cell? ⟨b1, o1 + k * 16 + 14, none⟩ = some (.int .u8 5) := by have := HJ16.out.2.2.2.2.2.2.2.2.2.2.2.2.2.2.1; rw [hqp] at this; exact this
        have HQP := Lib.hid (And.intro hqp hp1)
        clear hqp hp1
        have kq0 := cell_regrown yp
        have kq1 := cell_regrown yq
        refine wp_region_quiet_below (by kernel_rfl) (by kernel_rfl) ?_
        repeat (first | go_big_quiet_step (first | fail))
        refine wpQuiet_nil ?_
        intro _ hw'
        obtain ⟨⟨dq, osq⟩, hw''⟩ := hw'
        subst hw''
        have hBq := below_regrown w6 dq osq
        clear kq0 kq1
        generalize grow (redrawn w6 dq) osq = w7 at *
        have KB7 := Lib.hid (KB6.out.below hBq KB6.out.lt)
        have HB7 := Lib.hid (below_up HB6.out hBq)
        have HJ17 := Lib.hid (HJ16.out.up hBq)
        have HYq7 := Lib.hid (HYq6.out.up hBq)
        have HYp7 := Lib.hid (HYp6.out.up hBq)
        have x14 : w7.cell? ⟨wr.heap.size, 14, none⟩ = some (.int .u8 p.st) := KB7.out.cell 14
        have x12 : w7.cell? ⟨wr.heap.size, 12, none⟩ = some (.bool p.he) := KB7.out.cell 12
        have f14 : w7.frozen? ⟨wr.heap.size, 14, none⟩ = false := KB7.out.frozen 14
        have f12 : w7.frozen? ⟨wr.heap.size, 12, none⟩ = false := KB7.out.frozen 12
        have yp7 := keep_cell yp hBq
        have yq7 := keep_cell yq hBq
        have HBq := Lib.hid hBq
        clear KB6 HB6 HJ6 HJ16 HYq6 HYp6 hBq yp yq
        go_upto_region 18 with fail
        have kb8 : Blk ((w7.setCell ⟨wr.heap.size, 14, none⟩ (.int .u8 5)).setCell ⟨wr.heap.size, 12, none⟩ (.bool false)) wr.heap.size 33 #[.int .i64 q.id, .int .i64 q.us, .int .i64 q.cl, .int .i64 q.x.a, .int .i64 q.x.b, .int .i64 q.x.c, .bool q.x.p, .bool q.x.q, .bool q.x.r, .bool q.x.tn, .int .i64 q.wa, .int .i64 q.pr, .bool q.he, .slice Yp q.af.length cp, .int .u8 q.st, .int .i64 q.ca] := by
          have h := (KB7.out.set_ 14 (.int .u8 5)).set_ 12 (.bool false)
          rw [HQP.out.1]
          exact h
        have hb8 := (HB7.out.setCell (p := ⟨wr.heap.size, 14, none⟩) hB.out.size (.int .u8 5)).setCell (p := ⟨wr.heap.size, 12, none⟩) hB.out.size (.bool false)
        have hbz := ((below_up HBr.out HBq.out).setCell (p := ⟨wr.heap.size, 14, none⟩) (Nat.le_refl _) (.int .u8 5)).setCell (p := ⟨wr.heap.size, 12, none⟩) (Nat.le_refl _) (.bool false)
        clear yp7 yq7 x14 x12 f14 f12
        generalize (w7.setCell ⟨wr.heap.size, 14, none⟩ (.int .u8 5)).setCell ⟨wr.heap.size, 12, none⟩ (.bool false) = w8 at *
        have KB8 := Lib.hid kb8
        have HB8 := Lib.hid hb8
        have HJ18 := Lib.hid (HJ1.out.up hbz)
        have HYq8 := Lib.hid (HYq.out.up hbz)
        have HYp8 := Lib.hid (show IntsAt w8 Yp q.af from by rw [HQP.out.1]; exact HYp.out.up hbz)
        clear kb8 hb8 hbz KB7 HB7 HJ17 HYq7 HYp7 HBq HBr HJ1 HYq HYp
        have HQ := Lib.hid (HS1.out q HQM.out)
        go_cut [109] (fun s109 wx => s109 = .bool false ∧ Hid (Below w8.heap.size w8 wx))
        case first =>
          have K2 : Below w8.heap.size w8 w8 := Below.refl _ _
          have HR0 := Lib.hid (range_of KB8.out)
          have HR1 := Lib.hid (HJ18.out.range)
          refine wp_region_noPanic ?_
          refine wp_region_held_drew (S := (fun W => Below w8.heap.size w8 W)) (by kernel_rfl) ?_ (fun hHeld => ?_)
          · exact K2.drew
          refine' wpAnyH_take (i := 0) (v := _) rfl (by kernel_rfl) (by kernel_rfl) (by kernel_rfl) (fun _ _ _ h => h) (yieldsIf_load_mid (by rfl) _ _ rfl _ _ rfl [.int .i64 q.id, .int .i64 q.us, .int .i64 q.cl, .int .i64 q.x.a, .int .i64 q.x.b, .int .i64 q.x.c, .bool q.x.p, .bool q.x.q, .bool q.x.r, .bool q.x.tn, .int .i64 q.wa, .int .i64 q.pr, .bool q.he, .slice Yp q.af.length cp, .int .u8 q.st, .int .i64 q.ca] _ (fun W hW => range_up HR0.out hW) Try.underlying33 rfl (by kernel_rfl)) (by assumption) ?r6
          (try simp only [Act.put, List.setIfInBounds_toArray, List.set_cons_zero, List.set_cons_succ])
          refine' wpAnyH_take (i := 2) (v := ?v7) rfl (by kernel_rfl) (by kernel_rfl) (by kernel_rfl) (fun _ _ _ h => h) (Or.inl ⟨by rfl, ?y7⟩) (by assumption) ?r7
          case y7 => (intro w hSw; (try dsimp only at hSw); go_simp; try with_reducible rfl)
          (try simp only [Act.put, List.setIfInBounds_toArray, List.set_cons_zero, List.set_cons_succ])
          refine' wpAnyH_take (i := 3) (v := ?v8) rfl (by kernel_rfl) (by kernel_rfl) (by kernel_rfl) (fun _ _ _ h => h) (Or.inl ⟨by rfl, ?y8⟩) (by assumption) ?r8
          case y8 => (intro w hSw; (try dsimp only at hSw); go_simp; try with_reducible rfl)
          (try simp only [Act.put, List.setIfInBounds_toArray, List.set_cons_zero, List.set_cons_succ])
          refine' wpAnyH_take (i := 4) (v := ?v9) rfl (by kernel_rfl) (by kernel_rfl) (by kernel_rfl) (fun _ _ _ h => h) (Or.inl ⟨by rfl, ?y9⟩) (by assumption) ?r9
          case y9 => (intro w hSw; (try dsimp only at hSw); go_simp; try with_reducible rfl)
          (try simp only [Act.put, List.setIfInBounds_toArray, List.set_cons_zero, List.set_cons_succ])
          refine' wpAnyH_take (i := 5) (v := _) rfl (by kernel_rfl) (by kernel_rfl) (by kernel_rfl) (fun _ _ _ h => h) (yieldsIf_load_mid (by rfl) _ _ rfl _ _ rfl [.int .i64 q.id, .int .i64 q.us, .int .i64 q.cl, .int .i64 q.x.a, .int .i64 q.x.b, .int .i64 q.x.c, .bool q.x.p, .bool q.x.q, .bool q.x.r, .bool q.x.tn, .int .i64 q.wa, .int .i64 q.pr, .bool q.he, .slice Yq q.af.length cq, .int .u8 q.st, .int .i64 q.ca] _ (fun W hW => range_up HR1.out hW) Try.underlying33 rfl (by kernel_rfl)) (by assumption) ?r10
          (try simp only [Act.put, List.setIfInBounds_toArray, List.set_cons_zero, List.set_cons_succ])
          refine wpAnyH_ready (rs := [1, 6]) (by kernel_rfl) (by simp) ?_
          refine AllReadyH.cons (i := 1) rfl (fun K hK => ?_) ?_
          · go_simp
            refine hK.out _ _ ?_ (fun hHeld => ?_)
            · exact (below_alloc K2).drew
            clear hK K
            (try simp only [Act.put, List.setIfInBounds_toArray, List.set_cons_zero, List.set_cons_succ])
            refine wpAnyH_ready (rs := [6]) (by kernel_rfl) (by simp) ?_
            refine AllReadyH.cons (i := 6) rfl (fun K hK => ?_) ?_
            · go_simp
              refine hK.out _ _ ?_ (fun hHeld => ?_)
              · exact (below_alloc (below_alloc K2)).drew
              clear hK K
              (try simp only [Act.put, List.setIfInBounds_toArray, List.set_cons_zero, List.set_cons_succ])
              refine wpAnyH_ready (rs := [7]) (by kernel_rfl) (by simp) ?_
              refine AllReadyH.cons (i := 7) rfl (fun K hK => ?_) ?_
              · go_simp
                refine (HQ.out _ _ _ (one_at ((Blk.new w8 _ _).alloc _).drew (IntsAt.up HYp8.out (below_alloc (below_alloc K2)).drew)) (one_at (blk1 w8 _ _).drew (IntsAt.up HYq8.out (below_alloc (below_alloc K2)).drew))).mono ?_
                rintro e w9 ⟨rfl, hB9⟩
                have KB : Below w8.heap.size w8 w9 := below_up (below_alloc (below_alloc K2)).drew hB9
                clear hB9
                (try dsimp only)
                refine hK.out _ _ ?_ (fun hHeld => ?_)
                · exact KB
                clear hK K
                (try simp only [Act.put, List.setIfInBounds_toArray, List.set_cons_zero, List.set_cons_succ])
                refine wpAnyH_ready (rs := [8]) (by kernel_rfl) (by simp) ?_
                refine AllReadyH.cons (i := 8) rfl (fun K hK => ?_) ?_
                · go_simp
                  refine hK.out _ _ ?_ (fun hHeld => ?_)
                  · exact KB
                  clear hK K
                  (try simp only [Act.put, List.setIfInBounds_toArray, List.set_cons_zero, List.set_cons_succ])
                  refine wpAnyH_done (by kernel_rfl) ?_ _
                  refine NoPanic.normal ?_
                  go_wp2_with fail
                  go_meet
                  exact ⟨rfl, KB⟩
                exact AllReadyH.nil
              exact AllReadyH.nil
            exact AllReadyH.nil
          refine AllReadyH.cons (i := 6) rfl (fun K hK => ?_) ?_
          · go_simp
            refine hK.out _ _ ?_ (fun hHeld => ?_)
            · exact (below_alloc K2).drew
            clear hK K
            (try simp only [Act.put, List.setIfInBounds_toArray, List.set_cons_zero, List.set_cons_succ])
            refine wpAnyH_ready (rs := [1]) (by kernel_rfl) (by simp) ?_
            refine AllReadyH.cons (i := 1) rfl (fun K hK => ?_) ?_
            · go_simp
              refine hK.out _ _ ?_ (fun hHeld => ?_)
              · exact (below_alloc (below_alloc K2)).drew
              clear hK K
              (try simp only [Act.put, List.setIfInBounds_toArray, List.set_cons_zero, List.set_cons_succ])
              refine wpAnyH_ready (rs := [7]) (by kernel_rfl) (by simp) ?_
              refine AllReadyH.cons (i := 7) rfl (fun K hK => ?_) ?_
              · go_simp
                refine (HQ.out _ _ _ (one_at (blk1 w8 _ _).drew (IntsAt.up HYp8.out (below_alloc (below_alloc K2)).drew)) (one_at ((Blk.new w8 _ _).alloc _).drew (IntsAt.up HYq8.out (below_alloc (below_alloc K2)).drew))).mono ?_
                rintro e w9 ⟨rfl, hB9⟩
                have KB : Below w8.heap.size w8 w9 := below_up (below_alloc (below_alloc K2)).drew hB9
                clear hB9
                (try dsimp only)
                refine hK.out _ _ ?_ (fun hHeld => ?_)
                · exact KB
                clear hK K
                (try simp only [Act.put, List.setIfInBounds_toArray, List.set_cons_zero, List.set_cons_succ])
                refine wpAnyH_ready (rs := [8]) (by kernel_rfl) (by simp) ?_
                refine AllReadyH.cons (i := 8) rfl (fun K hK => ?_) ?_
                · go_simp
                  refine hK.out _ _ ?_ (fun hHeld => ?_)
                  · exact KB
                  clear hK K
                  (try simp only [Act.put, List.setIfInBounds_toArray, List.set_cons_zero, List.set_cons_succ])
                  refine wpAnyH_done (by kernel_rfl) ?_ _
                  refine NoPanic.normal ?_
                  go_wp2_with fail
                  go_meet
                  exact ⟨rfl, KB⟩
                exact AllReadyH.nil
              exact AllReadyH.nil
            exact AllReadyH.nil
          exact AllReadyH.nil
        case rest =>
          obtain ⟨rfl, hBx⟩ := hcut
          have HB9 := Lib.hid (below_up HB8.out hBx.out)
          have HJ9 := Lib.hid (HJ18.out.up hBx.out)
          have HYq9 := Lib.hid (HYq8.out.up hBx.out)
          clear hBx
          go_wp2_with fail
          go_loopw [12] (fun i wi => ∃ t : Nat, t ≤ q.af.length ∧ i = .int .i64 t ∧ Hid (Below wc.heap.size wc wi))
            (fun i _ => q.af.length - (intOf i).toNat)
          case atStart => exact ⟨0, Nat.zero_le _, rfl, Below.refl _ _⟩
          case round =>
            obtain ⟨t, ht, rfl, hBi⟩ := hrel
            have hJi := HJ9.out.up hBi.out
            have y13 : wr.cell? ⟨b1, o1 + k * 16 + 13, none⟩ = some (.slice Yq q.af.length cq) := hJi.2.2.2.2.2.2.2.2.2.2.2.2.2.1
            have y14 : wr.cell? ⟨b1, o1 + k * 16 + 14, none⟩ = some (.int .u8 q.st) := hJi.2.2.2.2.2.2.2.2.2.2.2.2.2.2.1
            clear hJi
            by_cases htl : t < q.af.length
            · have hti : (t : Int) < (q.af.length : Int) := by omega
              have hti0 : (0 : Int) ≤ (t : Int) := by omega
              by_cases hs : q.st = 1
              · have e1 : (q.st == 1) = true := by simpa using hs
                have hv : q.af[t]? = some q.af[t] := List.getElem?_eq_getElem htl
                have hvm := List.getElem_mem htl
                generalize q.af[t] = v at hv hvm
                obtain ⟨i', y, ha, hik, hy, hyl⟩ := HAF.out hs v hvm
                obtain ⟨b2, o2, hYe, hb2, cv⟩ := (HYq9.out.up hBi.out) t v hv
                subst hYe
                have HOi := Lib.hid (HO5.out.up (below_up HB9.out hBi.out))
                obtain ⟨b3, o3, Y3, c3, hX3, hb3, hJ3, _⟩ := HOi.out i' y hy
                have e3 : b3 = b1 ∧ o3 = o1 := by simp at hX3; exact ⟨hX3.1.symm, hX3.2.symm⟩
                rw [e3.1, e3.2] at hJ3
                have z14 : wr.cell? ⟨b1, o1 + i' * 16 + 14, none⟩ = some (.int .u8 y.st) := hJ3.2.2.2.2.2.2.2.2.2.2.2.2.2.2.1
                have hi1 : (i' : Int) < (l.length : Int) := by omega
                have hi2 : ¬ ((k : Int) ≤ (i' : Int)) := by omega
                have hi3 : ¬ ((3 : Int) < y.st) := by omega
                have hi0 : (0 : Int) ≤ (i' : Int) := by omega
                have HC := Lib.hid (HF.out (some ⟨b1, o1, none⟩) c1 v i' wr ha HOi.out)
                clear hv hvm ha hik hy hyl hb2 hX3 hb3 hJ3 e3 hs
                go_wp2_with fail
                refine HC.out.mono ?_
                rintro e w10 ⟨rfl, hB10⟩
                have z14' := keep_cell z14 hB10
                have HB10 := Lib.hid (below_up hBi.out hB10)
                clear z14 hB10 y13 y14 cv HC HOi hBi
                go_wp2_with fail
                go_roundw
                case rel => exact ⟨t + 1, by omega, by go_num, HB10.out⟩
                case measure => simp [intOf]; omega
              · have e1 : (q.st == 1) = false := by simpa using hs
                go_wp2_with fail
                go_roundw
                case rel => exact ⟨k + 1, by omega, by go_num, below_up HB9.out hBi.out⟩
                case measure => simp [intOf]; omega
            · obtain rfl : t = q.af.length := by omega
              go_wp2_with fail
              go_roundw
              case rel => exact ⟨k + 1, by omega, by go_num, below_up HB9.out hBi.out⟩
              case measure => simp [intOf]; omega
    · obtain rfl : k = l.length := by omega
      go_wp2_with fail
      go_ret
      exact ⟨rfl, below_up HB5.out hB.out⟩
theorem settlesLaw (w : World) (d0 d1 d2 bo fr tr ag : Int) (K : Option Addr) (kc : Nat) (ks : List Cls) (hkc : ks.length ≤ kc) (hkm : kc ≤ maxLen) (hk : ClsAt w w.heap.size K ks)
    (X : Option Addr) (cX : Nat) (l : List JV) (hlc : l.length ≤ cX) (hlm : cX ≤ maxLen) (hX : JobsAt w X l) (hla : ∀ j ∈ l, JWf j ∧ j.af.length ≤ maxLen) :
    Calls Try.prog 15 #[.agg #[.int .i64 d0, .int .i64 d1, .int .i64 d2, .int .i64 bo, .int .i64 fr, .int .i64 tr, .int .i64 ag, .slice K ks.length kc], .slice X l.length cX] w fun e w' => e = .returned (.bool true) ∧ Below w.heap.size w w' := by
  have hlk : ks.length ≤ maxLen := Nat.le_trans hkc hkm
  have hl : l.length ≤ maxLen := Nat.le_trans hlc hlm
  by_cases h0 : (100 : Int) < (ks.length : Int)
  · exact ds_cls d0 d1 d2 bo fr tr ag K kc ks hlk X cX l hl hla h0 w hk hX
  · cases h1 : greatB l
    · by_cases hv : tableV d0 d1 d2 bo fr tr ag ks l = 0
      · exact ds_main d0 d1 d2 bo fr tr ag K kc ks hlk X cX l hl hla h0 h1 hv w hk hX
      · exact ds_bad d0 d1 d2 bo fr tr ag K kc ks hlk X cX l hl hla h0 h1 hv w hk hX
    · exact ds_great d0 d1 d2 bo fr tr ag K kc ks hlk X cX l hl hla h0 h1 w hk hX
end Go.Proofs.Ytfpljpdjohmbaaa.DepsSettles
