/- job.check and job.Check: whether a job may be. -/
import Derived.BigRegion
import Derived.Deep.RegionHeld3
import Derived.Deep.DeepCutAuto
import Derived.Test.YtaldgmmmcbikgaaPartCheck
import Derived.Test.YtaldgmmmcbikgaaJobPlain
import Derived.Test.YtaldgmmmcbikgaaJobAfter
import Derived.Test.YtaldgmmmcbikgaaTurnFitsV
namespace Go.Proofs.Ytaldgmmmcbikgaa.JobCheck
open Go.RowKit Mem PosMath PartMath PartClass PartCheck TurnMath TurnWalks TurnFitsV JobMath JobIndex JobPlain JobAfter
set_option linter.unusedVariables false
set_option linter.unusedSimpArgs false

theorem mul3 {a b c : Int} (ha : inD a) (hb : inD b) (hc : inD c) : 0 ≤ a * b ∧ a * b ≤ 256 ∧ 0 ≤ a * b * c ∧ a * b * c ≤ 4096 := by
  unfold inD at *
  have h1 : 0 ≤ a * b := Int.mul_nonneg (by omega) (by omega)
  have h2 : a * b ≤ 16 * 16 := Int.mul_le_mul ha.2 hb.2 (by omega) (by omega)
  have h3 : 0 ≤ a * b * c := Int.mul_nonneg h1 (by omega)
  have h4 : a * b * c ≤ 256 * 16 := Int.mul_le_mul (by omega) hc.2 (by omega) (by omega)
  omega
theorem cls_at {ks : List Cls} {n : Int} (h0 : 0 ≤ n) (h1 : n ≤ (ks.length : Int) - 1) : ∃ m : Nat, n = m ∧ m < ks.length ∧ ks[m]? = some (clsOf ks n) := by
  obtain ⟨m, rfl⟩ := Int.eq_ofNat_of_zero_le h0
  refine ⟨m, rfl, by omega, ?_⟩
  unfold clsOf
  have hm : m < ks.length := by omega
  simp [List.getD_eq_getElem?_getD, List.getElem?_eq_getElem hm]
theorem plain_cl {n : Nat} {j : JV} (h : plainB n j = true) : 0 ≤ j.cl ∧ j.cl ≤ (n : Int) - 1 := by
  unfold plainB at h
  simp only [Bool.and_eq_true] at h
  exact inB_true h.1.1.1.2
set_option maxRecDepth 100000 in
set_option maxHeartbeats 4000000 in
theorem ck_plain (d0 d1 d2 bo fr tr ag : Int) (K : Option Addr) (kc : Nat) (ks : List Cls) (j : JV) (Y : Option Addr) (cj : Nat) (hl : ks.length ≤ 4611686018427387904) (hla : j.af.length ≤ 4611686018427387904) (h0 : plainB ks.length j = false) (w : World) (hk : ClsAt w w.heap.size K ks) (hY : IntsAt w Y j.af) :
    Calls Try.prog 30 #[.agg #[.int .i64 d0, .int .i64 d1, .int .i64 d2, .int .i64 bo, .int .i64 fr, .int .i64 tr, .int .i64 ag, .slice K ks.length kc], .agg #[.int .i64 j.id, .int .i64 j.us, .int .i64 j.cl, .int .i64 j.x.a, .int .i64 j.x.b, .int .i64 j.x.c, .bool j.x.p, .bool j.x.q, .bool j.x.r, .bool j.x.tn, .int .i64 j.wa, .int .i64 j.pr, .bool j.he, .slice Y j.af.length cj, .int .u8 j.st, .int .i64 j.ca]] w fun e w' => e = .returned (.int .i64 2) ∧ Below w.heap.size w w' := by
  have HP := Lib.hid (fun w => jplain d0 d1 d2 bo fr tr ag K kc ks j Y cj hl _ h0 w)
  clear hk hY h0 
  go_enter Try.func30, Try.ntmps30
  go_upto_region 1 with fail
  have kc0 : Blk ((w.alloc (.cells #[.int .i64 d0, .int .i64 d1, .int .i64 d2, .int .i64 bo, .int .i64 fr, .int .i64 tr, .int .i64 ag, .slice K ks.length kc] 26)).alloc (.cells #[.int .i64 j.id, .int .i64 j.us, .int .i64 j.cl, .int .i64 j.x.a, .int .i64 j.x.b, .int .i64 j.x.c, .bool j.x.p, .bool j.x.q, .bool j.x.r, .bool j.x.tn, .int .i64 j.wa, .int .i64 j.pr, .bool j.he, .slice Y j.af.length cj, .int .u8 j.st, .int .i64 j.ca] 33)) w.heap.size 26 #[.int .i64 d0, .int .i64 d1, .int .i64 d2, .int .i64 bo, .int .i64 fr, .int .i64 tr, .int .i64 ag, .slice K ks.length kc] := (Blk.new w _ _).alloc _
  have kj0 : Blk ((w.alloc (.cells #[.int .i64 d0, .int .i64 d1, .int .i64 d2, .int .i64 bo, .int .i64 fr, .int .i64 tr, .int .i64 ag, .slice K ks.length kc] 26)).alloc (.cells #[.int .i64 j.id, .int .i64 j.us, .int .i64 j.cl, .int .i64 j.x.a, .int .i64 j.x.b, .int .i64 j.x.c, .bool j.x.p, .bool j.x.q, .bool j.x.r, .bool j.x.tn, .int .i64 j.wa, .int .i64 j.pr, .bool j.he, .slice Y j.af.length cj, .int .u8 j.st, .int .i64 j.ca] 33)) (w.heap.size + 1) 33 #[.int .i64 j.id, .int .i64 j.us, .int .i64 j.cl, .int .i64 j.x.a, .int .i64 j.x.b, .int .i64 j.x.c, .bool j.x.p, .bool j.x.q, .bool j.x.r, .bool j.x.tn, .int .i64 j.wa, .int .i64 j.pr, .bool j.he, .slice Y j.af.length cj, .int .u8 j.st, .int .i64 j.ca] := blk1 w _ _
  have hb0 : Below w.heap.size w ((w.alloc (.cells #[.int .i64 d0, .int .i64 d1, .int .i64 d2, .int .i64 bo, .int .i64 fr, .int .i64 tr, .int .i64 ag, .slice K ks.length kc] 26)).alloc (.cells #[.int .i64 j.id, .int .i64 j.us, .int .i64 j.cl, .int .i64 j.x.a, .int .i64 j.x.b, .int .i64 j.x.c, .bool j.x.p, .bool j.x.q, .bool j.x.r, .bool j.x.tn, .int .i64 j.wa, .int .i64 j.pr, .bool j.he, .slice Y j.af.length cj, .int .u8 j.st, .int .i64 j.ca] 33)) := below_alloc (below_alloc (Below.refl _ _))
  generalize ((w.alloc (.cells #[.int .i64 d0, .int .i64 d1, .int .i64 d2, .int .i64 bo, .int .i64 fr, .int .i64 tr, .int .i64 ag, .slice K ks.length kc] 26)).alloc (.cells #[.int .i64 j.id, .int .i64 j.us, .int .i64 j.cl, .int .i64 j.x.a, .int .i64 j.x.b, .int .i64 j.x.c, .bool j.x.p, .bool j.x.q, .bool j.x.r, .bool j.x.tn, .int .i64 j.wa, .int .i64 j.pr, .bool j.he, .slice Y j.af.length cj, .int .u8 j.st, .int .i64 j.ca] 33)) = w0 at *
  have HB0 := Lib.hid hb0
  have KC0 := Lib.hid kc0
  have KJ0 := Lib.hid kj0
  clear hb0 kc0 kj0
  go_wp2_with (first | (refine wpList_load_row rfl 26 _ rfl _ rfl 26 #[.int .i64 d0, .int .i64 d1, .int .i64 d2, .int .i64 bo, .int .i64 fr, .int .i64 tr, .int .i64 ag, .slice K ks.length kc] (0, 0) _ KC0.out Try.underlying26 rfl (by kernel_rfl) ?_) | (refine wpList_load_row rfl 33 _ rfl _ rfl 33 #[.int .i64 j.id, .int .i64 j.us, .int .i64 j.cl, .int .i64 j.x.a, .int .i64 j.x.b, .int .i64 j.x.c, .bool j.x.p, .bool j.x.q, .bool j.x.r, .bool j.x.tn, .int .i64 j.wa, .int .i64 j.pr, .bool j.he, .slice Y j.af.length cj, .int .u8 j.st, .int .i64 j.ca] (0, 0) _ KJ0.out Try.underlying33 rfl (by kernel_rfl) ?_))
  refine (HP.out _).mono ?_
  rintro e w1 ⟨rfl, hB1⟩
  have HB1 := Lib.hid (below_up HB0.out hB1)
  have KC1 := Lib.hid (KC0.out.below hB1 KC0.out.lt)
  have KJ1 := Lib.hid (KJ0.out.below hB1 KJ0.out.lt)
  clear hB1 KC0 KJ0
  go_wp2_with fail
  go_ret
  exact ⟨rfl, HB1.out⟩
set_option maxRecDepth 100000 in
set_option maxHeartbeats 4000000 in
theorem ck_after (d0 d1 d2 bo fr tr ag : Int) (K : Option Addr) (kc : Nat) (ks : List Cls) (j : JV) (Y : Option Addr) (cj : Nat) (hl : ks.length ≤ 4611686018427387904) (hla : j.af.length ≤ 4611686018427387904) (h0 : plainB ks.length j = true) (h1 : afterB j = false) (w : World) (hk : ClsAt w w.heap.size K ks) (hY : IntsAt w Y j.af) :
    Calls Try.prog 30 #[.agg #[.int .i64 d0, .int .i64 d1, .int .i64 d2, .int .i64 bo, .int .i64 fr, .int .i64 tr, .int .i64 ag, .slice K ks.length kc], .agg #[.int .i64 j.id, .int .i64 j.us, .int .i64 j.cl, .int .i64 j.x.a, .int .i64 j.x.b, .int .i64 j.x.c, .bool j.x.p, .bool j.x.q, .bool j.x.r, .bool j.x.tn, .int .i64 j.wa, .int .i64 j.pr, .bool j.he, .slice Y j.af.length cj, .int .u8 j.st, .int .i64 j.ca]] w fun e w' => e = .returned (.int .i64 182) ∧ Below w.heap.size w w' := by
  have HP := Lib.hid (fun w => jplain d0 d1 d2 bo fr tr ag K kc ks j Y cj hl _ h0 w)
  have HA := Lib.hid (fun w hY => jafter j Y cj hla _ h1 w hY)
  have HY := Lib.hid hY
  clear hk hY h0 h1
  go_enter Try.func30, Try.ntmps30
  go_upto_region 1 with fail
  have kc0 : Blk ((w.alloc (.cells #[.int .i64 d0, .int .i64 d1, .int .i64 d2, .int .i64 bo, .int .i64 fr, .int .i64 tr, .int .i64 ag, .slice K ks.length kc] 26)).alloc (.cells #[.int .i64 j.id, .int .i64 j.us, .int .i64 j.cl, .int .i64 j.x.a, .int .i64 j.x.b, .int .i64 j.x.c, .bool j.x.p, .bool j.x.q, .bool j.x.r, .bool j.x.tn, .int .i64 j.wa, .int .i64 j.pr, .bool j.he, .slice Y j.af.length cj, .int .u8 j.st, .int .i64 j.ca] 33)) w.heap.size 26 #[.int .i64 d0, .int .i64 d1, .int .i64 d2, .int .i64 bo, .int .i64 fr, .int .i64 tr, .int .i64 ag, .slice K ks.length kc] := (Blk.new w _ _).alloc _
  have kj0 : Blk ((w.alloc (.cells #[.int .i64 d0, .int .i64 d1, .int .i64 d2, .int .i64 bo, .int .i64 fr, .int .i64 tr, .int .i64 ag, .slice K ks.length kc] 26)).alloc (.cells #[.int .i64 j.id, .int .i64 j.us, .int .i64 j.cl, .int .i64 j.x.a, .int .i64 j.x.b, .int .i64 j.x.c, .bool j.x.p, .bool j.x.q, .bool j.x.r, .bool j.x.tn, .int .i64 j.wa, .int .i64 j.pr, .bool j.he, .slice Y j.af.length cj, .int .u8 j.st, .int .i64 j.ca] 33)) (w.heap.size + 1) 33 #[.int .i64 j.id, .int .i64 j.us, .int .i64 j.cl, .int .i64 j.x.a, .int .i64 j.x.b, .int .i64 j.x.c, .bool j.x.p, .bool j.x.q, .bool j.x.r, .bool j.x.tn, .int .i64 j.wa, .int .i64 j.pr, .bool j.he, .slice Y j.af.length cj, .int .u8 j.st, .int .i64 j.ca] := blk1 w _ _
  have hb0 : Below w.heap.size w ((w.alloc (.cells #[.int .i64 d0, .int .i64 d1, .int .i64 d2, .int .i64 bo, .int .i64 fr, .int .i64 tr, .int .i64 ag, .slice K ks.length kc] 26)).alloc (.cells #[.int .i64 j.id, .int .i64 j.us, .int .i64 j.cl, .int .i64 j.x.a, .int .i64 j.x.b, .int .i64 j.x.c, .bool j.x.p, .bool j.x.q, .bool j.x.r, .bool j.x.tn, .int .i64 j.wa, .int .i64 j.pr, .bool j.he, .slice Y j.af.length cj, .int .u8 j.st, .int .i64 j.ca] 33)) := below_alloc (below_alloc (Below.refl _ _))
  generalize ((w.alloc (.cells #[.int .i64 d0, .int .i64 d1, .int .i64 d2, .int .i64 bo, .int .i64 fr, .int .i64 tr, .int .i64 ag, .slice K ks.length kc] 26)).alloc (.cells #[.int .i64 j.id, .int .i64 j.us, .int .i64 j.cl, .int .i64 j.x.a, .int .i64 j.x.b, .int .i64 j.x.c, .bool j.x.p, .bool j.x.q, .bool j.x.r, .bool j.x.tn, .int .i64 j.wa, .int .i64 j.pr, .bool j.he, .slice Y j.af.length cj, .int .u8 j.st, .int .i64 j.ca] 33)) = w0 at *
  have HB0 := Lib.hid hb0
  have KC0 := Lib.hid kc0
  have KJ0 := Lib.hid kj0
  clear hb0 kc0 kj0
  go_wp2_with (first | (refine wpList_load_row rfl 26 _ rfl _ rfl 26 #[.int .i64 d0, .int .i64 d1, .int .i64 d2, .int .i64 bo, .int .i64 fr, .int .i64 tr, .int .i64 ag, .slice K ks.length kc] (0, 0) _ KC0.out Try.underlying26 rfl (by kernel_rfl) ?_) | (refine wpList_load_row rfl 33 _ rfl _ rfl 33 #[.int .i64 j.id, .int .i64 j.us, .int .i64 j.cl, .int .i64 j.x.a, .int .i64 j.x.b, .int .i64 j.x.c, .bool j.x.p, .bool j.x.q, .bool j.x.r, .bool j.x.tn, .int .i64 j.wa, .int .i64 j.pr, .bool j.he, .slice Y j.af.length cj, .int .u8 j.st, .int .i64 j.ca] (0, 0) _ KJ0.out Try.underlying33 rfl (by kernel_rfl) ?_))
  refine (HP.out _).mono ?_
  rintro e w1 ⟨rfl, hB1⟩
  have HB1 := Lib.hid (below_up HB0.out hB1)
  have KC1 := Lib.hid (KC0.out.below hB1 KC0.out.lt)
  have KJ1 := Lib.hid (KJ0.out.below hB1 KJ0.out.lt)
  clear hB1 KC0 KJ0
  go_wp2_with (first | (refine wpList_load_row rfl 33 _ rfl _ rfl 33 #[.int .i64 j.id, .int .i64 j.us, .int .i64 j.cl, .int .i64 j.x.a, .int .i64 j.x.b, .int .i64 j.x.c, .bool j.x.p, .bool j.x.q, .bool j.x.r, .bool j.x.tn, .int .i64 j.wa, .int .i64 j.pr, .bool j.he, .slice Y j.af.length cj, .int .u8 j.st, .int .i64 j.ca] (0, 0) _ KJ1.out Try.underlying33 rfl (by kernel_rfl) ?_))
  refine (HA.out _ (HY.out.up HB1.out)).mono ?_
  rintro e w2 ⟨rfl, hB2⟩
  have HB2 := Lib.hid (below_up HB1.out hB2)
  have KC2 := Lib.hid (KC1.out.below hB2 KC1.out.lt)
  have KJ2 := Lib.hid (KJ1.out.below hB2 KJ1.out.lt)
  clear hB2 KC1 KJ1
  go_wp2_with fail
  go_ret
  exact ⟨rfl, HB2.out⟩
set_option maxRecDepth 100000 in
set_option maxHeartbeats 4000000 in
theorem ck_wants (d0 d1 d2 bo fr tr ag : Int) (K : Option Addr) (kc : Nat) (ks : List Cls) (j : JV) (Y : Option Addr) (cj : Nat) (hl : ks.length ≤ 4611686018427387904) (hla : j.af.length ≤ 4611686018427387904) (h0 : plainB ks.length j = true) (h1 : afterB j = true) (h2 : ¬ WOk j.x) (w : World) (hk : ClsAt w w.heap.size K ks) (hY : IntsAt w Y j.af) :
    Calls Try.prog 30 #[.agg #[.int .i64 d0, .int .i64 d1, .int .i64 d2, .int .i64 bo, .int .i64 fr, .int .i64 tr, .int .i64 ag, .slice K ks.length kc], .agg #[.int .i64 j.id, .int .i64 j.us, .int .i64 j.cl, .int .i64 j.x.a, .int .i64 j.x.b, .int .i64 j.x.c, .bool j.x.p, .bool j.x.q, .bool j.x.r, .bool j.x.tn, .int .i64 j.wa, .int .i64 j.pr, .bool j.he, .slice Y j.af.length cj, .int .u8 j.st, .int .i64 j.ca]] w fun e w' => e = .returned (.int .i64 2) ∧ Below w.heap.size w w' := by
  have HP := Lib.hid (fun w => jplain d0 d1 d2 bo fr tr ag K kc ks j Y cj hl _ h0 w)
  have HA := Lib.hid (fun w hY => jafter j Y cj hla _ h1 w hY)
  have HY := Lib.hid hY
  have H2 := Lib.hid h2
  clear hk hY h0 h1 h2
  go_enter Try.func30, Try.ntmps30
  go_upto_region 1 with fail
  have kc0 : Blk ((w.alloc (.cells #[.int .i64 d0, .int .i64 d1, .int .i64 d2, .int .i64 bo, .int .i64 fr, .int .i64 tr, .int .i64 ag, .slice K ks.length kc] 26)).alloc (.cells #[.int .i64 j.id, .int .i64 j.us, .int .i64 j.cl, .int .i64 j.x.a, .int .i64 j.x.b, .int .i64 j.x.c, .bool j.x.p, .bool j.x.q, .bool j.x.r, .bool j.x.tn, .int .i64 j.wa, .int .i64 j.pr, .bool j.he, .slice Y j.af.length cj, .int .u8 j.st, .int .i64 j.ca] 33)) w.heap.size 26 #[.int .i64 d0, .int .i64 d1, .int .i64 d2, .int .i64 bo, .int .i64 fr, .int .i64 tr, .int .i64 ag, .slice K ks.length kc] := (Blk.new w _ _).alloc _
  have kj0 : Blk ((w.alloc (.cells #[.int .i64 d0, .int .i64 d1, .int .i64 d2, .int .i64 bo, .int .i64 fr, .int .i64 tr, .int .i64 ag, .slice K ks.length kc] 26)).alloc (.cells #[.int .i64 j.id, .int .i64 j.us, .int .i64 j.cl, .int .i64 j.x.a, .int .i64 j.x.b, .int .i64 j.x.c, .bool j.x.p, .bool j.x.q, .bool j.x.r, .bool j.x.tn, .int .i64 j.wa, .int .i64 j.pr, .bool j.he, .slice Y j.af.length cj, .int .u8 j.st, .int .i64 j.ca] 33)) (w.heap.size + 1) 33 #[.int .i64 j.id, .int .i64 j.us, .int .i64 j.cl, .int .i64 j.x.a, .int .i64 j.x.b, .int .i64 j.x.c, .bool j.x.p, .bool j.x.q, .bool j.x.r, .bool j.x.tn, .int .i64 j.wa, .int .i64 j.pr, .bool j.he, .slice Y j.af.length cj, .int .u8 j.st, .int .i64 j.ca] := blk1 w _ _
  have hb0 : Below w.heap.size w ((w.alloc (.cells #[.int .i64 d0, .int .i64 d1, .int .i64 d2, .int .i64 bo, .int .i64 fr, .int .i64 tr, .int .i64 ag, .slice K ks.length kc] 26)).alloc (.cells #[.int .i64 j.id, .int .i64 j.us, .int .i64 j.cl, .int .i64 j.x.a, .int .i64 j.x.b, .int .i64 j.x.c, .bool j.x.p, .bool j.x.q, .bool j.x.r, .bool j.x.tn, .int .i64 j.wa, .int .i64 j.pr, .bool j.he, .slice Y j.af.length cj, .int .u8 j.st, .int .i64 j.ca] 33)) := below_alloc (below_alloc (Below.refl _ _))
  generalize ((w.alloc (.cells #[.int .i64 d0, .int .i64 d1, .int .i64 d2, .int .i64 bo, .int .i64 fr, .int .i64 tr, .int .i64 ag, .slice K ks.length kc] 26)).alloc (.cells #[.int .i64 j.id, .int .i64 j.us, .int .i64 j.cl, .int .i64 j.x.a, .int .i64 j.x.b, .int .i64 j.x.c, .bool j.x.p, .bool j.x.q, .bool j.x.r, .bool j.x.tn, .int .i64 j.wa, .int .i64 j.pr, .bool j.he, .slice Y j.af.length cj, .int .u8 j.st, .int .i64 j.ca] 33)) = w0 at *
  have HB0 := Lib.hid hb0
  have KC0 := Lib.hid kc0
  have KJ0 := Lib.hid kj0
  clear hb0 kc0 kj0
  go_wp2_with (first | (refine wpList_load_row rfl 26 _ rfl _ rfl 26 #[.int .i64 d0, .int .i64 d1, .int .i64 d2, .int .i64 bo, .int .i64 fr, .int .i64 tr, .int .i64 ag, .slice K ks.length kc] (0, 0) _ KC0.out Try.underlying26 rfl (by kernel_rfl) ?_) | (refine wpList_load_row rfl 33 _ rfl _ rfl 33 #[.int .i64 j.id, .int .i64 j.us, .int .i64 j.cl, .int .i64 j.x.a, .int .i64 j.x.b, .int .i64 j.x.c, .bool j.x.p, .bool j.x.q, .bool j.x.r, .bool j.x.tn, .int .i64 j.wa, .int .i64 j.pr, .bool j.he, .slice Y j.af.length cj, .int .u8 j.st, .int .i64 j.ca] (0, 0) _ KJ0.out Try.underlying33 rfl (by kernel_rfl) ?_))
  refine (HP.out _).mono ?_
  rintro e w1 ⟨rfl, hB1⟩
  have HB1 := Lib.hid (below_up HB0.out hB1)
  have KC1 := Lib.hid (KC0.out.below hB1 KC0.out.lt)
  have KJ1 := Lib.hid (KJ0.out.below hB1 KJ0.out.lt)
  clear hB1 KC0 KJ0
  go_wp2_with (first | (refine wpList_load_row rfl 33 _ rfl _ rfl 33 #[.int .i64 j.id, .int .i64 j.us, .int .i64 j.cl, .int .i64 j.x.a, .int .i64 j.x.b, .int .i64 j.x.c, .bool j.x.p, .bool j.x.q, .bool j.x.r, .bool j.x.tn, .int .i64 j.wa, .int .i64 j.pr, .bool j.he, .slice Y j.af.length cj, .int .u8 j.st, .int .i64 j.ca] (0, 0) _ KJ1.out Try.underlying33 rfl (by kernel_rfl) ?_))
  refine (HA.out _ (HY.out.up HB1.out)).mono ?_
  rintro e w2 ⟨rfl, hB2⟩
  have HB2 := Lib.hid (below_up HB1.out hB2)
  have KC2 := Lib.hid (KC1.out.below hB2 KC1.out.lt)
  have KJ2 := Lib.hid (KJ1.out.below hB2 KJ1.out.lt)
  clear hB2 KC1 KJ1
  have x3 : w2.cell? ⟨w.heap.size + 1, 3, none⟩ = some (.int .i64 j.x.a) := KJ2.out.cell 3
  have x4 : w2.cell? ⟨w.heap.size + 1, 4, none⟩ = some (.int .i64 j.x.b) := KJ2.out.cell 4
  have x5 : w2.cell? ⟨w.heap.size + 1, 5, none⟩ = some (.int .i64 j.x.c) := KJ2.out.cell 5
  have x6 : w2.cell? ⟨w.heap.size + 1, 6, none⟩ = some (.bool j.x.p) := KJ2.out.cell 6
  have x7 : w2.cell? ⟨w.heap.size + 1, 7, none⟩ = some (.bool j.x.q) := KJ2.out.cell 7
  have x8 : w2.cell? ⟨w.heap.size + 1, 8, none⟩ = some (.bool j.x.r) := KJ2.out.cell 8
  have x9 : w2.cell? ⟨w.heap.size + 1, 9, none⟩ = some (.bool j.x.tn) := KJ2.out.cell 9
  go_wp2_with (first | fail)
  refine (wcheck_bad _ _ _ _ _ _ _ H2.out _).mono ?_
  rintro e w3 ⟨rfl, hB3⟩
  have HB3 := Lib.hid (below_up HB2.out hB3)
  have KC3 := Lib.hid (KC2.out.below hB3 KC2.out.lt)
  have KJ3 := Lib.hid (KJ2.out.below hB3 KJ2.out.lt)
  clear hB3 KC2 KJ2
  clear x3 x4 x5 x6 x7 x8 x9
  go_wp2_with fail
  go_ret
  exact ⟨rfl, HB3.out⟩
set_option maxRecDepth 100000 in
set_option maxHeartbeats 4000000 in
theorem ck_shape (d0 d1 d2 bo fr tr ag : Int) (K : Option Addr) (kc : Nat) (ks : List Cls) (j : JV) (Y : Option Addr) (cj : Nat) (hl : ks.length ≤ 4611686018427387904) (hla : j.af.length ≤ 4611686018427387904) (h0 : plainB ks.length j = true) (h1 : afterB j = true) (h2 : WOk j.x) (h3 : (fitsV d0 d1 d2 j.x).1 = false) (w : World) (hk : ClsAt w w.heap.size K ks) (hY : IntsAt w Y j.af) :
    Calls Try.prog 30 #[.agg #[.int .i64 d0, .int .i64 d1, .int .i64 d2, .int .i64 bo, .int .i64 fr, .int .i64 tr, .int .i64 ag, .slice K ks.length kc], .agg #[.int .i64 j.id, .int .i64 j.us, .int .i64 j.cl, .int .i64 j.x.a, .int .i64 j.x.b, .int .i64 j.x.c, .bool j.x.p, .bool j.x.q, .bool j.x.r, .bool j.x.tn, .int .i64 j.wa, .int .i64 j.pr, .bool j.he, .slice Y j.af.length cj, .int .u8 j.st, .int .i64 j.ca]] w fun e w' => e = .returned (.int .i64 180) ∧ Below w.heap.size w w' := by
  have HP := Lib.hid (fun w => jplain d0 d1 d2 bo fr tr ag K kc ks j Y cj hl _ h0 w)
  have HA := Lib.hid (fun w hY => jafter j Y cj hla _ h1 w hY)
  have HY := Lib.hid hY
  have H2 := Lib.hid h2
  have hcl := plain_cl h0
  obtain ⟨m, hm, hmk, hkm⟩ := cls_at hcl.1 hcl.2
  have hmi : (m : Int) < (ks.length : Int) := by omega
  have hmi0 : (0 : Int) ≤ (m : Int) := by omega
  have hf' : ∀ w, Calls Try.prog 52 #[.agg #[.int .i64 d0, .int .i64 d1, .int .i64 d2], .agg j.x.arr] w fun e w' => e = .returned (.tuple #[.bool (fitsV d0 d1 d2 j.x).1, .int .i64 (fitsV d0 d1 d2 j.x).2]) ∧ Below w.heap.size w w' := fun w => fits_any d0 d1 d2 j.x w
  rw [h3] at hf'
  unfold WV.arr at hf'
  have HF := Lib.hid hf'
  obtain ⟨kb, ko, rfl, hkb, y0, y1, y2, y3⟩ := hk m _ hkm
  have HYK := Lib.hid (And.intro y0 (And.intro y1 (And.intro y2 y3)))
  have HKB := Lib.hid hkb
  have hm3 := mul3 h2.1 h2.2.1 h2.2.2
  have f1 : IntKind.i64.wrap (j.x.a * j.x.b) = j.x.a * j.x.b := IntWalk.i64_in _ (by omega)
  have f2 : IntKind.i64.wrap (j.x.a * j.x.b * j.x.c) = j.x.a * j.x.b * j.x.c := IntWalk.i64_in _ (by omega)
  have HN := Lib.hid (And.intro (And.intro trivial trivial) (And.intro f1 f2))
  generalize clsOf ks j.cl = k at *
  rw [hm] at HP HA ⊢
  clear hcl hm hkm hm3 hf' h3 f1 f2 y0 y1 y2 y3 hkb
  clear hk hY h0 h1 h2
  go_enter Try.func30, Try.ntmps30
  go_upto_region 1 with fail
  have kc0 : Blk ((w.alloc (.cells #[.int .i64 d0, .int .i64 d1, .int .i64 d2, .int .i64 bo, .int .i64 fr, .int .i64 tr, .int .i64 ag, .slice (some ⟨kb, ko, none⟩) ks.length kc] 26)).alloc (.cells #[.int .i64 j.id, .int .i64 j.us, .int .i64 (m : Int), .int .i64 j.x.a, .int .i64 j.x.b, .int .i64 j.x.c, .bool j.x.p, .bool j.x.q, .bool j.x.r, .bool j.x.tn, .int .i64 j.wa, .int .i64 j.pr, .bool j.he, .slice Y j.af.length cj, .int .u8 j.st, .int .i64 j.ca] 33)) w.heap.size 26 #[.int .i64 d0, .int .i64 d1, .int .i64 d2, .int .i64 bo, .int .i64 fr, .int .i64 tr, .int .i64 ag, .slice (some ⟨kb, ko, none⟩) ks.length kc] := (Blk.new w _ _).alloc _
  have kj0 : Blk ((w.alloc (.cells #[.int .i64 d0, .int .i64 d1, .int .i64 d2, .int .i64 bo, .int .i64 fr, .int .i64 tr, .int .i64 ag, .slice (some ⟨kb, ko, none⟩) ks.length kc] 26)).alloc (.cells #[.int .i64 j.id, .int .i64 j.us, .int .i64 (m : Int), .int .i64 j.x.a, .int .i64 j.x.b, .int .i64 j.x.c, .bool j.x.p, .bool j.x.q, .bool j.x.r, .bool j.x.tn, .int .i64 j.wa, .int .i64 j.pr, .bool j.he, .slice Y j.af.length cj, .int .u8 j.st, .int .i64 j.ca] 33)) (w.heap.size + 1) 33 #[.int .i64 j.id, .int .i64 j.us, .int .i64 (m : Int), .int .i64 j.x.a, .int .i64 j.x.b, .int .i64 j.x.c, .bool j.x.p, .bool j.x.q, .bool j.x.r, .bool j.x.tn, .int .i64 j.wa, .int .i64 j.pr, .bool j.he, .slice Y j.af.length cj, .int .u8 j.st, .int .i64 j.ca] := blk1 w _ _
  have hb0 : Below w.heap.size w ((w.alloc (.cells #[.int .i64 d0, .int .i64 d1, .int .i64 d2, .int .i64 bo, .int .i64 fr, .int .i64 tr, .int .i64 ag, .slice (some ⟨kb, ko, none⟩) ks.length kc] 26)).alloc (.cells #[.int .i64 j.id, .int .i64 j.us, .int .i64 (m : Int), .int .i64 j.x.a, .int .i64 j.x.b, .int .i64 j.x.c, .bool j.x.p, .bool j.x.q, .bool j.x.r, .bool j.x.tn, .int .i64 j.wa, .int .i64 j.pr, .bool j.he, .slice Y j.af.length cj, .int .u8 j.st, .int .i64 j.ca] 33)) := below_alloc (below_alloc (Below.refl _ _))
  generalize ((w.alloc (.cells #[.int .i64 d0, .int .i64 d1, .int .i64 d2, .int .i64 bo, .int .i64 fr, .int .i64 tr, .int .i64 ag, .slice (some ⟨kb, ko, none⟩) ks.length kc] 26)).alloc (.cells #[.int .i64 j.id, .int .i64 j.us, .int .i64 (m : Int), .int .i64 j.x.a, .int .i64 j.x.b, .int .i64 j.x.c, .bool j.x.p, .bool j.x.q, .bool j.x.r, .bool j.x.tn, .int .i64 j.wa, .int .i64 j.pr, .bool j.he, .slice Y j.af.length cj, .int .u8 j.st, .int .i64 j.ca] 33)) = w0 at *
  have HB0 := Lib.hid hb0
  have KC0 := Lib.hid kc0
  have KJ0 := Lib.hid kj0
  clear hb0 kc0 kj0
  go_wp2_with (first | (refine wpList_load_row rfl 26 _ rfl _ rfl 26 #[.int .i64 d0, .int .i64 d1, .int .i64 d2, .int .i64 bo, .int .i64 fr, .int .i64 tr, .int .i64 ag, .slice (some ⟨kb, ko, none⟩) ks.length kc] (0, 0) _ KC0.out Try.underlying26 rfl (by kernel_rfl) ?_) | (refine wpList_load_row rfl 33 _ rfl _ rfl 33 #[.int .i64 j.id, .int .i64 j.us, .int .i64 (m : Int), .int .i64 j.x.a, .int .i64 j.x.b, .int .i64 j.x.c, .bool j.x.p, .bool j.x.q, .bool j.x.r, .bool j.x.tn, .int .i64 j.wa, .int .i64 j.pr, .bool j.he, .slice Y j.af.length cj, .int .u8 j.st, .int .i64 j.ca] (0, 0) _ KJ0.out Try.underlying33 rfl (by kernel_rfl) ?_))
  refine (HP.out _).mono ?_
  rintro e w1 ⟨rfl, hB1⟩
  have HB1 := Lib.hid (below_up HB0.out hB1)
  have KC1 := Lib.hid (KC0.out.below hB1 KC0.out.lt)
  have KJ1 := Lib.hid (KJ0.out.below hB1 KJ0.out.lt)
  clear hB1 KC0 KJ0
  go_wp2_with (first | (refine wpList_load_row rfl 33 _ rfl _ rfl 33 #[.int .i64 j.id, .int .i64 j.us, .int .i64 (m : Int), .int .i64 j.x.a, .int .i64 j.x.b, .int .i64 j.x.c, .bool j.x.p, .bool j.x.q, .bool j.x.r, .bool j.x.tn, .int .i64 j.wa, .int .i64 j.pr, .bool j.he, .slice Y j.af.length cj, .int .u8 j.st, .int .i64 j.ca] (0, 0) _ KJ1.out Try.underlying33 rfl (by kernel_rfl) ?_))
  refine (HA.out _ (HY.out.up HB1.out)).mono ?_
  rintro e w2 ⟨rfl, hB2⟩
  have HB2 := Lib.hid (below_up HB1.out hB2)
  have KC2 := Lib.hid (KC1.out.below hB2 KC1.out.lt)
  have KJ2 := Lib.hid (KJ1.out.below hB2 KJ1.out.lt)
  clear hB2 KC1 KJ1
  have x3 : w2.cell? ⟨w.heap.size + 1, 3, none⟩ = some (.int .i64 j.x.a) := KJ2.out.cell 3
  have x4 : w2.cell? ⟨w.heap.size + 1, 4, none⟩ = some (.int .i64 j.x.b) := KJ2.out.cell 4
  have x5 : w2.cell? ⟨w.heap.size + 1, 5, none⟩ = some (.int .i64 j.x.c) := KJ2.out.cell 5
  have x6 : w2.cell? ⟨w.heap.size + 1, 6, none⟩ = some (.bool j.x.p) := KJ2.out.cell 6
  have x7 : w2.cell? ⟨w.heap.size + 1, 7, none⟩ = some (.bool j.x.q) := KJ2.out.cell 7
  have x8 : w2.cell? ⟨w.heap.size + 1, 8, none⟩ = some (.bool j.x.r) := KJ2.out.cell 8
  have x9 : w2.cell? ⟨w.heap.size + 1, 9, none⟩ = some (.bool j.x.tn) := KJ2.out.cell 9
  go_wp2_with (first | fail)
  refine (wcheck_ok _ _ _ _ _ _ _ H2.out _).mono ?_
  rintro e w3 ⟨rfl, hB3⟩
  have HB3 := Lib.hid (below_up HB2.out hB3)
  have KC3 := Lib.hid (KC2.out.below hB3 KC2.out.lt)
  have KJ3 := Lib.hid (KJ2.out.below hB3 KJ2.out.lt)
  clear hB3 KC2 KJ2
  clear x3 x4 x5 x6 x7 x8 x9
  have x2 : w3.cell? ⟨w.heap.size + 1, 2, none⟩ = some (.int .i64 (m : Int)) := KJ3.out.cell 2
  have x3 : w3.cell? ⟨w.heap.size + 1, 3, none⟩ = some (.int .i64 j.x.a) := KJ3.out.cell 3
  have x4 : w3.cell? ⟨w.heap.size + 1, 4, none⟩ = some (.int .i64 j.x.b) := KJ3.out.cell 4
  have x5 : w3.cell? ⟨w.heap.size + 1, 5, none⟩ = some (.int .i64 j.x.c) := KJ3.out.cell 5
  have xk : w3.cell? ⟨w.heap.size, 7, none⟩ = some (.slice (some ⟨kb, ko, none⟩) ks.length kc) := KC3.out.cell 7
  have y0 : w3.cell? ⟨kb, ko + m * 4, none⟩ = some (.int .i64 k.1) := (HB3.out.cell (p := ⟨kb, ko + m * 4, none⟩) HKB.out).trans HYK.out.1
  have y1 : w3.cell? ⟨kb, ko + m * 4 + 1, none⟩ = some (.int .i64 k.2.1) := (HB3.out.cell (p := ⟨kb, ko + m * 4 + 1, none⟩) HKB.out).trans HYK.out.2.1
  have y2 : w3.cell? ⟨kb, ko + m * 4 + 2, none⟩ = some (.int .i64 k.2.2.1) := (HB3.out.cell (p := ⟨kb, ko + m * 4 + 2, none⟩) HKB.out).trans HYK.out.2.2.1
  have y3 : w3.cell? ⟨kb, ko + m * 4 + 3, none⟩ = some (.int .i64 k.2.2.2) := (HB3.out.cell (p := ⟨kb, ko + m * 4 + 3, none⟩) HKB.out).trans HYK.out.2.2.2
  go_upto_region 7 with fail
  go_cut [5, 6] (fun s5 s6 wx => ∃ g5 g6 : Nat, s5 = .pointer (some ⟨g5, 0, none⟩) ∧ s6 = .pointer (some ⟨g6, 0, none⟩) ∧ Hid (Below w3.heap.size w3 wx) ∧ Hid (Blk wx g5 22 #[.int .i64 j.x.a, .int .i64 j.x.b, .int .i64 j.x.c]) ∧ Hid (Blk wx g6 56 #[.int .i64 k.1, .int .i64 k.2.1, .int .i64 k.2.2.1, .int .i64 k.2.2.2]))
  case first =>
    clear HP HA HY H2 HF HN HB0 HB1 HB2 HB3 KC3 KJ3
    have K00 : KeptL w3 [(⟨w.heap.size + 1, 2, none⟩, .int .i64 (m : Int)), (⟨w.heap.size + 1, 3, none⟩, .int .i64 j.x.a), (⟨w.heap.size + 1, 4, none⟩, .int .i64 j.x.b), (⟨w.heap.size + 1, 5, none⟩, .int .i64 j.x.c), (⟨w.heap.size, 7, none⟩, .slice (some ⟨kb, ko, none⟩) ks.length kc), (⟨kb, ko + m * 4, none⟩, .int .i64 k.1), (⟨kb, ko + m * 4 + 1, none⟩, .int .i64 k.2.1), (⟨kb, ko + m * 4 + 2, none⟩, .int .i64 k.2.2.1), (⟨kb, ko + m * 4 + 3, none⟩, .int .i64 k.2.2.2)] w3 := ⟨Below.refl _ _, x2, x3, x4, x5, xk, y0, y1, y2, y3⟩
    have K0 := K00.drew
    go_region_held3 (fun W => Below w3.heap.size w3 W ∧ W.cell? ⟨w.heap.size + 1, 2, none⟩ = some (.int .i64 (m : Int)) ∧ W.cell? ⟨w.heap.size + 1, 3, none⟩ = some (.int .i64 j.x.a) ∧ W.cell? ⟨w.heap.size + 1, 4, none⟩ = some (.int .i64 j.x.b) ∧ W.cell? ⟨w.heap.size + 1, 5, none⟩ = some (.int .i64 j.x.c) ∧ W.cell? ⟨w.heap.size, 7, none⟩ = some (.slice (some ⟨kb, ko, none⟩) ks.length kc) ∧ W.cell? ⟨kb, ko + m * 4, none⟩ = some (.int .i64 k.1) ∧ W.cell? ⟨kb, ko + m * 4 + 1, none⟩ = some (.int .i64 k.2.1) ∧ W.cell? ⟨kb, ko + m * 4 + 2, none⟩ = some (.int .i64 k.2.2.1) ∧ W.cell? ⟨kb, ko + m * 4 + 3, none⟩ = some (.int .i64 k.2.2.2)) (first | exact K0 | exact (K00.alloc _).drew | exact ((K00.alloc _).alloc _).drew | exact K0.alloc _ | exact (K0.alloc _).alloc _) (first | fail)
    all_goals
      go_wp2_with fail
      go_meet
      first
        | exact ⟨_, _, rfl, rfl, (below_alloc (below_alloc (Below.refl _ _))).drew, ((Blk.new w3 _ _).alloc _).drew, (blk1 w3 _ _).drew⟩
        | exact ⟨_, _, rfl, rfl, (below_alloc (below_alloc (Below.refl _ _))).drew, (blk1 w3 _ _).drew, ((Blk.new w3 _ _).alloc _).drew⟩
  case rest =>
    obtain ⟨g5, g6, rfl, rfl, hBx, h5, h6⟩ := hcut
    clear x2 x3 x4 x5 xk y0 y1 y2 y3
    have HBX := Lib.hid (below_up HB3.out hBx.out)
    have KCX := Lib.hid (KC3.out.below hBx.out KC3.out.lt)
    have KJX := Lib.hid (KJ3.out.below hBx.out KJ3.out.lt)
    clear hBx KC3 KJ3 HB3
    have e0 : wc.cell? ⟨w.heap.size, 0, none⟩ = some (.int .i64 d0) := KCX.out.cell 0
    have e1 : wc.cell? ⟨w.heap.size, 1, none⟩ = some (.int .i64 d1) := KCX.out.cell 1
    have e2 : wc.cell? ⟨w.heap.size, 2, none⟩ = some (.int .i64 d2) := KCX.out.cell 2
    have x3 : wc.cell? ⟨w.heap.size + 1, 3, none⟩ = some (.int .i64 j.x.a) := KJX.out.cell 3
    have x4 : wc.cell? ⟨w.heap.size + 1, 4, none⟩ = some (.int .i64 j.x.b) := KJX.out.cell 4
    have x5 : wc.cell? ⟨w.heap.size + 1, 5, none⟩ = some (.int .i64 j.x.c) := KJX.out.cell 5
    have x6 : wc.cell? ⟨w.heap.size + 1, 6, none⟩ = some (.bool j.x.p) := KJX.out.cell 6
    have x7 : wc.cell? ⟨w.heap.size + 1, 7, none⟩ = some (.bool j.x.q) := KJX.out.cell 7
    have x8 : wc.cell? ⟨w.heap.size + 1, 8, none⟩ = some (.bool j.x.r) := KJX.out.cell 8
    have x9 : wc.cell? ⟨w.heap.size + 1, 9, none⟩ = some (.bool j.x.tn) := KJX.out.cell 9
    go_wp2_with fail
    refine (HF.out _).mono ?_
    rintro e w5 ⟨rfl, hB5⟩
    clear e0 e1 e2 x3 x4 x5 x6 x7 x8 x9
    have HB5 := Lib.hid (below_up HBX.out hB5)
    have KJ5 := Lib.hid (KJX.out.below hB5 KJX.out.lt)
    have H5 := Lib.hid (h5.out.below hB5 h5.out.lt)
    have H6 := Lib.hid (h6.out.below hB5 h6.out.lt)
    clear hB5 KCX KJX HBX h5 h6
    go_wp2_with fail
    go_ret
    exact ⟨rfl, HB5.out⟩
set_option maxRecDepth 100000 in
set_option maxHeartbeats 4000000 in
theorem ck_wall (d0 d1 d2 bo fr tr ag : Int) (K : Option Addr) (kc : Nat) (ks : List Cls) (j : JV) (Y : Option Addr) (cj : Nat) (hl : ks.length ≤ 4611686018427387904) (hla : j.af.length ≤ 4611686018427387904) (h0 : plainB ks.length j = true) (h1 : afterB j = true) (h2 : WOk j.x) (h3 : (fitsV d0 d1 d2 j.x).1 = true) (h4 : ¬ j.wa ≤ (clsOf ks j.cl).2.1) (w : World) (hk : ClsAt w w.heap.size K ks) (hY : IntsAt w Y j.af) :
    Calls Try.prog 30 #[.agg #[.int .i64 d0, .int .i64 d1, .int .i64 d2, .int .i64 bo, .int .i64 fr, .int .i64 tr, .int .i64 ag, .slice K ks.length kc], .agg #[.int .i64 j.id, .int .i64 j.us, .int .i64 j.cl, .int .i64 j.x.a, .int .i64 j.x.b, .int .i64 j.x.c, .bool j.x.p, .bool j.x.q, .bool j.x.r, .bool j.x.tn, .int .i64 j.wa, .int .i64 j.pr, .bool j.he, .slice Y j.af.length cj, .int .u8 j.st, .int .i64 j.ca]] w fun e w' => e = .returned (.int .i64 181) ∧ Below w.heap.size w w' := by
  have HP := Lib.hid (fun w => jplain d0 d1 d2 bo fr tr ag K kc ks j Y cj hl _ h0 w)
  have HA := Lib.hid (fun w hY => jafter j Y cj hla _ h1 w hY)
  have HY := Lib.hid hY
  have H2 := Lib.hid h2
  have hcl := plain_cl h0
  obtain ⟨m, hm, hmk, hkm⟩ := cls_at hcl.1 hcl.2
  have hmi : (m : Int) < (ks.length : Int) := by omega
  have hmi0 : (0 : Int) ≤ (m : Int) := by omega
  have hf' : ∀ w, Calls Try.prog 52 #[.agg #[.int .i64 d0, .int .i64 d1, .int .i64 d2], .agg j.x.arr] w fun e w' => e = .returned (.tuple #[.bool (fitsV d0 d1 d2 j.x).1, .int .i64 (fitsV d0 d1 d2 j.x).2]) ∧ Below w.heap.size w w' := fun w => fits_any d0 d1 d2 j.x w
  rw [h3] at hf'
  unfold WV.arr at hf'
  have HF := Lib.hid hf'
  obtain ⟨kb, ko, rfl, hkb, y0, y1, y2, y3⟩ := hk m _ hkm
  have HYK := Lib.hid (And.intro y0 (And.intro y1 (And.intro y2 y3)))
  have HKB := Lib.hid hkb
  have hm3 := mul3 h2.1 h2.2.1 h2.2.2
  have f1 : IntKind.i64.wrap (j.x.a * j.x.b) = j.x.a * j.x.b := IntWalk.i64_in _ (by omega)
  have f2 : IntKind.i64.wrap (j.x.a * j.x.b * j.x.c) = j.x.a * j.x.b * j.x.c := IntWalk.i64_in _ (by omega)
  have HN := Lib.hid (And.intro (And.intro h4 trivial) (And.intro f1 f2))
  generalize clsOf ks j.cl = k at *
  rw [hm] at HP HA ⊢
  clear hcl hm hkm hm3 hf' h3 f1 f2 y0 y1 y2 y3 hkb h4
  clear hk hY h0 h1 h2
  go_enter Try.func30, Try.ntmps30
  go_upto_region 1 with fail
  have kc0 : Blk ((w.alloc (.cells #[.int .i64 d0, .int .i64 d1, .int .i64 d2, .int .i64 bo, .int .i64 fr, .int .i64 tr, .int .i64 ag, .slice (some ⟨kb, ko, none⟩) ks.length kc] 26)).alloc (.cells #[.int .i64 j.id, .int .i64 j.us, .int .i64 (m : Int), .int .i64 j.x.a, .int .i64 j.x.b, .int .i64 j.x.c, .bool j.x.p, .bool j.x.q, .bool j.x.r, .bool j.x.tn, .int .i64 j.wa, .int .i64 j.pr, .bool j.he, .slice Y j.af.length cj, .int .u8 j.st, .int .i64 j.ca] 33)) w.heap.size 26 #[.int .i64 d0, .int .i64 d1, .int .i64 d2, .int .i64 bo, .int .i64 fr, .int .i64 tr, .int .i64 ag, .slice (some ⟨kb, ko, none⟩) ks.length kc] := (Blk.new w _ _).alloc _
  have kj0 : Blk ((w.alloc (.cells #[.int .i64 d0, .int .i64 d1, .int .i64 d2, .int .i64 bo, .int .i64 fr, .int .i64 tr, .int .i64 ag, .slice (some ⟨kb, ko, none⟩) ks.length kc] 26)).alloc (.cells #[.int .i64 j.id, .int .i64 j.us, .int .i64 (m : Int), .int .i64 j.x.a, .int .i64 j.x.b, .int .i64 j.x.c, .bool j.x.p, .bool j.x.q, .bool j.x.r, .bool j.x.tn, .int .i64 j.wa, .int .i64 j.pr, .bool j.he, .slice Y j.af.length cj, .int .u8 j.st, .int .i64 j.ca] 33)) (w.heap.size + 1) 33 #[.int .i64 j.id, .int .i64 j.us, .int .i64 (m : Int), .int .i64 j.x.a, .int .i64 j.x.b, .int .i64 j.x.c, .bool j.x.p, .bool j.x.q, .bool j.x.r, .bool j.x.tn, .int .i64 j.wa, .int .i64 j.pr, .bool j.he, .slice Y j.af.length cj, .int .u8 j.st, .int .i64 j.ca] := blk1 w _ _
  have hb0 : Below w.heap.size w ((w.alloc (.cells #[.int .i64 d0, .int .i64 d1, .int .i64 d2, .int .i64 bo, .int .i64 fr, .int .i64 tr, .int .i64 ag, .slice (some ⟨kb, ko, none⟩) ks.length kc] 26)).alloc (.cells #[.int .i64 j.id, .int .i64 j.us, .int .i64 (m : Int), .int .i64 j.x.a, .int .i64 j.x.b, .int .i64 j.x.c, .bool j.x.p, .bool j.x.q, .bool j.x.r, .bool j.x.tn, .int .i64 j.wa, .int .i64 j.pr, .bool j.he, .slice Y j.af.length cj, .int .u8 j.st, .int .i64 j.ca] 33)) := below_alloc (below_alloc (Below.refl _ _))
  generalize ((w.alloc (.cells #[.int .i64 d0, .int .i64 d1, .int .i64 d2, .int .i64 bo, .int .i64 fr, .int .i64 tr, .int .i64 ag, .slice (some ⟨kb, ko, none⟩) ks.length kc] 26)).alloc (.cells #[.int .i64 j.id, .int .i64 j.us, .int .i64 (m : Int), .int .i64 j.x.a, .int .i64 j.x.b, .int .i64 j.x.c, .bool j.x.p, .bool j.x.q, .bool j.x.r, .bool j.x.tn, .int .i64 j.wa, .int .i64 j.pr, .bool j.he, .slice Y j.af.length cj, .int .u8 j.st, .int .i64 j.ca] 33)) = w0 at *
  have HB0 := Lib.hid hb0
  have KC0 := Lib.hid kc0
  have KJ0 := Lib.hid kj0
  clear hb0 kc0 kj0
  go_wp2_with (first | (refine wpList_load_row rfl 26 _ rfl _ rfl 26 #[.int .i64 d0, .int .i64 d1, .int .i64 d2, .int .i64 bo, .int .i64 fr, .int .i64 tr, .int .i64 ag, .slice (some ⟨kb, ko, none⟩) ks.length kc] (0, 0) _ KC0.out Try.underlying26 rfl (by kernel_rfl) ?_) | (refine wpList_load_row rfl 33 _ rfl _ rfl 33 #[.int .i64 j.id, .int .i64 j.us, .int .i64 (m : Int), .int .i64 j.x.a, .int .i64 j.x.b, .int .i64 j.x.c, .bool j.x.p, .bool j.x.q, .bool j.x.r, .bool j.x.tn, .int .i64 j.wa, .int .i64 j.pr, .bool j.he, .slice Y j.af.length cj, .int .u8 j.st, .int .i64 j.ca] (0, 0) _ KJ0.out Try.underlying33 rfl (by kernel_rfl) ?_))
  refine (HP.out _).mono ?_
  rintro e w1 ⟨rfl, hB1⟩
  have HB1 := Lib.hid (below_up HB0.out hB1)
  have KC1 := Lib.hid (KC0.out.below hB1 KC0.out.lt)
  have KJ1 := Lib.hid (KJ0.out.below hB1 KJ0.out.lt)
  clear hB1 KC0 KJ0
  go_wp2_with (first | (refine wpList_load_row rfl 33 _ rfl _ rfl 33 #[.int .i64 j.id, .int .i64 j.us, .int .i64 (m : Int), .int .i64 j.x.a, .int .i64 j.x.b, .int .i64 j.x.c, .bool j.x.p, .bool j.x.q, .bool j.x.r, .bool j.x.tn, .int .i64 j.wa, .int .i64 j.pr, .bool j.he, .slice Y j.af.length cj, .int .u8 j.st, .int .i64 j.ca] (0, 0) _ KJ1.out Try.underlying33 rfl (by kernel_rfl) ?_))
  refine (HA.out _ (HY.out.up HB1.out)).mono ?_
  rintro e w2 ⟨rfl, hB2⟩
  have HB2 := Lib.hid (below_up HB1.out hB2)
  have KC2 := Lib.hid (KC1.out.below hB2 KC1.out.lt)
  have KJ2 := Lib.hid (KJ1.out.below hB2 KJ1.out.lt)
  clear hB2 KC1 KJ1
  have x3 : w2.cell? ⟨w.heap.size + 1, 3, none⟩ = some (.int .i64 j.x.a) := KJ2.out.cell 3
  have x4 : w2.cell? ⟨w.heap.size + 1, 4, none⟩ = some (.int .i64 j.x.b) := KJ2.out.cell 4
  have x5 : w2.cell? ⟨w.heap.size + 1, 5, none⟩ = some (.int .i64 j.x.c) := KJ2.out.cell 5
  have x6 : w2.cell? ⟨w.heap.size + 1, 6, none⟩ = some (.bool j.x.p) := KJ2.out.cell 6
  have x7 : w2.cell? ⟨w.heap.size + 1, 7, none⟩ = some (.bool j.x.q) := KJ2.out.cell 7
  have x8 : w2.cell? ⟨w.heap.size + 1, 8, none⟩ = some (.bool j.x.r) := KJ2.out.cell 8
  have x9 : w2.cell? ⟨w.heap.size + 1, 9, none⟩ = some (.bool j.x.tn) := KJ2.out.cell 9
  go_wp2_with (first | fail)
  refine (wcheck_ok _ _ _ _ _ _ _ H2.out _).mono ?_
  rintro e w3 ⟨rfl, hB3⟩
  have HB3 := Lib.hid (below_up HB2.out hB3)
  have KC3 := Lib.hid (KC2.out.below hB3 KC2.out.lt)
  have KJ3 := Lib.hid (KJ2.out.below hB3 KJ2.out.lt)
  clear hB3 KC2 KJ2
  clear x3 x4 x5 x6 x7 x8 x9
  have x2 : w3.cell? ⟨w.heap.size + 1, 2, none⟩ = some (.int .i64 (m : Int)) := KJ3.out.cell 2
  have x3 : w3.cell? ⟨w.heap.size + 1, 3, none⟩ = some (.int .i64 j.x.a) := KJ3.out.cell 3
  have x4 : w3.cell? ⟨w.heap.size + 1, 4, none⟩ = some (.int .i64 j.x.b) := KJ3.out.cell 4
  have x5 : w3.cell? ⟨w.heap.size + 1, 5, none⟩ = some (.int .i64 j.x.c) := KJ3.out.cell 5
  have xk : w3.cell? ⟨w.heap.size, 7, none⟩ = some (.slice (some ⟨kb, ko, none⟩) ks.length kc) := KC3.out.cell 7
  have y0 : w3.cell? ⟨kb, ko + m * 4, none⟩ = some (.int .i64 k.1) := (HB3.out.cell (p := ⟨kb, ko + m * 4, none⟩) HKB.out).trans HYK.out.1
  have y1 : w3.cell? ⟨kb, ko + m * 4 + 1, none⟩ = some (.int .i64 k.2.1) := (HB3.out.cell (p := ⟨kb, ko + m * 4 + 1, none⟩) HKB.out).trans HYK.out.2.1
  have y2 : w3.cell? ⟨kb, ko + m * 4 + 2, none⟩ = some (.int .i64 k.2.2.1) := (HB3.out.cell (p := ⟨kb, ko + m * 4 + 2, none⟩) HKB.out).trans HYK.out.2.2.1
  have y3 : w3.cell? ⟨kb, ko + m * 4 + 3, none⟩ = some (.int .i64 k.2.2.2) := (HB3.out.cell (p := ⟨kb, ko + m * 4 + 3, none⟩) HKB.out).trans HYK.out.2.2.2
  go_upto_region 7 with fail
  go_cut [5, 6] (fun s5 s6 wx => ∃ g5 g6 : Nat, s5 = .pointer (some ⟨g5, 0, none⟩) ∧ s6 = .pointer (some ⟨g6, 0, none⟩) ∧ Hid (Below w3.heap.size w3 wx) ∧ Hid (Blk wx g5 22 #[.int .i64 j.x.a, .int .i64 j.x.b, .int .i64 j.x.c]) ∧ Hid (Blk wx g6 56 #[.int .i64 k.1, .int .i64 k.2.1, .int .i64 k.2.2.1, .int .i64 k.2.2.2]))
  case first =>
    clear HP HA HY H2 HF HN HB0 HB1 HB2 HB3 KC3 KJ3
    have K00 : KeptL w3 [(⟨w.heap.size + 1, 2, none⟩, .int .i64 (m : Int)), (⟨w.heap.size + 1, 3, none⟩, .int .i64 j.x.a), (⟨w.heap.size + 1, 4, none⟩, .int .i64 j.x.b), (⟨w.heap.size + 1, 5, none⟩, .int .i64 j.x.c), (⟨w.heap.size, 7, none⟩, .slice (some ⟨kb, ko, none⟩) ks.length kc), (⟨kb, ko + m * 4, none⟩, .int .i64 k.1), (⟨kb, ko + m * 4 + 1, none⟩, .int .i64 k.2.1), (⟨kb, ko + m * 4 + 2, none⟩, .int .i64 k.2.2.1), (⟨kb, ko + m * 4 + 3, none⟩, .int .i64 k.2.2.2)] w3 := ⟨Below.refl _ _, x2, x3, x4, x5, xk, y0, y1, y2, y3⟩
    have K0 := K00.drew
    go_region_held3 (fun W => Below w3.heap.size w3 W ∧ W.cell? ⟨w.heap.size + 1, 2, none⟩ = some (.int .i64 (m : Int)) ∧ W.cell? ⟨w.heap.size + 1, 3, none⟩ = some (.int .i64 j.x.a) ∧ W.cell? ⟨w.heap.size + 1, 4, none⟩ = some (.int .i64 j.x.b) ∧ W.cell? ⟨w.heap.size + 1, 5, none⟩ = some (.int .i64 j.x.c) ∧ W.cell? ⟨w.heap.size, 7, none⟩ = some (.slice (some ⟨kb, ko, none⟩) ks.length kc) ∧ W.cell? ⟨kb, ko + m * 4, none⟩ = some (.int .i64 k.1) ∧ W.cell? ⟨kb, ko + m * 4 + 1, none⟩ = some (.int .i64 k.2.1) ∧ W.cell? ⟨kb, ko + m * 4 + 2, none⟩ = some (.int .i64 k.2.2.1) ∧ W.cell? ⟨kb, ko + m * 4 + 3, none⟩ = some (.int .i64 k.2.2.2)) (first | exact K0 | exact (K00.alloc _).drew | exact ((K00.alloc _).alloc _).drew | exact K0.alloc _ | exact (K0.alloc _).alloc _) (first | fail)
    all_goals
      go_wp2_with fail
      go_meet
      first
        | exact ⟨_, _, rfl, rfl, (below_alloc (below_alloc (Below.refl _ _))).drew, ((Blk.new w3 _ _).alloc _).drew, (blk1 w3 _ _).drew⟩
        | exact ⟨_, _, rfl, rfl, (below_alloc (below_alloc (Below.refl _ _))).drew, (blk1 w3 _ _).drew, ((Blk.new w3 _ _).alloc _).drew⟩
  case rest =>
    obtain ⟨g5, g6, rfl, rfl, hBx, h5, h6⟩ := hcut
    clear x2 x3 x4 x5 xk y0 y1 y2 y3
    have HBX := Lib.hid (below_up HB3.out hBx.out)
    have KCX := Lib.hid (KC3.out.below hBx.out KC3.out.lt)
    have KJX := Lib.hid (KJ3.out.below hBx.out KJ3.out.lt)
    clear hBx KC3 KJ3 HB3
    have e0 : wc.cell? ⟨w.heap.size, 0, none⟩ = some (.int .i64 d0) := KCX.out.cell 0
    have e1 : wc.cell? ⟨w.heap.size, 1, none⟩ = some (.int .i64 d1) := KCX.out.cell 1
    have e2 : wc.cell? ⟨w.heap.size, 2, none⟩ = some (.int .i64 d2) := KCX.out.cell 2
    have x3 : wc.cell? ⟨w.heap.size + 1, 3, none⟩ = some (.int .i64 j.x.a) := KJX.out.cell 3
    have x4 : wc.cell? ⟨w.heap.size + 1, 4, none⟩ = some (.int .i64 j.x.b) := KJX.out.cell 4
    have x5 : wc.cell? ⟨w.heap.size + 1, 5, none⟩ = some (.int .i64 j.x.c) := KJX.out.cell 5
    have x6 : wc.cell? ⟨w.heap.size + 1, 6, none⟩ = some (.bool j.x.p) := KJX.out.cell 6
    have x7 : wc.cell? ⟨w.heap.size + 1, 7, none⟩ = some (.bool j.x.q) := KJX.out.cell 7
    have x8 : wc.cell? ⟨w.heap.size + 1, 8, none⟩ = some (.bool j.x.r) := KJX.out.cell 8
    have x9 : wc.cell? ⟨w.heap.size + 1, 9, none⟩ = some (.bool j.x.tn) := KJX.out.cell 9
    go_wp2_with fail
    refine (HF.out _).mono ?_
    rintro e w5 ⟨rfl, hB5⟩
    clear e0 e1 e2 x3 x4 x5 x6 x7 x8 x9
    have HB5 := Lib.hid (below_up HBX.out hB5)
    have KJ5 := Lib.hid (KJX.out.below hB5 KJX.out.lt)
    have H5 := Lib.hid (h5.out.below hB5 h5.out.lt)
    have H6 := Lib.hid (h6.out.below hB5 h6.out.lt)
    clear hB5 KCX KJX HBX h5 h6
    have x10 : w5.cell? ⟨w.heap.size + 1, 10, none⟩ = some (.int .i64 j.wa) := KJ5.out.cell 10
    have k1 : w5.cell? ⟨g6, 1, none⟩ = some (.int .i64 k.2.1) := H6.out.cell 1
    have k2 : w5.cell? ⟨g6, 2, none⟩ = some (.int .i64 k.2.2.1) := H6.out.cell 2
    have s0 : w5.cell? ⟨g5, 0, none⟩ = some (.int .i64 j.x.a) := H5.out.cell 0
    have s1 : w5.cell? ⟨g5, 1, none⟩ = some (.int .i64 j.x.b) := H5.out.cell 1
    have s2 : w5.cell? ⟨g5, 2, none⟩ = some (.int .i64 j.x.c) := H5.out.cell 2
    have h4 := HN.out.1.1
    go_wp2_with fail
    go_ret
    exact ⟨rfl, HB5.out⟩
set_option maxRecDepth 100000 in
set_option maxHeartbeats 4000000 in
theorem ck_nodes (d0 d1 d2 bo fr tr ag : Int) (K : Option Addr) (kc : Nat) (ks : List Cls) (j : JV) (Y : Option Addr) (cj : Nat) (hl : ks.length ≤ 4611686018427387904) (hla : j.af.length ≤ 4611686018427387904) (h0 : plainB ks.length j = true) (h1 : afterB j = true) (h2 : WOk j.x) (h3 : (fitsV d0 d1 d2 j.x).1 = true) (h4 : j.wa ≤ (clsOf ks j.cl).2.1) (h5 : ¬ j.x.a * j.x.b * j.x.c ≤ (clsOf ks j.cl).2.2.1) (w : World) (hk : ClsAt w w.heap.size K ks) (hY : IntsAt w Y j.af) :
    Calls Try.prog 30 #[.agg #[.int .i64 d0, .int .i64 d1, .int .i64 d2, .int .i64 bo, .int .i64 fr, .int .i64 tr, .int .i64 ag, .slice K ks.length kc], .agg #[.int .i64 j.id, .int .i64 j.us, .int .i64 j.cl, .int .i64 j.x.a, .int .i64 j.x.b, .int .i64 j.x.c, .bool j.x.p, .bool j.x.q, .bool j.x.r, .bool j.x.tn, .int .i64 j.wa, .int .i64 j.pr, .bool j.he, .slice Y j.af.length cj, .int .u8 j.st, .int .i64 j.ca]] w fun e w' => e = .returned (.int .i64 181) ∧ Below w.heap.size w w' := by
  have HP := Lib.hid (fun w => jplain d0 d1 d2 bo fr tr ag K kc ks j Y cj hl _ h0 w)
  have HA := Lib.hid (fun w hY => jafter j Y cj hla _ h1 w hY)
  have HY := Lib.hid hY
  have H2 := Lib.hid h2
  have hcl := plain_cl h0
  obtain ⟨m, hm, hmk, hkm⟩ := cls_at hcl.1 hcl.2
  have hmi : (m : Int) < (ks.length : Int) := by omega
  have hmi0 : (0 : Int) ≤ (m : Int) := by omega
  have hf' : ∀ w, Calls Try.prog 52 #[.agg #[.int .i64 d0, .int .i64 d1, .int .i64 d2], .agg j.x.arr] w fun e w' => e = .returned (.tuple #[.bool (fitsV d0 d1 d2 j.x).1, .int .i64 (fitsV d0 d1 d2 j.x).2]) ∧ Below w.heap.size w w' := fun w => fits_any d0 d1 d2 j.x w
  rw [h3] at hf'
  unfold WV.arr at hf'
  have HF := Lib.hid hf'
  obtain ⟨kb, ko, rfl, hkb, y0, y1, y2, y3⟩ := hk m _ hkm
  have HYK := Lib.hid (And.intro y0 (And.intro y1 (And.intro y2 y3)))
  have HKB := Lib.hid hkb
  have hm3 := mul3 h2.1 h2.2.1 h2.2.2
  have f1 : IntKind.i64.wrap (j.x.a * j.x.b) = j.x.a * j.x.b := IntWalk.i64_in _ (by omega)
  have f2 : IntKind.i64.wrap (j.x.a * j.x.b * j.x.c) = j.x.a * j.x.b * j.x.c := IntWalk.i64_in _ (by omega)
  have HN := Lib.hid (And.intro (And.intro h4 h5) (And.intro f1 f2))
  generalize clsOf ks j.cl = k at *
  rw [hm] at HP HA ⊢
  clear hcl hm hkm hm3 hf' h3 f1 f2 y0 y1 y2 y3 hkb h4 h5
  clear hk hY h0 h1 h2
  go_enter Try.func30, Try.ntmps30
  go_upto_region 1 with fail
  have kc0 : Blk ((w.alloc (.cells #[.int .i64 d0, .int .i64 d1, .int .i64 d2, .int .i64 bo, .int .i64 fr, .int .i64 tr, .int .i64 ag, .slice (some ⟨kb, ko, none⟩) ks.length kc] 26)).alloc (.cells #[.int .i64 j.id, .int .i64 j.us, .int .i64 (m : Int), .int .i64 j.x.a, .int .i64 j.x.b, .int .i64 j.x.c, .bool j.x.p, .bool j.x.q, .bool j.x.r, .bool j.x.tn, .int .i64 j.wa, .int .i64 j.pr, .bool j.he, .slice Y j.af.length cj, .int .u8 j.st, .int .i64 j.ca] 33)) w.heap.size 26 #[.int .i64 d0, .int .i64 d1, .int .i64 d2, .int .i64 bo, .int .i64 fr, .int .i64 tr, .int .i64 ag, .slice (some ⟨kb, ko, none⟩) ks.length kc] := (Blk.new w _ _).alloc _
  have kj0 : Blk ((w.alloc (.cells #[.int .i64 d0, .int .i64 d1, .int .i64 d2, .int .i64 bo, .int .i64 fr, .int .i64 tr, .int .i64 ag, .slice (some ⟨kb, ko, none⟩) ks.length kc] 26)).alloc (.cells #[.int .i64 j.id, .int .i64 j.us, .int .i64 (m : Int), .int .i64 j.x.a, .int .i64 j.x.b, .int .i64 j.x.c, .bool j.x.p, .bool j.x.q, .bool j.x.r, .bool j.x.tn, .int .i64 j.wa, .int .i64 j.pr, .bool j.he, .slice Y j.af.length cj, .int .u8 j.st, .int .i64 j.ca] 33)) (w.heap.size + 1) 33 #[.int .i64 j.id, .int .i64 j.us, .int .i64 (m : Int), .int .i64 j.x.a, .int .i64 j.x.b, .int .i64 j.x.c, .bool j.x.p, .bool j.x.q, .bool j.x.r, .bool j.x.tn, .int .i64 j.wa, .int .i64 j.pr, .bool j.he, .slice Y j.af.length cj, .int .u8 j.st, .int .i64 j.ca] := blk1 w _ _
  have hb0 : Below w.heap.size w ((w.alloc (.cells #[.int .i64 d0, .int .i64 d1, .int .i64 d2, .int .i64 bo, .int .i64 fr, .int .i64 tr, .int .i64 ag, .slice (some ⟨kb, ko, none⟩) ks.length kc] 26)).alloc (.cells #[.int .i64 j.id, .int .i64 j.us, .int .i64 (m : Int), .int .i64 j.x.a, .int .i64 j.x.b, .int .i64 j.x.c, .bool j.x.p, .bool j.x.q, .bool j.x.r, .bool j.x.tn, .int .i64 j.wa, .int .i64 j.pr, .bool j.he, .slice Y j.af.length cj, .int .u8 j.st, .int .i64 j.ca] 33)) := below_alloc (below_alloc (Below.refl _ _))
  generalize ((w.alloc (.cells #[.int .i64 d0, .int .i64 d1, .int .i64 d2, .int .i64 bo, .int .i64 fr, .int .i64 tr, .int .i64 ag, .slice (some ⟨kb, ko, none⟩) ks.length kc] 26)).alloc (.cells #[.int .i64 j.id, .int .i64 j.us, .int .i64 (m : Int), .int .i64 j.x.a, .int .i64 j.x.b, .int .i64 j.x.c, .bool j.x.p, .bool j.x.q, .bool j.x.r, .bool j.x.tn, .int .i64 j.wa, .int .i64 j.pr, .bool j.he, .slice Y j.af.length cj, .int .u8 j.st, .int .i64 j.ca] 33)) = w0 at *
  have HB0 := Lib.hid hb0
  have KC0 := Lib.hid kc0
  have KJ0 := Lib.hid kj0
  clear hb0 kc0 kj0
  go_wp2_with (first | (refine wpList_load_row rfl 26 _ rfl _ rfl 26 #[.int .i64 d0, .int .i64 d1, .int .i64 d2, .int .i64 bo, .int .i64 fr, .int .i64 tr, .int .i64 ag, .slice (some ⟨kb, ko, none⟩) ks.length kc] (0, 0) _ KC0.out Try.underlying26 rfl (by kernel_rfl) ?_) | (refine wpList_load_row rfl 33 _ rfl _ rfl 33 #[.int .i64 j.id, .int .i64 j.us, .int .i64 (m : Int), .int .i64 j.x.a, .int .i64 j.x.b, .int .i64 j.x.c, .bool j.x.p, .bool j.x.q, .bool j.x.r, .bool j.x.tn, .int .i64 j.wa, .int .i64 j.pr, .bool j.he, .slice Y j.af.length cj, .int .u8 j.st, .int .i64 j.ca] (0, 0) _ KJ0.out Try.underlying33 rfl (by kernel_rfl) ?_))
  refine (HP.out _).mono ?_
  rintro e w1 ⟨rfl, hB1⟩
  have HB1 := Lib.hid (below_up HB0.out hB1)
  have KC1 := Lib.hid (KC0.out.below hB1 KC0.out.lt)
  have KJ1 := Lib.hid (KJ0.out.below hB1 KJ0.out.lt)
  clear hB1 KC0 KJ0
  go_wp2_with (first | (refine wpList_load_row rfl 33 _ rfl _ rfl 33 #[.int .i64 j.id, .int .i64 j.us, .int .i64 (m : Int), .int .i64 j.x.a, .int .i64 j.x.b, .int .i64 j.x.c, .bool j.x.p, .bool j.x.q, .bool j.x.r, .bool j.x.tn, .int .i64 j.wa, .int .i64 j.pr, .bool j.he, .slice Y j.af.length cj, .int .u8 j.st, .int .i64 j.ca] (0, 0) _ KJ1.out Try.underlying33 rfl (by kernel_rfl) ?_))
  refine (HA.out _ (HY.out.up HB1.out)).mono ?_
  rintro e w2 ⟨rfl, hB2⟩
  have HB2 := Lib.hid (below_up HB1.out hB2)
  have KC2 := Lib.hid (KC1.out.below hB2 KC1.out.lt)
  have KJ2 := Lib.hid (KJ1.out.below hB2 KJ1.out.lt)
  clear hB2 KC1 KJ1
  have x3 : w2.cell? ⟨w.heap.size + 1, 3, none⟩ = some (.int .i64 j.x.a) := KJ2.out.cell 3
  have x4 : w2.cell? ⟨w.heap.size + 1, 4, none⟩ = some (.int .i64 j.x.b) := KJ2.out.cell 4
  have x5 : w2.cell? ⟨w.heap.size + 1, 5, none⟩ = some (.int .i64 j.x.c) := KJ2.out.cell 5
  have x6 : w2.cell? ⟨w.heap.size + 1, 6, none⟩ = some (.bool j.x.p) := KJ2.out.cell 6
  have x7 : w2.cell? ⟨w.heap.size + 1, 7, none⟩ = some (.bool j.x.q) := KJ2.out.cell 7
  have x8 : w2.cell? ⟨w.heap.size + 1, 8, none⟩ = some (.bool j.x.r) := KJ2.out.cell 8
  have x9 : w2.cell? ⟨w.heap.size + 1, 9, none⟩ = some (.bool j.x.tn) := KJ2.out.cell 9
  go_wp2_with (first | fail)
  refine (wcheck_ok _ _ _ _ _ _ _ H2.out _).mono ?_
  rintro e w3 ⟨rfl, hB3⟩
  have HB3 := Lib.hid (below_up HB2.out hB3)
  have KC3 := Lib.hid (KC2.out.below hB3 KC2.out.lt)
  have KJ3 := Lib.hid (KJ2.out.below hB3 KJ2.out.lt)
  clear hB3 KC2 KJ2
  clear x3 x4 x5 x6 x7 x8 x9
  have x2 : w3.cell? ⟨w.heap.size + 1, 2, none⟩ = some (.int .i64 (m : Int)) := KJ3.out.cell 2
  have x3 : w3.cell? ⟨w.heap.size + 1, 3, none⟩ = some (.int .i64 j.x.a) := KJ3.out.cell 3
  have x4 : w3.cell? ⟨w.heap.size + 1, 4, none⟩ = some (.int .i64 j.x.b) := KJ3.out.cell 4
  have x5 : w3.cell? ⟨w.heap.size + 1, 5, none⟩ = some (.int .i64 j.x.c) := KJ3.out.cell 5
  have xk : w3.cell? ⟨w.heap.size, 7, none⟩ = some (.slice (some ⟨kb, ko, none⟩) ks.length kc) := KC3.out.cell 7
  have y0 : w3.cell? ⟨kb, ko + m * 4, none⟩ = some (.int .i64 k.1) := (HB3.out.cell (p := ⟨kb, ko + m * 4, none⟩) HKB.out).trans HYK.out.1
  have y1 : w3.cell? ⟨kb, ko + m * 4 + 1, none⟩ = some (.int .i64 k.2.1) := (HB3.out.cell (p := ⟨kb, ko + m * 4 + 1, none⟩) HKB.out).trans HYK.out.2.1
  have y2 : w3.cell? ⟨kb, ko + m * 4 + 2, none⟩ = some (.int .i64 k.2.2.1) := (HB3.out.cell (p := ⟨kb, ko + m * 4 + 2, none⟩) HKB.out).trans HYK.out.2.2.1
  have y3 : w3.cell? ⟨kb, ko + m * 4 + 3, none⟩ = some (.int .i64 k.2.2.2) := (HB3.out.cell (p := ⟨kb, ko + m * 4 + 3, none⟩) HKB.out).trans HYK.out.2.2.2
  go_upto_region 7 with fail
  go_cut [5, 6] (fun s5 s6 wx => ∃ g5 g6 : Nat, s5 = .pointer (some ⟨g5, 0, none⟩) ∧ s6 = .pointer (some ⟨g6, 0, none⟩) ∧ Hid (Below w3.heap.size w3 wx) ∧ Hid (Blk wx g5 22 #[.int .i64 j.x.a, .int .i64 j.x.b, .int .i64 j.x.c]) ∧ Hid (Blk wx g6 56 #[.int .i64 k.1, .int .i64 k.2.1, .int .i64 k.2.2.1, .int .i64 k.2.2.2]))
  case first =>
    clear HP HA HY H2 HF HN HB0 HB1 HB2 HB3 KC3 KJ3
    have K00 : KeptL w3 [(⟨w.heap.size + 1, 2, none⟩, .int .i64 (m : Int)), (⟨w.heap.size + 1, 3, none⟩, .int .i64 j.x.a), (⟨w.heap.size + 1, 4, none⟩, .int .i64 j.x.b), (⟨w.heap.size + 1, 5, none⟩, .int .i64 j.x.c), (⟨w.heap.size, 7, none⟩, .slice (some ⟨kb, ko, none⟩) ks.length kc), (⟨kb, ko + m * 4, none⟩, .int .i64 k.1), (⟨kb, ko + m * 4 + 1, none⟩, .int .i64 k.2.1), (⟨kb, ko + m * 4 + 2, none⟩, .int .i64 k.2.2.1), (⟨kb, ko + m * 4 + 3, none⟩, .int .i64 k.2.2.2)] w3 := ⟨Below.refl _ _, x2, x3, x4, x5, xk, y0, y1, y2, y3⟩
    have K0 := K00.drew
    go_region_held3 (fun W => Below w3.heap.size w3 W ∧ W.cell? ⟨w.heap.size + 1, 2, none⟩ = some (.int .i64 (m : Int)) ∧ W.cell? ⟨w.heap.size + 1, 3, none⟩ = some (.int .i64 j.x.a) ∧ W.cell? ⟨w.heap.size + 1, 4, none⟩ = some (.int .i64 j.x.b) ∧ W.cell? ⟨w.heap.size + 1, 5, none⟩ = some (.int .i64 j.x.c) ∧ W.cell? ⟨w.heap.size, 7, none⟩ = some (.slice (some ⟨kb, ko, none⟩) ks.length kc) ∧ W.cell? ⟨kb, ko + m * 4, none⟩ = some (.int .i64 k.1) ∧ W.cell? ⟨kb, ko + m * 4 + 1, none⟩ = some (.int .i64 k.2.1) ∧ W.cell? ⟨kb, ko + m * 4 + 2, none⟩ = some (.int .i64 k.2.2.1) ∧ W.cell? ⟨kb, ko + m * 4 + 3, none⟩ = some (.int .i64 k.2.2.2)) (first | exact K0 | exact (K00.alloc _).drew | exact ((K00.alloc _).alloc _).drew | exact K0.alloc _ | exact (K0.alloc _).alloc _) (first | fail)
    all_goals
      go_wp2_with fail
      go_meet
      first
        | exact ⟨_, _, rfl, rfl, (below_alloc (below_alloc (Below.refl _ _))).drew, ((Blk.new w3 _ _).alloc _).drew, (blk1 w3 _ _).drew⟩
        | exact ⟨_, _, rfl, rfl, (below_alloc (below_alloc (Below.refl _ _))).drew, (blk1 w3 _ _).drew, ((Blk.new w3 _ _).alloc _).drew⟩
  case rest =>
    obtain ⟨g5, g6, rfl, rfl, hBx, h5, h6⟩ := hcut
    clear x2 x3 x4 x5 xk y0 y1 y2 y3
    have HBX := Lib.hid (below_up HB3.out hBx.out)
    have KCX := Lib.hid (KC3.out.below hBx.out KC3.out.lt)
    have KJX := Lib.hid (KJ3.out.below hBx.out KJ3.out.lt)
    clear hBx KC3 KJ3 HB3
    have e0 : wc.cell? ⟨w.heap.size, 0, none⟩ = some (.int .i64 d0) := KCX.out.cell 0
    have e1 : wc.cell? ⟨w.heap.size, 1, none⟩ = some (.int .i64 d1) := KCX.out.cell 1
    have e2 : wc.cell? ⟨w.heap.size, 2, none⟩ = some (.int .i64 d2) := KCX.out.cell 2
    have x3 : wc.cell? ⟨w.heap.size + 1, 3, none⟩ = some (.int .i64 j.x.a) := KJX.out.cell 3
    have x4 : wc.cell? ⟨w.heap.size + 1, 4, none⟩ = some (.int .i64 j.x.b) := KJX.out.cell 4
    have x5 : wc.cell? ⟨w.heap.size + 1, 5, none⟩ = some (.int .i64 j.x.c) := KJX.out.cell 5
    have x6 : wc.cell? ⟨w.heap.size + 1, 6, none⟩ = some (.bool j.x.p) := KJX.out.cell 6
    have x7 : wc.cell? ⟨w.heap.size + 1, 7, none⟩ = some (.bool j.x.q) := KJX.out.cell 7
    have x8 : wc.cell? ⟨w.heap.size + 1, 8, none⟩ = some (.bool j.x.r) := KJX.out.cell 8
    have x9 : wc.cell? ⟨w.heap.size + 1, 9, none⟩ = some (.bool j.x.tn) := KJX.out.cell 9
    go_wp2_with fail
    refine (HF.out _).mono ?_
    rintro e w5 ⟨rfl, hB5⟩
    clear e0 e1 e2 x3 x4 x5 x6 x7 x8 x9
    have HB5 := Lib.hid (below_up HBX.out hB5)
    have KJ5 := Lib.hid (KJX.out.below hB5 KJX.out.lt)
    have H5 := Lib.hid (h5.out.below hB5 h5.out.lt)
    have H6 := Lib.hid (h6.out.below hB5 h6.out.lt)
    clear hB5 KCX KJX HBX h5 h6
    have x10 : w5.cell? ⟨w.heap.size + 1, 10, none⟩ = some (.int .i64 j.wa) := KJ5.out.cell 10
    have k1 : w5.cell? ⟨g6, 1, none⟩ = some (.int .i64 k.2.1) := H6.out.cell 1
    have k2 : w5.cell? ⟨g6, 2, none⟩ = some (.int .i64 k.2.2.1) := H6.out.cell 2
    have s0 : w5.cell? ⟨g5, 0, none⟩ = some (.int .i64 j.x.a) := H5.out.cell 0
    have s1 : w5.cell? ⟨g5, 1, none⟩ = some (.int .i64 j.x.b) := H5.out.cell 1
    have s2 : w5.cell? ⟨g5, 2, none⟩ = some (.int .i64 j.x.c) := H5.out.cell 2
    have h4 := HN.out.1.1
    have h5 := HN.out.1.2
    have f1 := HN.out.2.1
    have f2 := HN.out.2.2
    go_wp2_with fail
    go_ret
    exact ⟨rfl, HB5.out⟩
set_option maxRecDepth 100000 in
set_option maxHeartbeats 4000000 in
theorem ck_ok (d0 d1 d2 bo fr tr ag : Int) (K : Option Addr) (kc : Nat) (ks : List Cls) (j : JV) (Y : Option Addr) (cj : Nat) (hl : ks.length ≤ 4611686018427387904) (hla : j.af.length ≤ 4611686018427387904) (h0 : plainB ks.length j = true) (h1 : afterB j = true) (h2 : WOk j.x) (h3 : (fitsV d0 d1 d2 j.x).1 = true) (h4 : j.wa ≤ (clsOf ks j.cl).2.1) (h5 : j.x.a * j.x.b * j.x.c ≤ (clsOf ks j.cl).2.2.1) (w : World) (hk : ClsAt w w.heap.size K ks) (hY : IntsAt w Y j.af) :
    Calls Try.prog 30 #[.agg #[.int .i64 d0, .int .i64 d1, .int .i64 d2, .int .i64 bo, .int .i64 fr, .int .i64 tr, .int .i64 ag, .slice K ks.length kc], .agg #[.int .i64 j.id, .int .i64 j.us, .int .i64 j.cl, .int .i64 j.x.a, .int .i64 j.x.b, .int .i64 j.x.c, .bool j.x.p, .bool j.x.q, .bool j.x.r, .bool j.x.tn, .int .i64 j.wa, .int .i64 j.pr, .bool j.he, .slice Y j.af.length cj, .int .u8 j.st, .int .i64 j.ca]] w fun e w' => e = .returned (.int .i64 0) ∧ Below w.heap.size w w' := by
  have HP := Lib.hid (fun w => jplain d0 d1 d2 bo fr tr ag K kc ks j Y cj hl _ h0 w)
  have HA := Lib.hid (fun w hY => jafter j Y cj hla _ h1 w hY)
  have HY := Lib.hid hY
  have H2 := Lib.hid h2
  have hcl := plain_cl h0
  obtain ⟨m, hm, hmk, hkm⟩ := cls_at hcl.1 hcl.2
  have hmi : (m : Int) < (ks.length : Int) := by omega
  have hmi0 : (0 : Int) ≤ (m : Int) := by omega
  have hf' : ∀ w, Calls Try.prog 52 #[.agg #[.int .i64 d0, .int .i64 d1, .int .i64 d2], .agg j.x.arr] w fun e w' => e = .returned (.tuple #[.bool (fitsV d0 d1 d2 j.x).1, .int .i64 (fitsV d0 d1 d2 j.x).2]) ∧ Below w.heap.size w w' := fun w => fits_any d0 d1 d2 j.x w
  rw [h3] at hf'
  unfold WV.arr at hf'
  have HF := Lib.hid hf'
  obtain ⟨kb, ko, rfl, hkb, y0, y1, y2, y3⟩ := hk m _ hkm
  have HYK := Lib.hid (And.intro y0 (And.intro y1 (And.intro y2 y3)))
  have HKB := Lib.hid hkb
  have hm3 := mul3 h2.1 h2.2.1 h2.2.2
  have f1 : IntKind.i64.wrap (j.x.a * j.x.b) = j.x.a * j.x.b := IntWalk.i64_in _ (by omega)
  have f2 : IntKind.i64.wrap (j.x.a * j.x.b * j.x.c) = j.x.a * j.x.b * j.x.c := IntWalk.i64_in _ (by omega)
  have HN := Lib.hid (And.intro (And.intro h4 h5) (And.intro f1 f2))
  generalize clsOf ks j.cl = k at *
  rw [hm] at HP HA ⊢
  clear hcl hm hkm hm3 hf' h3 f1 f2 y0 y1 y2 y3 hkb h4 h5
  clear hk hY h0 h1 h2
  go_enter Try.func30, Try.ntmps30
  go_upto_region 1 with fail
  have kc0 : Blk ((w.alloc (.cells #[.int .i64 d0, .int .i64 d1, .int .i64 d2, .int .i64 bo, .int .i64 fr, .int .i64 tr, .int .i64 ag, .slice (some ⟨kb, ko, none⟩) ks.length kc] 26)).alloc (.cells #[.int .i64 j.id, .int .i64 j.us, .int .i64 (m : Int), .int .i64 j.x.a, .int .i64 j.x.b, .int .i64 j.x.c, .bool j.x.p, .bool j.x.q, .bool j.x.r, .bool j.x.tn, .int .i64 j.wa, .int .i64 j.pr, .bool j.he, .slice Y j.af.length cj, .int .u8 j.st, .int .i64 j.ca] 33)) w.heap.size 26 #[.int .i64 d0, .int .i64 d1, .int .i64 d2, .int .i64 bo, .int .i64 fr, .int .i64 tr, .int .i64 ag, .slice (some ⟨kb, ko, none⟩) ks.length kc] := (Blk.new w _ _).alloc _
  have kj0 : Blk ((w.alloc (.cells #[.int .i64 d0, .int .i64 d1, .int .i64 d2, .int .i64 bo, .int .i64 fr, .int .i64 tr, .int .i64 ag, .slice (some ⟨kb, ko, none⟩) ks.length kc] 26)).alloc (.cells #[.int .i64 j.id, .int .i64 j.us, .int .i64 (m : Int), .int .i64 j.x.a, .int .i64 j.x.b, .int .i64 j.x.c, .bool j.x.p, .bool j.x.q, .bool j.x.r, .bool j.x.tn, .int .i64 j.wa, .int .i64 j.pr, .bool j.he, .slice Y j.af.length cj, .int .u8 j.st, .int .i64 j.ca] 33)) (w.heap.size + 1) 33 #[.int .i64 j.id, .int .i64 j.us, .int .i64 (m : Int), .int .i64 j.x.a, .int .i64 j.x.b, .int .i64 j.x.c, .bool j.x.p, .bool j.x.q, .bool j.x.r, .bool j.x.tn, .int .i64 j.wa, .int .i64 j.pr, .bool j.he, .slice Y j.af.length cj, .int .u8 j.st, .int .i64 j.ca] := blk1 w _ _
  have hb0 : Below w.heap.size w ((w.alloc (.cells #[.int .i64 d0, .int .i64 d1, .int .i64 d2, .int .i64 bo, .int .i64 fr, .int .i64 tr, .int .i64 ag, .slice (some ⟨kb, ko, none⟩) ks.length kc] 26)).alloc (.cells #[.int .i64 j.id, .int .i64 j.us, .int .i64 (m : Int), .int .i64 j.x.a, .int .i64 j.x.b, .int .i64 j.x.c, .bool j.x.p, .bool j.x.q, .bool j.x.r, .bool j.x.tn, .int .i64 j.wa, .int .i64 j.pr, .bool j.he, .slice Y j.af.length cj, .int .u8 j.st, .int .i64 j.ca] 33)) := below_alloc (below_alloc (Below.refl _ _))
  generalize ((w.alloc (.cells #[.int .i64 d0, .int .i64 d1, .int .i64 d2, .int .i64 bo, .int .i64 fr, .int .i64 tr, .int .i64 ag, .slice (some ⟨kb, ko, none⟩) ks.length kc] 26)).alloc (.cells #[.int .i64 j.id, .int .i64 j.us, .int .i64 (m : Int), .int .i64 j.x.a, .int .i64 j.x.b, .int .i64 j.x.c, .bool j.x.p, .bool j.x.q, .bool j.x.r, .bool j.x.tn, .int .i64 j.wa, .int .i64 j.pr, .bool j.he, .slice Y j.af.length cj, .int .u8 j.st, .int .i64 j.ca] 33)) = w0 at *
  have HB0 := Lib.hid hb0
  have KC0 := Lib.hid kc0
  have KJ0 := Lib.hid kj0
  clear hb0 kc0 kj0
  go_wp2_with (first | (refine wpList_load_row rfl 26 _ rfl _ rfl 26 #[.int .i64 d0, .int .i64 d1, .int .i64 d2, .int .i64 bo, .int .i64 fr, .int .i64 tr, .int .i64 ag, .slice (some ⟨kb, ko, none⟩) ks.length kc] (0, 0) _ KC0.out Try.underlying26 rfl (by kernel_rfl) ?_) | (refine wpList_load_row rfl 33 _ rfl _ rfl 33 #[.int .i64 j.id, .int .i64 j.us, .int .i64 (m : Int), .int .i64 j.x.a, .int .i64 j.x.b, .int .i64 j.x.c, .bool j.x.p, .bool j.x.q, .bool j.x.r, .bool j.x.tn, .int .i64 j.wa, .int .i64 j.pr, .bool j.he, .slice Y j.af.length cj, .int .u8 j.st, .int .i64 j.ca] (0, 0) _ KJ0.out Try.underlying33 rfl (by kernel_rfl) ?_))
  refine (HP.out _).mono ?_
  rintro e w1 ⟨rfl, hB1⟩
  have HB1 := Lib.hid (below_up HB0.out hB1)
  have KC1 := Lib.hid (KC0.out.below hB1 KC0.out.lt)
  have KJ1 := Lib.hid (KJ0.out.below hB1 KJ0.out.lt)
  clear hB1 KC0 KJ0
  go_wp2_with (first | (refine wpList_load_row rfl 33 _ rfl _ rfl 33 #[.int .i64 j.id, .int .i64 j.us, .int .i64 (m : Int), .int .i64 j.x.a, .int .i64 j.x.b, .int .i64 j.x.c, .bool j.x.p, .bool j.x.q, .bool j.x.r, .bool j.x.tn, .int .i64 j.wa, .int .i64 j.pr, .bool j.he, .slice Y j.af.length cj, .int .u8 j.st, .int .i64 j.ca] (0, 0) _ KJ1.out Try.underlying33 rfl (by kernel_rfl) ?_))
  refine (HA.out _ (HY.out.up HB1.out)).mono ?_
  rintro e w2 ⟨rfl, hB2⟩
  have HB2 := Lib.hid (below_up HB1.out hB2)
  have KC2 := Lib.hid (KC1.out.below hB2 KC1.out.lt)
  have KJ2 := Lib.hid (KJ1.out.below hB2 KJ1.out.lt)
  clear hB2 KC1 KJ1
  have x3 : w2.cell? ⟨w.heap.size + 1, 3, none⟩ = some (.int .i64 j.x.a) := KJ2.out.cell 3
  have x4 : w2.cell? ⟨w.heap.size + 1, 4, none⟩ = some (.int .i64 j.x.b) := KJ2.out.cell 4
  have x5 : w2.cell? ⟨w.heap.size + 1, 5, none⟩ = some (.int .i64 j.x.c) := KJ2.out.cell 5
  have x6 : w2.cell? ⟨w.heap.size + 1, 6, none⟩ = some (.bool j.x.p) := KJ2.out.cell 6
  have x7 : w2.cell? ⟨w.heap.size + 1, 7, none⟩ = some (.bool j.x.q) := KJ2.out.cell 7
  have x8 : w2.cell? ⟨w.heap.size + 1, 8, none⟩ = some (.bool j.x.r) := KJ2.out.cell 8
  have x9 : w2.cell? ⟨w.heap.size + 1, 9, none⟩ = some (.bool j.x.tn) := KJ2.out.cell 9
  go_wp2_with (first | fail)
  refine (wcheck_ok _ _ _ _ _ _ _ H2.out _).mono ?_
  rintro e w3 ⟨rfl, hB3⟩
  have HB3 := Lib.hid (below_up HB2.out hB3)
  have KC3 := Lib.hid (KC2.out.below hB3 KC2.out.lt)
  have KJ3 := Lib.hid (KJ2.out.below hB3 KJ2.out.lt)
  clear hB3 KC2 KJ2
  clear x3 x4 x5 x6 x7 x8 x9
  have x2 : w3.cell? ⟨w.heap.size + 1, 2, none⟩ = some (.int .i64 (m : Int)) := KJ3.out.cell 2
  have x3 : w3.cell? ⟨w.heap.size + 1, 3, none⟩ = some (.int .i64 j.x.a) := KJ3.out.cell 3
  have x4 : w3.cell? ⟨w.heap.size + 1, 4, none⟩ = some (.int .i64 j.x.b) := KJ3.out.cell 4
  have x5 : w3.cell? ⟨w.heap.size + 1, 5, none⟩ = some (.int .i64 j.x.c) := KJ3.out.cell 5
  have xk : w3.cell? ⟨w.heap.size, 7, none⟩ = some (.slice (some ⟨kb, ko, none⟩) ks.length kc) := KC3.out.cell 7
  have y0 : w3.cell? ⟨kb, ko + m * 4, none⟩ = some (.int .i64 k.1) := (HB3.out.cell (p := ⟨kb, ko + m * 4, none⟩) HKB.out).trans HYK.out.1
  have y1 : w3.cell? ⟨kb, ko + m * 4 + 1, none⟩ = some (.int .i64 k.2.1) := (HB3.out.cell (p := ⟨kb, ko + m * 4 + 1, none⟩) HKB.out).trans HYK.out.2.1
  have y2 : w3.cell? ⟨kb, ko + m * 4 + 2, none⟩ = some (.int .i64 k.2.2.1) := (HB3.out.cell (p := ⟨kb, ko + m * 4 + 2, none⟩) HKB.out).trans HYK.out.2.2.1
  have y3 : w3.cell? ⟨kb, ko + m * 4 + 3, none⟩ = some (.int .i64 k.2.2.2) := (HB3.out.cell (p := ⟨kb, ko + m * 4 + 3, none⟩) HKB.out).trans HYK.out.2.2.2
  go_upto_region 7 with fail
  go_cut [5, 6] (fun s5 s6 wx => ∃ g5 g6 : Nat, s5 = .pointer (some ⟨g5, 0, none⟩) ∧ s6 = .pointer (some ⟨g6, 0, none⟩) ∧ Hid (Below w3.heap.size w3 wx) ∧ Hid (Blk wx g5 22 #[.int .i64 j.x.a, .int .i64 j.x.b, .int .i64 j.x.c]) ∧ Hid (Blk wx g6 56 #[.int .i64 k.1, .int .i64 k.2.1, .int .i64 k.2.2.1, .int .i64 k.2.2.2]))
  case first =>
    clear HP HA HY H2 HF HN HB0 HB1 HB2 HB3 KC3 KJ3
    have K00 : KeptL w3 [(⟨w.heap.size + 1, 2, none⟩, .int .i64 (m : Int)), (⟨w.heap.size + 1, 3, none⟩, .int .i64 j.x.a), (⟨w.heap.size + 1, 4, none⟩, .int .i64 j.x.b), (⟨w.heap.size + 1, 5, none⟩, .int .i64 j.x.c), (⟨w.heap.size, 7, none⟩, .slice (some ⟨kb, ko, none⟩) ks.length kc), (⟨kb, ko + m * 4, none⟩, .int .i64 k.1), (⟨kb, ko + m * 4 + 1, none⟩, .int .i64 k.2.1), (⟨kb, ko + m * 4 + 2, none⟩, .int .i64 k.2.2.1), (⟨kb, ko + m * 4 + 3, none⟩, .int .i64 k.2.2.2)] w3 := ⟨Below.refl _ _, x2, x3, x4, x5, xk, y0, y1, y2, y3⟩
    have K0 := K00.drew
    go_region_held3 (fun W => Below w3.heap.size w3 W ∧ W.cell? ⟨w.heap.size + 1, 2, none⟩ = some (.int .i64 (m : Int)) ∧ W.cell? ⟨w.heap.size + 1, 3, none⟩ = some (.int .i64 j.x.a) ∧ W.cell? ⟨w.heap.size + 1, 4, none⟩ = some (.int .i64 j.x.b) ∧ W.cell? ⟨w.heap.size + 1, 5, none⟩ = some (.int .i64 j.x.c) ∧ W.cell? ⟨w.heap.size, 7, none⟩ = some (.slice (some ⟨kb, ko, none⟩) ks.length kc) ∧ W.cell? ⟨kb, ko + m * 4, none⟩ = some (.int .i64 k.1) ∧ W.cell? ⟨kb, ko + m * 4 + 1, none⟩ = some (.int .i64 k.2.1) ∧ W.cell? ⟨kb, ko + m * 4 + 2, none⟩ = some (.int .i64 k.2.2.1) ∧ W.cell? ⟨kb, ko + m * 4 + 3, none⟩ = some (.int .i64 k.2.2.2)) (first | exact K0 | exact (K00.alloc _).drew | exact ((K00.alloc _).alloc _).drew | exact K0.alloc _ | exact (K0.alloc _).alloc _) (first | fail)
    all_goals
      go_wp2_with fail
      go_meet
      first
        | exact ⟨_, _, rfl, rfl, (below_alloc (below_alloc (Below.refl _ _))).drew, ((Blk.new w3 _ _).alloc _).drew, (blk1 w3 _ _).drew⟩
        | exact ⟨_, _, rfl, rfl, (below_alloc (below_alloc (Below.refl _ _))).drew, (blk1 w3 _ _).drew, ((Blk.new w3 _ _).alloc _).drew⟩
  case rest =>
    obtain ⟨g5, g6, rfl, rfl, hBx, h5, h6⟩ := hcut
    clear x2 x3 x4 x5 xk y0 y1 y2 y3
    have HBX := Lib.hid (below_up HB3.out hBx.out)
    have KCX := Lib.hid (KC3.out.below hBx.out KC3.out.lt)
    have KJX := Lib.hid (KJ3.out.below hBx.out KJ3.out.lt)
    clear hBx KC3 KJ3 HB3
    have e0 : wc.cell? ⟨w.heap.size, 0, none⟩ = some (.int .i64 d0) := KCX.out.cell 0
    have e1 : wc.cell? ⟨w.heap.size, 1, none⟩ = some (.int .i64 d1) := KCX.out.cell 1
    have e2 : wc.cell? ⟨w.heap.size, 2, none⟩ = some (.int .i64 d2) := KCX.out.cell 2
    have x3 : wc.cell? ⟨w.heap.size + 1, 3, none⟩ = some (.int .i64 j.x.a) := KJX.out.cell 3
    have x4 : wc.cell? ⟨w.heap.size + 1, 4, none⟩ = some (.int .i64 j.x.b) := KJX.out.cell 4
    have x5 : wc.cell? ⟨w.heap.size + 1, 5, none⟩ = some (.int .i64 j.x.c) := KJX.out.cell 5
    have x6 : wc.cell? ⟨w.heap.size + 1, 6, none⟩ = some (.bool j.x.p) := KJX.out.cell 6
    have x7 : wc.cell? ⟨w.heap.size + 1, 7, none⟩ = some (.bool j.x.q) := KJX.out.cell 7
    have x8 : wc.cell? ⟨w.heap.size + 1, 8, none⟩ = some (.bool j.x.r) := KJX.out.cell 8
    have x9 : wc.cell? ⟨w.heap.size + 1, 9, none⟩ = some (.bool j.x.tn) := KJX.out.cell 9
    go_wp2_with fail
    refine (HF.out _).mono ?_
    rintro e w5 ⟨rfl, hB5⟩
    clear e0 e1 e2 x3 x4 x5 x6 x7 x8 x9
    have HB5 := Lib.hid (below_up HBX.out hB5)
    have KJ5 := Lib.hid (KJX.out.below hB5 KJX.out.lt)
    have H5 := Lib.hid (h5.out.below hB5 h5.out.lt)
    have H6 := Lib.hid (h6.out.below hB5 h6.out.lt)
    clear hB5 KCX KJX HBX h5 h6
    have x10 : w5.cell? ⟨w.heap.size + 1, 10, none⟩ = some (.int .i64 j.wa) := KJ5.out.cell 10
    have k1 : w5.cell? ⟨g6, 1, none⟩ = some (.int .i64 k.2.1) := H6.out.cell 1
    have k2 : w5.cell? ⟨g6, 2, none⟩ = some (.int .i64 k.2.2.1) := H6.out.cell 2
    have s0 : w5.cell? ⟨g5, 0, none⟩ = some (.int .i64 j.x.a) := H5.out.cell 0
    have s1 : w5.cell? ⟨g5, 1, none⟩ = some (.int .i64 j.x.b) := H5.out.cell 1
    have s2 : w5.cell? ⟨g5, 2, none⟩ = some (.int .i64 j.x.c) := H5.out.cell 2
    have h4 := HN.out.1.1
    have h5 := HN.out.1.2
    have f1 := HN.out.2.1
    have f2 := HN.out.2.2
    go_wp2_with fail
    go_ret
    exact ⟨rfl, HB5.out⟩
/-- job.check: for all configs and jobs. -/
theorem jcheck (d0 d1 d2 bo fr tr ag : Int) (K : Option Addr) (kc : Nat) (ks : List Cls) (j : JV) (Y : Option Addr) (cj : Nat) (hl : ks.length ≤ 4611686018427387904) (hla : j.af.length ≤ 4611686018427387904) (w : World) (hk : ClsAt w w.heap.size K ks) (hY : IntsAt w Y j.af) :
    Calls Try.prog 30 #[.agg #[.int .i64 d0, .int .i64 d1, .int .i64 d2, .int .i64 bo, .int .i64 fr, .int .i64 tr, .int .i64 ag, .slice K ks.length kc], .agg #[.int .i64 j.id, .int .i64 j.us, .int .i64 j.cl, .int .i64 j.x.a, .int .i64 j.x.b, .int .i64 j.x.c, .bool j.x.p, .bool j.x.q, .bool j.x.r, .bool j.x.tn, .int .i64 j.wa, .int .i64 j.pr, .bool j.he, .slice Y j.af.length cj, .int .u8 j.st, .int .i64 j.ca]] w fun e w' => e = .returned (.int .i64 (checkV d0 d1 d2 ks j)) ∧ Below w.heap.size w w' := by
  unfold checkV
  cases h0 : plainB ks.length j
  · rw [if_pos rfl]; exact ck_plain d0 d1 d2 bo fr tr ag K kc ks j Y cj hl hla h0 w hk hY
  · rw [if_neg (by simp)]
    cases h1 : afterB j
    · rw [if_pos rfl]; exact ck_after d0 d1 d2 bo fr tr ag K kc ks j Y cj hl hla h0 h1 w hk hY
    · rw [if_neg (by simp)]
      by_cases h2 : WOk j.x
      · rw [if_neg (fun h => h h2)]
        cases h3 : (fitsV d0 d1 d2 j.x).1
        · rw [if_pos rfl]; exact ck_shape d0 d1 d2 bo fr tr ag K kc ks j Y cj hl hla h0 h1 h2 h3 w hk hY
        · rw [if_neg (by simp)]
          unfold limB
          by_cases h4 : j.wa ≤ (clsOf ks j.cl).2.1
          · by_cases h5 : j.x.a * j.x.b * j.x.c ≤ (clsOf ks j.cl).2.2.1
            · rw [if_neg (by simp [h4, h5])]; exact ck_ok d0 d1 d2 bo fr tr ag K kc ks j Y cj hl hla h0 h1 h2 h3 h4 h5 w hk hY
            · rw [if_pos (by simp [h5])]; exact ck_nodes d0 d1 d2 bo fr tr ag K kc ks j Y cj hl hla h0 h1 h2 h3 h4 h5 w hk hY
          · rw [if_pos (by simp [h4])]; exact ck_wall d0 d1 d2 bo fr tr ag K kc ks j Y cj hl hla h0 h1 h2 h3 h4 w hk hY
      · rw [if_pos h2]; exact ck_wants d0 d1 d2 bo fr tr ag K kc ks j Y cj hl hla h0 h1 h2 w hk hY
/-- What job.Check answers. -/
def CheckV (d0 d1 d2 bo fr tr ag : Int) (ks : List Cls) (j : JV) : Int := if CfgOk d0 d1 d2 bo fr tr ag ks then checkV d0 d1 d2 ks j else 8
set_option maxRecDepth 100000 in
set_option maxHeartbeats 4000000 in
theorem jCheck_bad (d0 d1 d2 bo fr tr ag : Int) (K : Option Addr) (kc : Nat) (ks : List Cls) (j : JV) (Y : Option Addr) (cj : Nat) (hl : ks.length ≤ 4611686018427387904) (hla : j.af.length ≤ 4611686018427387904) (h : ¬ CfgOk d0 d1 d2 bo fr tr ag ks) (w : World) (hk : ClsAt w w.heap.size K ks) (hY : IntsAt w Y j.af) :
    Calls Try.prog 13 #[.agg #[.int .i64 d0, .int .i64 d1, .int .i64 d2, .int .i64 bo, .int .i64 fr, .int .i64 tr, .int .i64 ag, .slice K ks.length kc], .agg #[.int .i64 j.id, .int .i64 j.us, .int .i64 j.cl, .int .i64 j.x.a, .int .i64 j.x.b, .int .i64 j.x.c, .bool j.x.p, .bool j.x.q, .bool j.x.r, .bool j.x.tn, .int .i64 j.wa, .int .i64 j.pr, .bool j.he, .slice Y j.af.length cj, .int .u8 j.st, .int .i64 j.ca]] w fun e w' => e = .returned (.int .i64 8) ∧ Below w.heap.size w w' := by
  have HP := Lib.hid (fun w hk => pcheck_bad d0 d1 d2 bo fr tr ag K kc ks (by omega) h w hk)
  have HC := Lib.hid (fun w hk hY => jcheck d0 d1 d2 bo fr tr ag K kc ks j Y cj hl hla w hk hY)
  have HK := Lib.hid hk
  have HY := Lib.hid hY
  clear hk hY h
  go_enter Try.func13, Try.ntmps13
  go_upto_region 1 with fail
  have kc0 : Blk ((w.alloc (.cells #[.int .i64 d0, .int .i64 d1, .int .i64 d2, .int .i64 bo, .int .i64 fr, .int .i64 tr, .int .i64 ag, .slice K ks.length kc] 26)).alloc (.cells #[.int .i64 j.id, .int .i64 j.us, .int .i64 j.cl, .int .i64 j.x.a, .int .i64 j.x.b, .int .i64 j.x.c, .bool j.x.p, .bool j.x.q, .bool j.x.r, .bool j.x.tn, .int .i64 j.wa, .int .i64 j.pr, .bool j.he, .slice Y j.af.length cj, .int .u8 j.st, .int .i64 j.ca] 33)) w.heap.size 26 #[.int .i64 d0, .int .i64 d1, .int .i64 d2, .int .i64 bo, .int .i64 fr, .int .i64 tr, .int .i64 ag, .slice K ks.length kc] := (Blk.new w _ _).alloc _
  have kj0 : Blk ((w.alloc (.cells #[.int .i64 d0, .int .i64 d1, .int .i64 d2, .int .i64 bo, .int .i64 fr, .int .i64 tr, .int .i64 ag, .slice K ks.length kc] 26)).alloc (.cells #[.int .i64 j.id, .int .i64 j.us, .int .i64 j.cl, .int .i64 j.x.a, .int .i64 j.x.b, .int .i64 j.x.c, .bool j.x.p, .bool j.x.q, .bool j.x.r, .bool j.x.tn, .int .i64 j.wa, .int .i64 j.pr, .bool j.he, .slice Y j.af.length cj, .int .u8 j.st, .int .i64 j.ca] 33)) (w.heap.size + 1) 33 #[.int .i64 j.id, .int .i64 j.us, .int .i64 j.cl, .int .i64 j.x.a, .int .i64 j.x.b, .int .i64 j.x.c, .bool j.x.p, .bool j.x.q, .bool j.x.r, .bool j.x.tn, .int .i64 j.wa, .int .i64 j.pr, .bool j.he, .slice Y j.af.length cj, .int .u8 j.st, .int .i64 j.ca] := blk1 w _ _
  have hb0 : Below w.heap.size w ((w.alloc (.cells #[.int .i64 d0, .int .i64 d1, .int .i64 d2, .int .i64 bo, .int .i64 fr, .int .i64 tr, .int .i64 ag, .slice K ks.length kc] 26)).alloc (.cells #[.int .i64 j.id, .int .i64 j.us, .int .i64 j.cl, .int .i64 j.x.a, .int .i64 j.x.b, .int .i64 j.x.c, .bool j.x.p, .bool j.x.q, .bool j.x.r, .bool j.x.tn, .int .i64 j.wa, .int .i64 j.pr, .bool j.he, .slice Y j.af.length cj, .int .u8 j.st, .int .i64 j.ca] 33)) := below_alloc (below_alloc (Below.refl _ _))
  generalize ((w.alloc (.cells #[.int .i64 d0, .int .i64 d1, .int .i64 d2, .int .i64 bo, .int .i64 fr, .int .i64 tr, .int .i64 ag, .slice K ks.length kc] 26)).alloc (.cells #[.int .i64 j.id, .int .i64 j.us, .int .i64 j.cl, .int .i64 j.x.a, .int .i64 j.x.b, .int .i64 j.x.c, .bool j.x.p, .bool j.x.q, .bool j.x.r, .bool j.x.tn, .int .i64 j.wa, .int .i64 j.pr, .bool j.he, .slice Y j.af.length cj, .int .u8 j.st, .int .i64 j.ca] 33)) = w0 at *
  have HB0 := Lib.hid hb0
  have KC0 := Lib.hid kc0
  have KJ0 := Lib.hid kj0
  clear hb0 kc0 kj0
  go_wp2_with (first | (refine wpList_load_row rfl 26 _ rfl _ rfl 26 #[.int .i64 d0, .int .i64 d1, .int .i64 d2, .int .i64 bo, .int .i64 fr, .int .i64 tr, .int .i64 ag, .slice K ks.length kc] (0, 0) _ KC0.out Try.underlying26 rfl (by kernel_rfl) ?_))
  refine (HP.out _ (HK.out.up HB0.out)).mono ?_
  rintro e w1 ⟨rfl, hB1⟩
  have HB1 := Lib.hid (below_up HB0.out hB1)
  have KC1 := Lib.hid (KC0.out.below hB1 KC0.out.lt)
  have KJ1 := Lib.hid (KJ0.out.below hB1 KJ0.out.lt)
  clear hB1 KC0 KJ0
  go_wp2_with fail
  go_ret
  exact ⟨rfl, HB1.out⟩
set_option maxRecDepth 100000 in
set_option maxHeartbeats 4000000 in
theorem jCheck_ok (d0 d1 d2 bo fr tr ag : Int) (K : Option Addr) (kc : Nat) (ks : List Cls) (j : JV) (Y : Option Addr) (cj : Nat) (hl : ks.length ≤ 4611686018427387904) (hla : j.af.length ≤ 4611686018427387904) (h : CfgOk d0 d1 d2 bo fr tr ag ks) (w : World) (hk : ClsAt w w.heap.size K ks) (hY : IntsAt w Y j.af) :
    Calls Try.prog 13 #[.agg #[.int .i64 d0, .int .i64 d1, .int .i64 d2, .int .i64 bo, .int .i64 fr, .int .i64 tr, .int .i64 ag, .slice K ks.length kc], .agg #[.int .i64 j.id, .int .i64 j.us, .int .i64 j.cl, .int .i64 j.x.a, .int .i64 j.x.b, .int .i64 j.x.c, .bool j.x.p, .bool j.x.q, .bool j.x.r, .bool j.x.tn, .int .i64 j.wa, .int .i64 j.pr, .bool j.he, .slice Y j.af.length cj, .int .u8 j.st, .int .i64 j.ca]] w fun e w' => e = .returned (.int .i64 (checkV d0 d1 d2 ks j)) ∧ Below w.heap.size w w' := by
  have HP := Lib.hid (fun w hk => pcheck_ok d0 d1 d2 bo fr tr ag K kc ks (by omega) h w hk)
  have HC := Lib.hid (fun w hk hY => jcheck d0 d1 d2 bo fr tr ag K kc ks j Y cj hl hla w hk hY)
  have HK := Lib.hid hk
  have HY := Lib.hid hY
  generalize checkV d0 d1 d2 ks j = V at *
  clear hk hY h
  go_enter Try.func13, Try.ntmps13
  go_upto_region 1 with fail
  have kc0 : Blk ((w.alloc (.cells #[.int .i64 d0, .int .i64 d1, .int .i64 d2, .int .i64 bo, .int .i64 fr, .int .i64 tr, .int .i64 ag, .slice K ks.length kc] 26)).alloc (.cells #[.int .i64 j.id, .int .i64 j.us, .int .i64 j.cl, .int .i64 j.x.a, .int .i64 j.x.b, .int .i64 j.x.c, .bool j.x.p, .bool j.x.q, .bool j.x.r, .bool j.x.tn, .int .i64 j.wa, .int .i64 j.pr, .bool j.he, .slice Y j.af.length cj, .int .u8 j.st, .int .i64 j.ca] 33)) w.heap.size 26 #[.int .i64 d0, .int .i64 d1, .int .i64 d2, .int .i64 bo, .int .i64 fr, .int .i64 tr, .int .i64 ag, .slice K ks.length kc] := (Blk.new w _ _).alloc _
  have kj0 : Blk ((w.alloc (.cells #[.int .i64 d0, .int .i64 d1, .int .i64 d2, .int .i64 bo, .int .i64 fr, .int .i64 tr, .int .i64 ag, .slice K ks.length kc] 26)).alloc (.cells #[.int .i64 j.id, .int .i64 j.us, .int .i64 j.cl, .int .i64 j.x.a, .int .i64 j.x.b, .int .i64 j.x.c, .bool j.x.p, .bool j.x.q, .bool j.x.r, .bool j.x.tn, .int .i64 j.wa, .int .i64 j.pr, .bool j.he, .slice Y j.af.length cj, .int .u8 j.st, .int .i64 j.ca] 33)) (w.heap.size + 1) 33 #[.int .i64 j.id, .int .i64 j.us, .int .i64 j.cl, .int .i64 j.x.a, .int .i64 j.x.b, .int .i64 j.x.c, .bool j.x.p, .bool j.x.q, .bool j.x.r, .bool j.x.tn, .int .i64 j.wa, .int .i64 j.pr, .bool j.he, .slice Y j.af.length cj, .int .u8 j.st, .int .i64 j.ca] := blk1 w _ _
  have hb0 : Below w.heap.size w ((w.alloc (.cells #[.int .i64 d0, .int .i64 d1, .int .i64 d2, .int .i64 bo, .int .i64 fr, .int .i64 tr, .int .i64 ag, .slice K ks.length kc] 26)).alloc (.cells #[.int .i64 j.id, .int .i64 j.us, .int .i64 j.cl, .int .i64 j.x.a, .int .i64 j.x.b, .int .i64 j.x.c, .bool j.x.p, .bool j.x.q, .bool j.x.r, .bool j.x.tn, .int .i64 j.wa, .int .i64 j.pr, .bool j.he, .slice Y j.af.length cj, .int .u8 j.st, .int .i64 j.ca] 33)) := below_alloc (below_alloc (Below.refl _ _))
  generalize ((w.alloc (.cells #[.int .i64 d0, .int .i64 d1, .int .i64 d2, .int .i64 bo, .int .i64 fr, .int .i64 tr, .int .i64 ag, .slice K ks.length kc] 26)).alloc (.cells #[.int .i64 j.id, .int .i64 j.us, .int .i64 j.cl, .int .i64 j.x.a, .int .i64 j.x.b, .int .i64 j.x.c, .bool j.x.p, .bool j.x.q, .bool j.x.r, .bool j.x.tn, .int .i64 j.wa, .int .i64 j.pr, .bool j.he, .slice Y j.af.length cj, .int .u8 j.st, .int .i64 j.ca] 33)) = w0 at *
  have HB0 := Lib.hid hb0
  have KC0 := Lib.hid kc0
  have KJ0 := Lib.hid kj0
  clear hb0 kc0 kj0
  go_wp2_with (first | (refine wpList_load_row rfl 26 _ rfl _ rfl 26 #[.int .i64 d0, .int .i64 d1, .int .i64 d2, .int .i64 bo, .int .i64 fr, .int .i64 tr, .int .i64 ag, .slice K ks.length kc] (0, 0) _ KC0.out Try.underlying26 rfl (by kernel_rfl) ?_))
  refine (HP.out _ (HK.out.up HB0.out)).mono ?_
  rintro e w1 ⟨rfl, hB1⟩
  have HB1 := Lib.hid (below_up HB0.out hB1)
  have KC1 := Lib.hid (KC0.out.below hB1 KC0.out.lt)
  have KJ1 := Lib.hid (KJ0.out.below hB1 KJ0.out.lt)
  clear hB1 KC0 KJ0
  go_wp2_with (first | (refine wpList_load_row rfl 26 _ rfl _ rfl 26 #[.int .i64 d0, .int .i64 d1, .int .i64 d2, .int .i64 bo, .int .i64 fr, .int .i64 tr, .int .i64 ag, .slice K ks.length kc] (0, 0) _ KC1.out Try.underlying26 rfl (by kernel_rfl) ?_) | (refine wpList_load_row rfl 33 _ rfl _ rfl 33 #[.int .i64 j.id, .int .i64 j.us, .int .i64 j.cl, .int .i64 j.x.a, .int .i64 j.x.b, .int .i64 j.x.c, .bool j.x.p, .bool j.x.q, .bool j.x.r, .bool j.x.tn, .int .i64 j.wa, .int .i64 j.pr, .bool j.he, .slice Y j.af.length cj, .int .u8 j.st, .int .i64 j.ca] (0, 0) _ KJ1.out Try.underlying33 rfl (by kernel_rfl) ?_))
  refine (HC.out _ (HK.out.up HB1.out) (HY.out.up HB1.out)).mono ?_
  rintro e w2 ⟨rfl, hB2⟩
  have HB2 := Lib.hid (below_up HB1.out hB2)
  clear hB2
  go_wp2_with fail
  go_ret
  exact ⟨rfl, HB2.out⟩
theorem jCheck (d0 d1 d2 bo fr tr ag : Int) (K : Option Addr) (kc : Nat) (ks : List Cls) (j : JV) (Y : Option Addr) (cj : Nat) (hl : ks.length ≤ 4611686018427387904) (hla : j.af.length ≤ 4611686018427387904) (w : World) (hk : ClsAt w w.heap.size K ks) (hY : IntsAt w Y j.af) :
    Calls Try.prog 13 #[.agg #[.int .i64 d0, .int .i64 d1, .int .i64 d2, .int .i64 bo, .int .i64 fr, .int .i64 tr, .int .i64 ag, .slice K ks.length kc], .agg #[.int .i64 j.id, .int .i64 j.us, .int .i64 j.cl, .int .i64 j.x.a, .int .i64 j.x.b, .int .i64 j.x.c, .bool j.x.p, .bool j.x.q, .bool j.x.r, .bool j.x.tn, .int .i64 j.wa, .int .i64 j.pr, .bool j.he, .slice Y j.af.length cj, .int .u8 j.st, .int .i64 j.ca]] w fun e w' => e = .returned (.int .i64 (CheckV d0 d1 d2 bo fr tr ag ks j)) ∧ Below w.heap.size w w' := by
  unfold CheckV
  by_cases h : CfgOk d0 d1 d2 bo fr tr ag ks
  · rw [if_pos h]; exact jCheck_ok d0 d1 d2 bo fr tr ag K kc ks j Y cj hl hla h w hk hY
  · rw [if_neg h]; exact jCheck_bad d0 d1 d2 bo fr tr ag K kc ks j Y cj hl hla h w hk hY
end Go.Proofs.Ytaldgmmmcbikgaa.JobCheck
