/- The reference's Checked and Check. -/
import Derived.BigRegion
import Derived.BigQuiet
import Derived.Lib.QuietBelow
import Derived.Deep.QuietTactic
import Derived.Deep.DeepCutAuto
import Derived.Test.YtaldgmmmcbikgaaJobCheck
import Derived.Test.YtaldgmmmcbikgaaJobRef1
import Derived.Test.YtaldgmmmcbikgaaTurnRFits
namespace Go.Proofs.Ytaldgmmmcbikgaa.JobRef2
open Go.Sort (grow)
open Go.RowKit Mem PosMath PartMath PartClass PartCheck TurnMath TurnWalks TurnFitsV JobMath JobIndex JobPlain JobAfter JobCheck TurnRFits JobRef1
set_option linter.unusedVariables false
set_option linter.unusedSimpArgs false

set_option maxRecDepth 100000 in
set_option maxHeartbeats 4000000 in
theorem rck_plain (d0 d1 d2 bo fr tr ag : Int) (K : Option Addr) (kc : Nat) (ks : List Cls) (j : JV) (Y : Option Addr) (cj : Nat) (hl : ks.length ≤ 4611686018427387904) (hla : j.af.length ≤ 4611686018427387904) (h0 : plainB ks.length j = false) (w : World) (hk : ClsAt w w.heap.size K ks) (hY : IntsAt w Y j.af) :
    Calls Try.prog 32 #[.agg #[.int .i64 d0, .int .i64 d1, .int .i64 d2, .int .i64 bo, .int .i64 fr, .int .i64 tr, .int .i64 ag, .slice K ks.length kc], .agg #[.int .i64 j.id, .int .i64 j.us, .int .i64 j.cl, .int .i64 j.x.a, .int .i64 j.x.b, .int .i64 j.x.c, .bool j.x.p, .bool j.x.q, .bool j.x.r, .bool j.x.tn, .int .i64 j.wa, .int .i64 j.pr, .bool j.he, .slice Y j.af.length cj, .int .u8 j.st, .int .i64 j.ca]] w fun e w' => e = .returned (.int .i64 2) ∧ Below w.heap.size w w' := by
  have HP := Lib.hid (fun w => rplain d0 d1 d2 bo fr tr ag K kc ks j Y cj hl _ h0 w)
  clear hk hY h0 
  go_enter Try.func32, Try.ntmps32
  go_upto_region 1 with fail
  have kc0 : Blk ((w.alloc (.cells #[.int .i64 d0, .int .i64 d1, .int .i64 d2, .int .i64 bo, .int .i64 fr, .int .i64 tr, .int .i64 ag, .slice K ks.length kc] 26)).alloc (.cells #[.int .i64 j.id, .int .i64 j.us, .int .i64 j.cl, .int .i64 j.x.a, .int .i64 j.x.b, .int .i64 j.x.c, .bool j.x.p, .bool j.x.q, .bool j.x.r, .bool j.x.tn, .int .i64 j.wa, .int .i64 j.pr, .bool j.he, .slice Y j.af.length cj, .int .u8 j.st, .int .i64 j.ca] 33)) w.heap.size 26 #[.int .i64 d0, .int .i64 d1, .int .i64 d2, .int .i64 bo, .int .i64 fr, .int .i64 tr, .int .i64 ag, .slice K ks.length kc] := (Blk.new w _ _).alloc _
  have kj0 : Blk ((w.alloc (.cells #[.int .i64 d0, .int .i64 d1, .int .i64 d2, .int .i64 bo, .int .i64 fr, .int .i64 tr, .int .i64 ag, .slice K ks.length kc] 26)).alloc (.cells #[.int .i64 j.id, .int .i64 j.us, .int .i64 j.cl, .int .i64 j.x.a, .int .i64 j.x.b, .int .i64 j.x.c, .bool j.x.p, .bool j.x.q, .bool j.x.r, .bool j.x.tn, .int .i64 j.wa, .int .i64 j.pr, .bool j.he, .slice Y j.af.length cj, .int .u8 j.st, .int .i64 j.ca] 33)) (w.heap.size + 1) 33 #[.int .i64 j.id, .int .i64 j.us, .int .i64 j.cl, .int .i64 j.x.a, .int .i64 j.x.b, .int .i64 j.x.c, .bool j.x.p, .bool j.x.q, .bool j.x.r, .bool j.x.tn, .int .i64 j.wa, .int .i64 j.pr, .bool j.he, .slice Y j.af.length cj, .int .u8 j.st, .int .i64 j.ca] := blk1 w _ _
  have hb0 : Below w.heap.size w ((w.alloc (.cells #[.int .i64 d0, .int .i64 d1, .int .i64 d2, .int .i64 bo, .int .i64 fr, .int .i64 tr, .int .i64 ag, .slice K ks.length kc] 26)).alloc (.cells #[.int .i64 j.id, .int .i64 j.us, .int .i64 j.cl, .int .i64 j.x.a, .int .i64 j.x.b, .int .i64 j.x.c, .bool j.x.p, .bool j.x.q, .bool j.x.r, .bool j.x.tn, .int .i64 j.wa, .int .i64 j.pr, .bool j.he, .slice Y j.af.length cj, .int .u8 j.st, .int .i64 j.ca] 33)) := below_alloc (below_alloc (Below.refl _ _))
  generalize ((w.alloc (.cells #[.int .i64 d0, .int .i64 d1, .int .i64 d2, .int .i64 bo, .int .i64 fr, .int .i64 tr, .int .i64 ag, .slice K ks.length kc] 26)).alloc (.cells #[.int .i64 j.id, .int .i64 j.us, .int .i64 j.cl, .int .i64 j.x.a, .int .i64 j.x.b, .int .i64 j.x.c, .bool j.x.p, .bool j.x.q, .bool j.x.r, .bool j.x.tn, .int .i64 j.wa, .int .i64 j.pr, .bool j.he, .slice Y j.af.length cj, .int .u8 j.st, .int .i64 j.ca] 33)) = w0 at *
  have HB0 := Lib.hid hb0
  have KC0 := Lib.hid kc0
  have KJ0 := Lib.hid kj0
  clear hb0 kc0 kj0
  go_wp2_with (first | (refine wpList_load_row rfl 26 _ rfl _ rfl 26 #[.int .i64 d0, .int .i64 d1, .int .i64 d2, .int .i64 bo, .int .i64 fr, .int .i64 tr, .int .i64 ag, .slice K ks.length kc] (0, 0) _ KC0.out Try.underlying26 rfl (by kernel_rfl) ?_) | (refine wpList_load_row rfl 33 _ rfl _ rfl 33 #[.int .i64 j.id, .int .i64 j.us, .int .i64 j.cl, .int .i64 j.x.a, .int .i64 j.x.b, .int .i64 j.x.c, .bool j.x.p, .bool j.x.q, .bool j.x.r, .bool j.x.tn, .int .i64 j.wa, .int .i64 j.pr, .bool j.he, .slice Y j.af.length cj, .int .u8 j.st, .int .i64 j.ca] (0, 0) _ KJ0.out Try.underlying33 rfl (by kernel_rfl) ?_))
  refine (HP.out _).mono ?_
  rintro e w1 ⟨rfl, hB1⟩
  have HB1 := Lib.hid (below_up HB0.out hB1)
  have KC1 := Lib.hid (KC0.out.below hB1 KC0.out.lt)
  have KJ1 := Lib.hid (KJ0.out.below hB1 KJ0.out.lt)
  clear hB1 KC0 KJ0
  go_wp2_with fail
  go_ret
  exact ⟨rfl, HB1.out⟩
set_option maxRecDepth 100000 in
set_option maxHeartbeats 4000000 in
theorem rck_after (d0 d1 d2 bo fr tr ag : Int) (K : Option Addr) (kc : Nat) (ks : List Cls) (j : JV) (Y : Option Addr) (cj : Nat) (hl : ks.length ≤ 4611686018427387904) (hla : j.af.length ≤ 4611686018427387904) (h0 : plainB ks.length j = true) (h1 : afterB j = false) (w : World) (hk : ClsAt w w.heap.size K ks) (hY : IntsAt w Y j.af) :
    Calls Try.prog 32 #[.agg #[.int .i64 d0, .int .i64 d1, .int .i64 d2, .int .i64 bo, .int .i64 fr, .int .i64 tr, .int .i64 ag, .slice K ks.length kc], .agg #[.int .i64 j.id, .int .i64 j.us, .int .i64 j.cl, .int .i64 j.x.a, .int .i64 j.x.b, .int .i64 j.x.c, .bool j.x.p, .bool j.x.q, .bool j.x.r, .bool j.x.tn, .int .i64 j.wa, .int .i64 j.pr, .bool j.he, .slice Y j.af.length cj, .int .u8 j.st, .int .i64 j.ca]] w fun e w' => e = .returned (.int .i64 182) ∧ Below w.heap.size w w' := by
  have HP := Lib.hid (fun w => rplain d0 d1 d2 bo fr tr ag K kc ks j Y cj hl _ h0 w)
  have HA := Lib.hid (fun w hY => rafter j Y cj hla _ h1 w hY)
  have HY := Lib.hid hY
  clear hk hY h0 h1
  go_enter Try.func32, Try.ntmps32
  go_upto_region 1 with fail
  have kc0 : Blk ((w.alloc (.cells #[.int .i64 d0, .int .i64 d1, .int .i64 d2, .int .i64 bo, .int .i64 fr, .int .i64 tr, .int .i64 ag, .slice K ks.length kc] 26)).alloc (.cells #[.int .i64 j.id, .int .i64 j.us, .int .i64 j.cl, .int .i64 j.x.a, .int .i64 j.x.b, .int .i64 j.x.c, .bool j.x.p, .bool j.x.q, .bool j.x.r, .bool j.x.tn, .int .i64 j.wa, .int .i64 j.pr, .bool j.he, .slice Y j.af.length cj, .int .u8 j.st, .int .i64 j.ca] 33)) w.heap.size 26 #[.int .i64 d0, .int .i64 d1, .int .i64 d2, .int .i64 bo, .int .i64 fr, .int .i64 tr, .int .i64 ag, .slice K ks.length kc] := (Blk.new w _ _).alloc _
  have kj0 : Blk ((w.alloc (.cells #[.int .i64 d0, .int .i64 d1, .int .i64 d2, .int .i64 bo, .int .i64 fr, .int .i64 tr, .int .i64 ag, .slice K ks.length kc] 26)).alloc (.cells #[.int .i64 j.id, .int .i64 j.us, .int .i64 j.cl, .int .i64 j.x.a, .int .i64 j.x.b, .int .i64 j.x.c, .bool j.x.p, .bool j.x.q, .bool j.x.r, .bool j.x.tn, .int .i64 j.wa, .int .i64 j.pr, .bool j.he, .slice Y j.af.length cj, .int .u8 j.st, .int .i64 j.ca] 33)) (w.heap.size + 1) 33 #[.int .i64 j.id, .int .i64 j.us, .int .i64 j.cl, .int .i64 j.x.a, .int .i64 j.x.b, .int .i64 j.x.c, .bool j.x.p, .bool j.x.q, .bool j.x.r, .bool j.x.tn, .int .i64 j.wa, .int .i64 j.pr, .bool j.he, .slice Y j.af.length cj, .int .u8 j.st, .int .i64 j.ca] := blk1 w _ _
  have hb0 : Below w.heap.size w ((w.alloc (.cells #[.int .i64 d0, .int .i64 d1, .int .i64 d2, .int .i64 bo, .int .i64 fr, .int .i64 tr, .int .i64 ag, .slice K ks.length kc] 26)).alloc (.cells #[.int .i64 j.id, .int .i64 j.us, .int .i64 j.cl, .int .i64 j.x.a, .int .i64 j.x.b, .int .i64 j.x.c, .bool j.x.p, .bool j.x.q, .bool j.x.r, .bool j.x.tn, .int .i64 j.wa, .int .i64 j.pr, .bool j.he, .slice Y j.af.length cj, .int .u8 j.st, .int .i64 j.ca] 33)) := below_alloc (below_alloc (Below.refl _ _))
  generalize ((w.alloc (.cells #[.int .i64 d0, .int .i64 d1, .int .i64 d2, .int .i64 bo, .int .i64 fr, .int .i64 tr, .int .i64 ag, .slice K ks.length kc] 26)).alloc (.cells #[.int .i64 j.id, .int .i64 j.us, .int .i64 j.cl, .int .i64 j.x.a, .int .i64 j.x.b, .int .i64 j.x.c, .bool j.x.p, .bool j.x.q, .bool j.x.r, .bool j.x.tn, .int .i64 j.wa, .int .i64 j.pr, .bool j.he, .slice Y j.af.length cj, .int .u8 j.st, .int .i64 j.ca] 33)) = w0 at *
  have HB0 := Lib.hid hb0
  have KC0 := Lib.hid kc0
  have KJ0 := Lib.hid kj0
  clear hb0 kc0 kj0
  go_wp2_with (first | (refine wpList_load_row rfl 26 _ rfl _ rfl 26 #[.int .i64 d0, .int .i64 d1, .int .i64 d2, .int .i64 bo, .int .i64 fr, .int .i64 tr, .int .i64 ag, .slice K ks.length kc] (0, 0) _ KC0.out Try.underlying26 rfl (by kernel_rfl) ?_) | (refine wpList_load_row rfl 33 _ rfl _ rfl 33 #[.int .i64 j.id, .int .i64 j.us, .int .i64 j.cl, .int .i64 j.x.a, .int .i64 j.x.b, .int .i64 j.x.c, .bool j.x.p, .bool j.x.q, .bool j.x.r, .bool j.x.tn, .int .i64 j.wa, .int .i64 j.pr, .bool j.he, .slice Y j.af.length cj, .int .u8 j.st, .int .i64 j.ca] (0, 0) _ KJ0.out Try.underlying33 rfl (by kernel_rfl) ?_))
  refine (HP.out _).mono ?_
  rintro e w1 ⟨rfl, hB1⟩
  have HB1 := Lib.hid (below_up HB0.out hB1)
  have KC1 := Lib.hid (KC0.out.below hB1 KC0.out.lt)
  have KJ1 := Lib.hid (KJ0.out.below hB1 KJ0.out.lt)
  clear hB1 KC0 KJ0
  go_wp2_with (first | (refine wpList_load_row rfl 33 _ rfl _ rfl 33 #[.int .i64 j.id, .int .i64 j.us, .int .i64 j.cl, .int .i64 j.x.a, .int .i64 j.x.b, .int .i64 j.x.c, .bool j.x.p, .bool j.x.q, .bool j.x.r, .bool j.x.tn, .int .i64 j.wa, .int .i64 j.pr, .bool j.he, .slice Y j.af.length cj, .int .u8 j.st, .int .i64 j.ca] (0, 0) _ KJ1.out Try.underlying33 rfl (by kernel_rfl) ?_))
  refine (HA.out _ (HY.out.up HB1.out)).mono ?_
  rintro e w2 ⟨rfl, hB2⟩
  have HB2 := Lib.hid (below_up HB1.out hB2)
  have KC2 := Lib.hid (KC1.out.below hB2 KC1.out.lt)
  have KJ2 := Lib.hid (KJ1.out.below hB2 KJ1.out.lt)
  clear hB2 KC1 KJ1
  go_wp2_with fail
  go_ret
  exact ⟨rfl, HB2.out⟩
set_option maxRecDepth 100000 in
set_option maxHeartbeats 4000000 in
theorem rck_wants (d0 d1 d2 bo fr tr ag : Int) (K : Option Addr) (kc : Nat) (ks : List Cls) (j : JV) (Y : Option Addr) (cj : Nat) (hl : ks.length ≤ 4611686018427387904) (hla : j.af.length ≤ 4611686018427387904) (h0 : plainB ks.length j = true) (h1 : afterB j = true) (h2 : ¬ WOk j.x) (w : World) (hk : ClsAt w w.heap.size K ks) (hY : IntsAt w Y j.af) :
    Calls Try.prog 32 #[.agg #[.int .i64 d0, .int .i64 d1, .int .i64 d2, .int .i64 bo, .int .i64 fr, .int .i64 tr, .int .i64 ag, .slice K ks.length kc], .agg #[.int .i64 j.id, .int .i64 j.us, .int .i64 j.cl, .int .i64 j.x.a, .int .i64 j.x.b, .int .i64 j.x.c, .bool j.x.p, .bool j.x.q, .bool j.x.r, .bool j.x.tn, .int .i64 j.wa, .int .i64 j.pr, .bool j.he, .slice Y j.af.length cj, .int .u8 j.st, .int .i64 j.ca]] w fun e w' => e = .returned (.int .i64 2) ∧ Below w.heap.size w w' := by
  have HP := Lib.hid (fun w => rplain d0 d1 d2 bo fr tr ag K kc ks j Y cj hl _ h0 w)
  have HA := Lib.hid (fun w hY => rafter j Y cj hla _ h1 w hY)
  have HY := Lib.hid hY
  have H2 := Lib.hid h2
  clear hk hY h0 h1 h2
  go_enter Try.func32, Try.ntmps32
  go_upto_region 1 with fail
  have kc0 : Blk ((w.alloc (.cells #[.int .i64 d0, .int .i64 d1, .int .i64 d2, .int .i64 bo, .int .i64 fr, .int .i64 tr, .int .i64 ag, .slice K ks.length kc] 26)).alloc (.cells #[.int .i64 j.id, .int .i64 j.us, .int .i64 j.cl, .int .i64 j.x.a, .int .i64 j.x.b, .int .i64 j.x.c, .bool j.x.p, .bool j.x.q, .bool j.x.r, .bool j.x.tn, .int .i64 j.wa, .int .i64 j.pr, .bool j.he, .slice Y j.af.length cj, .int .u8 j.st, .int .i64 j.ca] 33)) w.heap.size 26 #[.int .i64 d0, .int .i64 d1, .int .i64 d2, .int .i64 bo, .int .i64 fr, .int .i64 tr, .int .i64 ag, .slice K ks.length kc] := (Blk.new w _ _).alloc _
  have kj0 : Blk ((w.alloc (.cells #[.int .i64 d0, .int .i64 d1, .int .i64 d2, .int .i64 bo, .int .i64 fr, .int .i64 tr, .int .i64 ag, .slice K ks.length kc] 26)).alloc (.cells #[.int .i64 j.id, .int .i64 j.us, .int .i64 j.cl, .int .i64 j.x.a, .int .i64 j.x.b, .int .i64 j.x.c, .bool j.x.p, .bool j.x.q, .bool j.x.r, .bool j.x.tn, .int .i64 j.wa, .int .i64 j.pr, .bool j.he, .slice Y j.af.length cj, .int .u8 j.st, .int .i64 j.ca] 33)) (w.heap.size + 1) 33 #[.int .i64 j.id, .int .i64 j.us, .int .i64 j.cl, .int .i64 j.x.a, .int .i64 j.x.b, .int .i64 j.x.c, .bool j.x.p, .bool j.x.q, .bool j.x.r, .bool j.x.tn, .int .i64 j.wa, .int .i64 j.pr, .bool j.he, .slice Y j.af.length cj, .int .u8 j.st, .int .i64 j.ca] := blk1 w _ _
  have hb0 : Below w.heap.size w ((w.alloc (.cells #[.int .i64 d0, .int .i64 d1, .int .i64 d2, .int .i64 bo, .int .i64 fr, .int .i64 tr, .int .i64 ag, .slice K ks.length kc] 26)).alloc (.cells #[.int .i64 j.id, .int .i64 j.us, .int .i64 j.cl, .int .i64 j.x.a, .int .i64 j.x.b, .int .i64 j.x.c, .bool j.x.p, .bool j.x.q, .bool j.x.r, .bool j.x.tn, .int .i64 j.wa, .int .i64 j.pr, .bool j.he, .slice Y j.af.length cj, .int .u8 j.st, .int .i64 j.ca] 33)) := below_alloc (below_alloc (Below.refl _ _))
  generalize ((w.alloc (.cells #[.int .i64 d0, .int .i64 d1, .int .i64 d2, .int .i64 bo, .int .i64 fr, .int .i64 tr, .int .i64 ag, .slice K ks.length kc] 26)).alloc (.cells #[.int .i64 j.id, .int .i64 j.us, .int .i64 j.cl, .int .i64 j.x.a, .int .i64 j.x.b, .int .i64 j.x.c, .bool j.x.p, .bool j.x.q, .bool j.x.r, .bool j.x.tn, .int .i64 j.wa, .int .i64 j.pr, .bool j.he, .slice Y j.af.length cj, .int .u8 j.st, .int .i64 j.ca] 33)) = w0 at *
  have HB0 := Lib.hid hb0
  have KC0 := Lib.hid kc0
  have KJ0 := Lib.hid kj0
  clear hb0 kc0 kj0
  go_wp2_with (first | (refine wpList_load_row rfl 26 _ rfl _ rfl 26 #[.int .i64 d0, .int .i64 d1, .int .i64 d2, .int .i64 bo, .int .i64 fr, .int .i64 tr, .int .i64 ag, .slice K ks.length kc] (0, 0) _ KC0.out Try.underlying26 rfl (by kernel_rfl) ?_) | (refine wpList_load_row rfl 33 _ rfl _ rfl 33 #[.int .i64 j.id, .int .i64 j.us, .int .i64 j.cl, .int .i64 j.x.a, .int .i64 j.x.b, .int .i64 j.x.c, .bool j.x.p, .bool j.x.q, .bool j.x.r, .bool j.x.tn, .int .i64 j.wa, .int .i64 j.pr, .bool j.he, .slice Y j.af.length cj, .int .u8 j.st, .int .i64 j.ca] (0, 0) _ KJ0.out Try.underlying33 rfl (by kernel_rfl) ?_))
  refine (HP.out _).mono ?_
  rintro e w1 ⟨rfl, hB1⟩
  have HB1 := Lib.hid (below_up HB0.out hB1)
  have KC1 := Lib.hid (KC0.out.below hB1 KC0.out.lt)
  have KJ1 := Lib.hid (KJ0.out.below hB1 KJ0.out.lt)
  clear hB1 KC0 KJ0
  go_wp2_with (first | (refine wpList_load_row rfl 33 _ rfl _ rfl 33 #[.int .i64 j.id, .int .i64 j.us, .int .i64 j.cl, .int .i64 j.x.a, .int .i64 j.x.b, .int .i64 j.x.c, .bool j.x.p, .bool j.x.q, .bool j.x.r, .bool j.x.tn, .int .i64 j.wa, .int .i64 j.pr, .bool j.he, .slice Y j.af.length cj, .int .u8 j.st, .int .i64 j.ca] (0, 0) _ KJ1.out Try.underlying33 rfl (by kernel_rfl) ?_))
  refine (HA.out _ (HY.out.up HB1.out)).mono ?_
  rintro e w2 ⟨rfl, hB2⟩
  have HB2 := Lib.hid (below_up HB1.out hB2)
  have KC2 := Lib.hid (KC1.out.below hB2 KC1.out.lt)
  have KJ2 := Lib.hid (KJ1.out.below hB2 KJ1.out.lt)
  clear hB2 KC1 KJ1
  have x3 : w2.cell? ⟨w.heap.size + 1, 3, none⟩ = some (.int .i64 j.x.a) := KJ2.out.cell 3
  have x4 : w2.cell? ⟨w.heap.size + 1, 4, none⟩ = some (.int .i64 j.x.b) := KJ2.out.cell 4
  have x5 : w2.cell? ⟨w.heap.size + 1, 5, none⟩ = some (.int .i64 j.x.c) := KJ2.out.cell 5
  have x6 : w2.cell? ⟨w.heap.size + 1, 6, none⟩ = some (.bool j.x.p) := KJ2.out.cell 6
  have x7 : w2.cell? ⟨w.heap.size + 1, 7, none⟩ = some (.bool j.x.q) := KJ2.out.cell 7
  have x8 : w2.cell? ⟨w.heap.size + 1, 8, none⟩ = some (.bool j.x.r) := KJ2.out.cell 8
  have x9 : w2.cell? ⟨w.heap.size + 1, 9, none⟩ = some (.bool j.x.tn) := KJ2.out.cell 9
  go_wp2_with (first | fail)
  refine (wmay_bad _ _ _ _ _ _ _ H2.out _).mono ?_
  rintro e w3 ⟨rfl, hB3⟩
  have HB3 := Lib.hid (below_up HB2.out hB3)
  have KC3 := Lib.hid (KC2.out.below hB3 KC2.out.lt)
  have KJ3 := Lib.hid (KJ2.out.below hB3 KJ2.out.lt)
  clear hB3 KC2 KJ2
  clear x3 x4 x5 x6 x7 x8 x9
  go_wp2_with fail
  go_ret
  exact ⟨rfl, HB3.out⟩
set_option maxRecDepth 100000 in
set_option maxHeartbeats 4000000 in
theorem rck_shape (d0 d1 d2 bo fr tr ag : Int) (K : Option Addr) (kc : Nat) (ks : List Cls) (j : JV) (Y : Option Addr) (cj : Nat) (hl : ks.length ≤ 4611686018427387904) (hla : j.af.length ≤ 4611686018427387904) (h0 : plainB ks.length j = true) (h1 : afterB j = true) (h2 : WOk j.x) (h3 : (fitsV d0 d1 d2 j.x).1 = false) (w : World) (hk : ClsAt w w.heap.size K ks) (hY : IntsAt w Y j.af) :
    Calls Try.prog 32 #[.agg #[.int .i64 d0, .int .i64 d1, .int .i64 d2, .int .i64 bo, .int .i64 fr, .int .i64 tr, .int .i64 ag, .slice K ks.length kc], .agg #[.int .i64 j.id, .int .i64 j.us, .int .i64 j.cl, .int .i64 j.x.a, .int .i64 j.x.b, .int .i64 j.x.c, .bool j.x.p, .bool j.x.q, .bool j.x.r, .bool j.x.tn, .int .i64 j.wa, .int .i64 j.pr, .bool j.he, .slice Y j.af.length cj, .int .u8 j.st, .int .i64 j.ca]] w fun e w' => e = .returned (.int .i64 180) ∧ Below w.heap.size w w' := by
  have HP := Lib.hid (fun w => rplain d0 d1 d2 bo fr tr ag K kc ks j Y cj hl _ h0 w)
  have HA := Lib.hid (fun w hY => rafter j Y cj hla _ h1 w hY)
  have HY := Lib.hid hY
  have H2 := Lib.hid h2
  have hcl := plain_cl h0
  obtain ⟨m, hm, hmk, hkm⟩ := cls_at hcl.1 hcl.2
  have hmi : (m : Int) < (ks.length : Int) := by omega
  have hmi0 : (0 : Int) ≤ (m : Int) := by omega
  have hf' : ∀ w, Calls Try.prog 59 #[.agg #[.int .i64 d0, .int .i64 d1, .int .i64 d2], .agg j.x.arr] w fun e w' => e = .returned (.tuple #[.bool (fitsV d0 d1 d2 j.x).1, .int .i64 (fitsV d0 d1 d2 j.x).2]) ∧ Below w.heap.size w w' := fun w => rfits_any d0 d1 d2 j.x w
  rw [h3] at hf'
  unfold WV.arr at hf'
  have HF := Lib.hid hf'
  obtain ⟨kb, ko, rfl, hkb, y0, y1, y2, y3⟩ := hk m _ hkm
  have HYK := Lib.hid (And.intro y1 y2)
  have HKB := Lib.hid hkb
  have hm3 := mul3 h2.1 h2.2.1 h2.2.2
  have f1 : IntKind.i64.wrap (j.x.a * j.x.b) = j.x.a * j.x.b := IntWalk.i64_in _ (by omega)
  have f2 : IntKind.i64.wrap (j.x.a * j.x.b * j.x.c) = j.x.a * j.x.b * j.x.c := IntWalk.i64_in _ (by omega)
  have HN := Lib.hid (And.intro (And.intro trivial trivial) (And.intro f1 f2))
  generalize clsOf ks j.cl = k at *
  rw [hm] at HP HA ⊢
  clear hcl hm hkm hm3 hf' h3 f1 f2 y0 y1 y2 y3 hkb
  clear hk hY h0 h1 h2
  go_enter Try.func32, Try.ntmps32
  go_upto_region 1 with fail
  have kc0 : Blk ((w.alloc (.cells #[.int .i64 d0, .int .i64 d1, .int .i64 d2, .int .i64 bo, .int .i64 fr, .int .i64 tr, .int .i64 ag, .slice (some ⟨kb, ko, none⟩) ks.length kc] 26)).alloc (.cells #[.int .i64 j.id, .int .i64 j.us, .int .i64 (m : Int), .int .i64 j.x.a, .int .i64 j.x.b, .int .i64 j.x.c, .bool j.x.p, .bool j.x.q, .bool j.x.r, .bool j.x.tn, .int .i64 j.wa, .int .i64 j.pr, .bool j.he, .slice Y j.af.length cj, .int .u8 j.st, .int .i64 j.ca] 33)) w.heap.size 26 #[.int .i64 d0, .int .i64 d1, .int .i64 d2, .int .i64 bo, .int .i64 fr, .int .i64 tr, .int .i64 ag, .slice (some ⟨kb, ko, none⟩) ks.length kc] := (Blk.new w _ _).alloc _
  have kj0 : Blk ((w.alloc (.cells #[.int .i64 d0, .int .i64 d1, .int .i64 d2, .int .i64 bo, .int .i64 fr, .int .i64 tr, .int .i64 ag, .slice (some ⟨kb, ko, none⟩) ks.length kc] 26)).alloc (.cells #[.int .i64 j.id, .int .i64 j.us, .int .i64 (m : Int), .int .i64 j.x.a, .int .i64 j.x.b, .int .i64 j.x.c, .bool j.x.p, .bool j.x.q, .bool j.x.r, .bool j.x.tn, .int .i64 j.wa, .int .i64 j.pr, .bool j.he, .slice Y j.af.length cj, .int .u8 j.st, .int .i64 j.ca] 33)) (w.heap.size + 1) 33 #[.int .i64 j.id, .int .i64 j.us, .int .i64 (m : Int), .int .i64 j.x.a, .int .i64 j.x.b, .int .i64 j.x.c, .bool j.x.p, .bool j.x.q, .bool j.x.r, .bool j.x.tn, .int .i64 j.wa, .int .i64 j.pr, .bool j.he, .slice Y j.af.length cj, .int .u8 j.st, .int .i64 j.ca] := blk1 w _ _
  have hb0 : Below w.heap.size w ((w.alloc (.cells #[.int .i64 d0, .int .i64 d1, .int .i64 d2, .int .i64 bo, .int .i64 fr, .int .i64 tr, .int .i64 ag, .slice (some ⟨kb, ko, none⟩) ks.length kc] 26)).alloc (.cells #[.int .i64 j.id, .int .i64 j.us, .int .i64 (m : Int), .int .i64 j.x.a, .int .i64 j.x.b, .int .i64 j.x.c, .bool j.x.p, .bool j.x.q, .bool j.x.r, .bool j.x.tn, .int .i64 j.wa, .int .i64 j.pr, .bool j.he, .slice Y j.af.length cj, .int .u8 j.st, .int .i64 j.ca] 33)) := below_alloc (below_alloc (Below.refl _ _))
  generalize ((w.alloc (.cells #[.int .i64 d0, .int .i64 d1, .int .i64 d2, .int .i64 bo, .int .i64 fr, .int .i64 tr, .int .i64 ag, .slice (some ⟨kb, ko, none⟩) ks.length kc] 26)).alloc (.cells #[.int .i64 j.id, .int .i64 j.us, .int .i64 (m : Int), .int .i64 j.x.a, .int .i64 j.x.b, .int .i64 j.x.c, .bool j.x.p, .bool j.x.q, .bool j.x.r, .bool j.x.tn, .int .i64 j.wa, .int .i64 j.pr, .bool j.he, .slice Y j.af.length cj, .int .u8 j.st, .int .i64 j.ca] 33)) = w0 at *
  have HB0 := Lib.hid hb0
  have KC0 := Lib.hid kc0
  have KJ0 := Lib.hid kj0
  clear hb0 kc0 kj0
  go_wp2_with (first | (refine wpList_load_row rfl 26 _ rfl _ rfl 26 #[.int .i64 d0, .int .i64 d1, .int .i64 d2, .int .i64 bo, .int .i64 fr, .int .i64 tr, .int .i64 ag, .slice (some ⟨kb, ko, none⟩) ks.length kc] (0, 0) _ KC0.out Try.underlying26 rfl (by kernel_rfl) ?_) | (refine wpList_load_row rfl 33 _ rfl _ rfl 33 #[.int .i64 j.id, .int .i64 j.us, .int .i64 (m : Int), .int .i64 j.x.a, .int .i64 j.x.b, .int .i64 j.x.c, .bool j.x.p, .bool j.x.q, .bool j.x.r, .bool j.x.tn, .int .i64 j.wa, .int .i64 j.pr, .bool j.he, .slice Y j.af.length cj, .int .u8 j.st, .int .i64 j.ca] (0, 0) _ KJ0.out Try.underlying33 rfl (by kernel_rfl) ?_))
  refine (HP.out _).mono ?_
  rintro e w1 ⟨rfl, hB1⟩
  have HB1 := Lib.hid (below_up HB0.out hB1)
  have KC1 := Lib.hid (KC0.out.below hB1 KC0.out.lt)
  have KJ1 := Lib.hid (KJ0.out.below hB1 KJ0.out.lt)
  clear hB1 KC0 KJ0
  go_wp2_with (first | (refine wpList_load_row rfl 33 _ rfl _ rfl 33 #[.int .i64 j.id, .int .i64 j.us, .int .i64 (m : Int), .int .i64 j.x.a, .int .i64 j.x.b, .int .i64 j.x.c, .bool j.x.p, .bool j.x.q, .bool j.x.r, .bool j.x.tn, .int .i64 j.wa, .int .i64 j.pr, .bool j.he, .slice Y j.af.length cj, .int .u8 j.st, .int .i64 j.ca] (0, 0) _ KJ1.out Try.underlying33 rfl (by kernel_rfl) ?_))
  refine (HA.out _ (HY.out.up HB1.out)).mono ?_
  rintro e w2 ⟨rfl, hB2⟩
  have HB2 := Lib.hid (below_up HB1.out hB2)
  have KC2 := Lib.hid (KC1.out.below hB2 KC1.out.lt)
  have KJ2 := Lib.hid (KJ1.out.below hB2 KJ1.out.lt)
  clear hB2 KC1 KJ1
  have x3 : w2.cell? ⟨w.heap.size + 1, 3, none⟩ = some (.int .i64 j.x.a) := KJ2.out.cell 3
  have x4 : w2.cell? ⟨w.heap.size + 1, 4, none⟩ = some (.int .i64 j.x.b) := KJ2.out.cell 4
  have x5 : w2.cell? ⟨w.heap.size + 1, 5, none⟩ = some (.int .i64 j.x.c) := KJ2.out.cell 5
  have x6 : w2.cell? ⟨w.heap.size + 1, 6, none⟩ = some (.bool j.x.p) := KJ2.out.cell 6
  have x7 : w2.cell? ⟨w.heap.size + 1, 7, none⟩ = some (.bool j.x.q) := KJ2.out.cell 7
  have x8 : w2.cell? ⟨w.heap.size + 1, 8, none⟩ = some (.bool j.x.r) := KJ2.out.cell 8
  have x9 : w2.cell? ⟨w.heap.size + 1, 9, none⟩ = some (.bool j.x.tn) := KJ2.out.cell 9
  go_wp2_with (first | fail)
  refine (wmay_ok _ _ _ _ _ _ _ H2.out _).mono ?_
  rintro e w3 ⟨rfl, hB3⟩
  have HB3 := Lib.hid (below_up HB2.out hB3)
  have KC3 := Lib.hid (KC2.out.below hB3 KC2.out.lt)
  have KJ3 := Lib.hid (KJ2.out.below hB3 KJ2.out.lt)
  clear hB3 KC2 KJ2
  clear x3 x4 x5 x6 x7 x8 x9
  have e0 : w3.cell? ⟨w.heap.size, 0, none⟩ = some (.int .i64 d0) := KC3.out.cell 0
  have e1 : w3.cell? ⟨w.heap.size, 1, none⟩ = some (.int .i64 d1) := KC3.out.cell 1
  have e2 : w3.cell? ⟨w.heap.size, 2, none⟩ = some (.int .i64 d2) := KC3.out.cell 2
  have x3 : w3.cell? ⟨w.heap.size + 1, 3, none⟩ = some (.int .i64 j.x.a) := KJ3.out.cell 3
  have x4 : w3.cell? ⟨w.heap.size + 1, 4, none⟩ = some (.int .i64 j.x.b) := KJ3.out.cell 4
  have x5 : w3.cell? ⟨w.heap.size + 1, 5, none⟩ = some (.int .i64 j.x.c) := KJ3.out.cell 5
  have x6 : w3.cell? ⟨w.heap.size + 1, 6, none⟩ = some (.bool j.x.p) := KJ3.out.cell 6
  have x7 : w3.cell? ⟨w.heap.size + 1, 7, none⟩ = some (.bool j.x.q) := KJ3.out.cell 7
  have x8 : w3.cell? ⟨w.heap.size + 1, 8, none⟩ = some (.bool j.x.r) := KJ3.out.cell 8
  have x9 : w3.cell? ⟨w.heap.size + 1, 9, none⟩ = some (.bool j.x.tn) := KJ3.out.cell 9
  go_wp2_with (first | fail)
  refine (HF.out _).mono ?_
  rintro e w4 ⟨rfl, hB4⟩
  have HB4 := Lib.hid (below_up HB3.out hB4)
  have KC4 := Lib.hid (KC3.out.below hB4 KC3.out.lt)
  have KJ4 := Lib.hid (KJ3.out.below hB4 KJ3.out.lt)
  clear hB4 KC3 KJ3
  clear e0 e1 e2 x3 x4 x5 x6 x7 x8 x9
  go_wp2_with fail
  go_ret
  exact ⟨rfl, HB4.out⟩
set_option maxRecDepth 100000 in
set_option maxHeartbeats 4000000 in
theorem rck_wall (d0 d1 d2 bo fr tr ag : Int) (K : Option Addr) (kc : Nat) (ks : List Cls) (j : JV) (Y : Option Addr) (cj : Nat) (hl : ks.length ≤ 4611686018427387904) (hla : j.af.length ≤ 4611686018427387904) (h0 : plainB ks.length j = true) (h1 : afterB j = true) (h2 : WOk j.x) (h3 : (fitsV d0 d1 d2 j.x).1 = true) (h4 : ¬ j.wa ≤ (clsOf ks j.cl).2.1) (w : World) (hk : ClsAt w w.heap.size K ks) (hY : IntsAt w Y j.af) :
    Calls Try.prog 32 #[.agg #[.int .i64 d0, .int .i64 d1, .int .i64 d2, .int .i64 bo, .int .i64 fr, .int .i64 tr, .int .i64 ag, .slice K ks.length kc], .agg #[.int .i64 j.id, .int .i64 j.us, .int .i64 j.cl, .int .i64 j.x.a, .int .i64 j.x.b, .int .i64 j.x.c, .bool j.x.p, .bool j.x.q, .bool j.x.r, .bool j.x.tn, .int .i64 j.wa, .int .i64 j.pr, .bool j.he, .slice Y j.af.length cj, .int .u8 j.st, .int .i64 j.ca]] w fun e w' => e = .returned (.int .i64 181) ∧ Below w.heap.size w w' := by
  have HP := Lib.hid (fun w => rplain d0 d1 d2 bo fr tr ag K kc ks j Y cj hl _ h0 w)
  have HA := Lib.hid (fun w hY => rafter j Y cj hla _ h1 w hY)
  have HY := Lib.hid hY
  have H2 := Lib.hid h2
  have hcl := plain_cl h0
  obtain ⟨m, hm, hmk, hkm⟩ := cls_at hcl.1 hcl.2
  have hmi : (m : Int) < (ks.length : Int) := by omega
  have hmi0 : (0 : Int) ≤ (m : Int) := by omega
  have hf' : ∀ w, Calls Try.prog 59 #[.agg #[.int .i64 d0, .int .i64 d1, .int .i64 d2], .agg j.x.arr] w fun e w' => e = .returned (.tuple #[.bool (fitsV d0 d1 d2 j.x).1, .int .i64 (fitsV d0 d1 d2 j.x).2]) ∧ Below w.heap.size w w' := fun w => rfits_any d0 d1 d2 j.x w
  rw [h3] at hf'
  unfold WV.arr at hf'
  have HF := Lib.hid hf'
  obtain ⟨kb, ko, rfl, hkb, y0, y1, y2, y3⟩ := hk m _ hkm
  have HYK := Lib.hid (And.intro y1 y2)
  have HKB := Lib.hid hkb
  have hm3 := mul3 h2.1 h2.2.1 h2.2.2
  have f1 : IntKind.i64.wrap (j.x.a * j.x.b) = j.x.a * j.x.b := IntWalk.i64_in _ (by omega)
  have f2 : IntKind.i64.wrap (j.x.a * j.x.b * j.x.c) = j.x.a * j.x.b * j.x.c := IntWalk.i64_in _ (by omega)
  have HN := Lib.hid (And.intro (And.intro h4 trivial) (And.intro f1 f2))
  generalize clsOf ks j.cl = k at *
  rw [hm] at HP HA ⊢
  clear hcl hm hkm hm3 hf' h3 f1 f2 y0 y1 y2 y3 hkb h4
  clear hk hY h0 h1 h2
  go_enter Try.func32, Try.ntmps32
  go_upto_region 1 with fail
  have kc0 : Blk ((w.alloc (.cells #[.int .i64 d0, .int .i64 d1, .int .i64 d2, .int .i64 bo, .int .i64 fr, .int .i64 tr, .int .i64 ag, .slice (some ⟨kb, ko, none⟩) ks.length kc] 26)).alloc (.cells #[.int .i64 j.id, .int .i64 j.us, .int .i64 (m : Int), .int .i64 j.x.a, .int .i64 j.x.b, .int .i64 j.x.c, .bool j.x.p, .bool j.x.q, .bool j.x.r, .bool j.x.tn, .int .i64 j.wa, .int .i64 j.pr, .bool j.he, .slice Y j.af.length cj, .int .u8 j.st, .int .i64 j.ca] 33)) w.heap.size 26 #[.int .i64 d0, .int .i64 d1, .int .i64 d2, .int .i64 bo, .int .i64 fr, .int .i64 tr, .int .i64 ag, .slice (some ⟨kb, ko, none⟩) ks.length kc] := (Blk.new w _ _).alloc _
  have kj0 : Blk ((w.alloc (.cells #[.int .i64 d0, .int .i64 d1, .int .i64 d2, .int .i64 bo, .int .i64 fr, .int .i64 tr, .int .i64 ag, .slice (some ⟨kb, ko, none⟩) ks.length kc] 26)).alloc (.cells #[.int .i64 j.id, .int .i64 j.us, .int .i64 (m : Int), .int .i64 j.x.a, .int .i64 j.x.b, .int .i64 j.x.c, .bool j.x.p, .bool j.x.q, .bool j.x.r, .bool j.x.tn, .int .i64 j.wa, .int .i64 j.pr, .bool j.he, .slice Y j.af.length cj, .int .u8 j.st, .int .i64 j.ca] 33)) (w.heap.size + 1) 33 #[.int .i64 j.id, .int .i64 j.us, .int .i64 (m : Int), .int .i64 j.x.a, .int .i64 j.x.b, .int .i64 j.x.c, .bool j.x.p, .bool j.x.q, .bool j.x.r, .bool j.x.tn, .int .i64 j.wa, .int .i64 j.pr, .bool j.he, .slice Y j.af.length cj, .int .u8 j.st, .int .i64 j.ca] := blk1 w _ _
  have hb0 : Below w.heap.size w ((w.alloc (.cells #[.int .i64 d0, .int .i64 d1, .int .i64 d2, .int .i64 bo, .int .i64 fr, .int .i64 tr, .int .i64 ag, .slice (some ⟨kb, ko, none⟩) ks.length kc] 26)).alloc (.cells #[.int .i64 j.id, .int .i64 j.us, .int .i64 (m : Int), .int .i64 j.x.a, .int .i64 j.x.b, .int .i64 j.x.c, .bool j.x.p, .bool j.x.q, .bool j.x.r, .bool j.x.tn, .int .i64 j.wa, .int .i64 j.pr, .bool j.he, .slice Y j.af.length cj, .int .u8 j.st, .int .i64 j.ca] 33)) := below_alloc (below_alloc (Below.refl _ _))
  generalize ((w.alloc (.cells #[.int .i64 d0, .int .i64 d1, .int .i64 d2, .int .i64 bo, .int .i64 fr, .int .i64 tr, .int .i64 ag, .slice (some ⟨kb, ko, none⟩) ks.length kc] 26)).alloc (.cells #[.int .i64 j.id, .int .i64 j.us, .int .i64 (m : Int), .int .i64 j.x.a, .int .i64 j.x.b, .int .i64 j.x.c, .bool j.x.p, .bool j.x.q, .bool j.x.r, .bool j.x.tn, .int .i64 j.wa, .int .i64 j.pr, .bool j.he, .slice Y j.af.length cj, .int .u8 j.st, .int .i64 j.ca] 33)) = w0 at *
  have HB0 := Lib.hid hb0
  have KC0 := Lib.hid kc0
  have KJ0 := Lib.hid kj0
  clear hb0 kc0 kj0
  go_wp2_with (first | (refine wpList_load_row rfl 26 _ rfl _ rfl 26 #[.int .i64 d0, .int .i64 d1, .int .i64 d2, .int .i64 bo, .int .i64 fr, .int .i64 tr, .int .i64 ag, .slice (some ⟨kb, ko, none⟩) ks.length kc] (0, 0) _ KC0.out Try.underlying26 rfl (by kernel_rfl) ?_) | (refine wpList_load_row rfl 33 _ rfl _ rfl 33 #[.int .i64 j.id, .int .i64 j.us, .int .i64 (m : Int), .int .i64 j.x.a, .int .i64 j.x.b, .int .i64 j.x.c, .bool j.x.p, .bool j.x.q, .bool j.x.r, .bool j.x.tn, .int .i64 j.wa, .int .i64 j.pr, .bool j.he, .slice Y j.af.length cj, .int .u8 j.st, .int .i64 j.ca] (0, 0) _ KJ0.out Try.underlying33 rfl (by kernel_rfl) ?_))
  refine (HP.out _).mono ?_
  rintro e w1 ⟨rfl, hB1⟩
  have HB1 := Lib.hid (below_up HB0.out hB1)
  have KC1 := Lib.hid (KC0.out.below hB1 KC0.out.lt)
  have KJ1 := Lib.hid (KJ0.out.below hB1 KJ0.out.lt)
  clear hB1 KC0 KJ0
  go_wp2_with (first | (refine wpList_load_row rfl 33 _ rfl _ rfl 33 #[.int .i64 j.id, .int .i64 j.us, .int .i64 (m : Int), .int .i64 j.x.a, .int .i64 j.x.b, .int .i64 j.x.c, .bool j.x.p, .bool j.x.q, .bool j.x.r, .bool j.x.tn, .int .i64 j.wa, .int .i64 j.pr, .bool j.he, .slice Y j.af.length cj, .int .u8 j.st, .int .i64 j.ca] (0, 0) _ KJ1.out Try.underlying33 rfl (by kernel_rfl) ?_))
  refine (HA.out _ (HY.out.up HB1.out)).mono ?_
  rintro e w2 ⟨rfl, hB2⟩
  have HB2 := Lib.hid (below_up HB1.out hB2)
  have KC2 := Lib.hid (KC1.out.below hB2 KC1.out.lt)
  have KJ2 := Lib.hid (KJ1.out.below hB2 KJ1.out.lt)
  clear hB2 KC1 KJ1
  have x3 : w2.cell? ⟨w.heap.size + 1, 3, none⟩ = some (.int .i64 j.x.a) := KJ2.out.cell 3
  have x4 : w2.cell? ⟨w.heap.size + 1, 4, none⟩ = some (.int .i64 j.x.b) := KJ2.out.cell 4
  have x5 : w2.cell? ⟨w.heap.size + 1, 5, none⟩ = some (.int .i64 j.x.c) := KJ2.out.cell 5
  have x6 : w2.cell? ⟨w.heap.size + 1, 6, none⟩ = some (.bool j.x.p) := KJ2.out.cell 6
  have x7 : w2.cell? ⟨w.heap.size + 1, 7, none⟩ = some (.bool j.x.q) := KJ2.out.cell 7
  have x8 : w2.cell? ⟨w.heap.size + 1, 8, none⟩ = some (.bool j.x.r) := KJ2.out.cell 8
  have x9 : w2.cell? ⟨w.heap.size + 1, 9, none⟩ = some (.bool j.x.tn) := KJ2.out.cell 9
  go_wp2_with (first | fail)
  refine (wmay_ok _ _ _ _ _ _ _ H2.out _).mono ?_
  rintro e w3 ⟨rfl, hB3⟩
  have HB3 := Lib.hid (below_up HB2.out hB3)
  have KC3 := Lib.hid (KC2.out.below hB3 KC2.out.lt)
  have KJ3 := Lib.hid (KJ2.out.below hB3 KJ2.out.lt)
  clear hB3 KC2 KJ2
  clear x3 x4 x5 x6 x7 x8 x9
  have e0 : w3.cell? ⟨w.heap.size, 0, none⟩ = some (.int .i64 d0) := KC3.out.cell 0
  have e1 : w3.cell? ⟨w.heap.size, 1, none⟩ = some (.int .i64 d1) := KC3.out.cell 1
  have e2 : w3.cell? ⟨w.heap.size, 2, none⟩ = some (.int .i64 d2) := KC3.out.cell 2
  have x3 : w3.cell? ⟨w.heap.size + 1, 3, none⟩ = some (.int .i64 j.x.a) := KJ3.out.cell 3
  have x4 : w3.cell? ⟨w.heap.size + 1, 4, none⟩ = some (.int .i64 j.x.b) := KJ3.out.cell 4
  have x5 : w3.cell? ⟨w.heap.size + 1, 5, none⟩ = some (.int .i64 j.x.c) := KJ3.out.cell 5
  have x6 : w3.cell? ⟨w.heap.size + 1, 6, none⟩ = some (.bool j.x.p) := KJ3.out.cell 6
  have x7 : w3.cell? ⟨w.heap.size + 1, 7, none⟩ = some (.bool j.x.q) := KJ3.out.cell 7
  have x8 : w3.cell? ⟨w.heap.size + 1, 8, none⟩ = some (.bool j.x.r) := KJ3.out.cell 8
  have x9 : w3.cell? ⟨w.heap.size + 1, 9, none⟩ = some (.bool j.x.tn) := KJ3.out.cell 9
  go_wp2_with (first | fail)
  refine (HF.out _).mono ?_
  rintro e w4 ⟨rfl, hB4⟩
  have HB4 := Lib.hid (below_up HB3.out hB4)
  have KC4 := Lib.hid (KC3.out.below hB4 KC3.out.lt)
  have KJ4 := Lib.hid (KJ3.out.below hB4 KJ3.out.lt)
  clear hB4 KC3 KJ3
  clear e0 e1 e2 x3 x4 x5 x6 x7 x8 x9
  have x3 : w4.cell? ⟨w.heap.size + 1, 3, none⟩ = some (.int .i64 j.x.a) := KJ4.out.cell 3
  have x4 : w4.cell? ⟨w.heap.size + 1, 4, none⟩ = some (.int .i64 j.x.b) := KJ4.out.cell 4
  have x5 : w4.cell? ⟨w.heap.size + 1, 5, none⟩ = some (.int .i64 j.x.c) := KJ4.out.cell 5
  go_wp2_with fail
  clear x3 x4 x5
  have x2 : (w4.alloc (.cells #[.int .i64 j.x.a, .int .i64 j.x.b, .int .i64 j.x.c] 22)).cell? ⟨w.heap.size + 1, 2, none⟩ = some (.int .i64 (m : Int)) := (KJ4.out.alloc _).cell 2
  have x10 : (w4.alloc (.cells #[.int .i64 j.x.a, .int .i64 j.x.b, .int .i64 j.x.c] 22)).cell? ⟨w.heap.size + 1, 10, none⟩ = some (.int .i64 j.wa) := (KJ4.out.alloc _).cell 10
  have xk : (w4.alloc (.cells #[.int .i64 j.x.a, .int .i64 j.x.b, .int .i64 j.x.c] 22)).cell? ⟨w.heap.size, 7, none⟩ = some (.slice (some ⟨kb, ko, none⟩) ks.length kc) := (KC4.out.alloc _).cell 7
  have s0 : (w4.alloc (.cells #[.int .i64 j.x.a, .int .i64 j.x.b, .int .i64 j.x.c] 22)).cell? ⟨w4.heap.size, 0, none⟩ = some (.int .i64 j.x.a) := (Blk.new w4 _ _).cell 0
  have s1 : (w4.alloc (.cells #[.int .i64 j.x.a, .int .i64 j.x.b, .int .i64 j.x.c] 22)).cell? ⟨w4.heap.size, 1, none⟩ = some (.int .i64 j.x.b) := (Blk.new w4 _ _).cell 1
  have s2 : (w4.alloc (.cells #[.int .i64 j.x.a, .int .i64 j.x.b, .int .i64 j.x.c] 22)).cell? ⟨w4.heap.size, 2, none⟩ = some (.int .i64 j.x.c) := (Blk.new w4 _ _).cell 2
  have y1 : (w4.alloc (.cells #[.int .i64 j.x.a, .int .i64 j.x.b, .int .i64 j.x.c] 22)).cell? ⟨kb, ko + m * 4 + 1, none⟩ = some (.int .i64 k.2.1) := cell_over _ ((HB4.out.cell (p := ⟨kb, ko + m * 4 + 1, none⟩) HKB.out).trans HYK.out.1)
  have y2 : (w4.alloc (.cells #[.int .i64 j.x.a, .int .i64 j.x.b, .int .i64 j.x.c] 22)).cell? ⟨kb, ko + m * 4 + 2, none⟩ = some (.int .i64 k.2.2.1) := cell_over _ ((HB4.out.cell (p := ⟨kb, ko + m * 4 + 2, none⟩) HKB.out).trans HYK.out.2)
  have hb5 : Below w.heap.size w (w4.alloc (.cells #[.int .i64 j.x.a, .int .i64 j.x.b, .int .i64 j.x.c] 22)) := below_alloc HB4.out
  generalize (w4.alloc (.cells #[.int .i64 j.x.a, .int .i64 j.x.b, .int .i64 j.x.c] 22)) = w5 at *
  have HB5 := Lib.hid hb5
  clear hb5 HB4 KC4 KJ4
  have dd1 : decide (k.2.1 < j.wa) = true := decide_eq_true (by have := HN.out.1.1; omega)
  have kq0 := cell_regrown x2
  have kq1 := cell_regrown x10
  have kq2 := cell_regrown xk
  have kq3 := cell_regrown s0
  have kq4 := cell_regrown s1
  have kq5 := cell_regrown s2
  have kq6 := cell_regrown y1
  have kq7 := cell_regrown y2
  refine wp_region_quiet_below (by kernel_rfl) (by kernel_rfl) ?_
  repeat (go_big_quiet_step (first | fail))
  refine wpQuiet_nil ?_
  intro _ hw'
  obtain ⟨⟨dq, osq⟩, hw''⟩ := hw'
  subst hw''
  have hBq := below_regrown w5 dq osq
  clear kq0 kq1 kq2 kq3 kq4 kq5 kq6 kq7
  generalize grow (redrawn w5 dq) osq = w6 at *
  have HB6 := Lib.hid (below_up HB5.out hBq)
  clear hBq x2 x10 xk s0 s1 s2 y1 y2
  go_wp2_with fail
  go_ret
  exact ⟨rfl, HB6.out⟩
set_option maxRecDepth 100000 in
set_option maxHeartbeats 4000000 in
theorem rck_nodes (d0 d1 d2 bo fr tr ag : Int) (K : Option Addr) (kc : Nat) (ks : List Cls) (j : JV) (Y : Option Addr) (cj : Nat) (hl : ks.length ≤ 4611686018427387904) (hla : j.af.length ≤ 4611686018427387904) (h0 : plainB ks.length j = true) (h1 : afterB j = true) (h2 : WOk j.x) (h3 : (fitsV d0 d1 d2 j.x).1 = true) (h4 : j.wa ≤ (clsOf ks j.cl).2.1) (h5 : ¬ j.x.a * j.x.b * j.x.c ≤ (clsOf ks j.cl).2.2.1) (w : World) (hk : ClsAt w w.heap.size K ks) (hY : IntsAt w Y j.af) :
    Calls Try.prog 32 #[.agg #[.int .i64 d0, .int .i64 d1, .int .i64 d2, .int .i64 bo, .int .i64 fr, .int .i64 tr, .int .i64 ag, .slice K ks.length kc], .agg #[.int .i64 j.id, .int .i64 j.us, .int .i64 j.cl, .int .i64 j.x.a, .int .i64 j.x.b, .int .i64 j.x.c, .bool j.x.p, .bool j.x.q, .bool j.x.r, .bool j.x.tn, .int .i64 j.wa, .int .i64 j.pr, .bool j.he, .slice Y j.af.length cj, .int .u8 j.st, .int .i64 j.ca]] w fun e w' => e = .returned (.int .i64 181) ∧ Below w.heap.size w w' := by
  have HP := Lib.hid (fun w => rplain d0 d1 d2 bo fr tr ag K kc ks j Y cj hl _ h0 w)
  have HA := Lib.hid (fun w hY => rafter j Y cj hla _ h1 w hY)
  have HY := Lib.hid hY
  have H2 := Lib.hid h2
  have hcl := plain_cl h0
  obtain ⟨m, hm, hmk, hkm⟩ := cls_at hcl.1 hcl.2
  have hmi : (m : Int) < (ks.length : Int) := by omega
  have hmi0 : (0 : Int) ≤ (m : Int) := by omega
  have hf' : ∀ w, Calls Try.prog 59 #[.agg #[.int .i64 d0, .int .i64 d1, .int .i64 d2], .agg j.x.arr] w fun e w' => e = .returned (.tuple #[.bool (fitsV d0 d1 d2 j.x).1, .int .i64 (fitsV d0 d1 d2 j.x).2]) ∧ Below w.heap.size w w' := fun w => rfits_any d0 d1 d2 j.x w
  rw [h3] at hf'
  unfold WV.arr at hf'
  have HF := Lib.hid hf'
  obtain ⟨kb, ko, rfl, hkb, y0, y1, y2, y3⟩ := hk m _ hkm
  have HYK := Lib.hid (And.intro y1 y2)
  have HKB := Lib.hid hkb
  have hm3 := mul3 h2.1 h2.2.1 h2.2.2
  have f1 : IntKind.i64.wrap (j.x.a * j.x.b) = j.x.a * j.x.b := IntWalk.i64_in _ (by omega)
  have f2 : IntKind.i64.wrap (j.x.a * j.x.b * j.x.c) = j.x.a * j.x.b * j.x.c := IntWalk.i64_in _ (by omega)
  have HN := Lib.hid (And.intro (And.intro h4 h5) (And.intro f1 f2))
  generalize clsOf ks j.cl = k at *
  rw [hm] at HP HA ⊢
  clear hcl hm hkm hm3 hf' h3 f1 f2 y0 y1 y2 y3 hkb h4 h5
  clear hk hY h0 h1 h2
  go_enter Try.func32, Try.ntmps32
  go_upto_region 1 with fail
  have kc0 : Blk ((w.alloc (.cells #[.int .i64 d0, .int .i64 d1, .int .i64 d2, .int .i64 bo, .int .i64 fr, .int .i64 tr, .int .i64 ag, .slice (some ⟨kb, ko, none⟩) ks.length kc] 26)).alloc (.cells #[.int .i64 j.id, .int .i64 j.us, .int .i64 (m : Int), .int .i64 j.x.a, .int .i64 j.x.b, .int .i64 j.x.c, .bool j.x.p, .bool j.x.q, .bool j.x.r, .bool j.x.tn, .int .i64 j.wa, .int .i64 j.pr, .bool j.he, .slice Y j.af.length cj, .int .u8 j.st, .int .i64 j.ca] 33)) w.heap.size 26 #[.int .i64 d0, .int .i64 d1, .int .i64 d2, .int .i64 bo, .int .i64 fr, .int .i64 tr, .int .i64 ag, .slice (some ⟨kb, ko, none⟩) ks.length kc] := (Blk.new w _ _).alloc _
  have kj0 : Blk ((w.alloc (.cells #[.int .i64 d0, .int .i64 d1, .int .i64 d2, .int .i64 bo, .int .i64 fr, .int .i64 tr, .int .i64 ag, .slice (some ⟨kb, ko, none⟩) ks.length kc] 26)).alloc (.cells #[.int .i64 j.id, .int .i64 j.us, .int .i64 (m : Int), .int .i64 j.x.a, .int .i64 j.x.b, .int .i64 j.x.c, .bool j.x.p, .bool j.x.q, .bool j.x.r, .bool j.x.tn, .int .i64 j.wa, .int .i64 j.pr, .bool j.he, .slice Y j.af.length cj, .int .u8 j.st, .int .i64 j.ca] 33)) (w.heap.size + 1) 33 #[.int .i64 j.id, .int .i64 j.us, .int .i64 (m : Int), .int .i64 j.x.a, .int .i64 j.x.b, .int .i64 j.x.c, .bool j.x.p, .bool j.x.q, .bool j.x.r, .bool j.x.tn, .int .i64 j.wa, .int .i64 j.pr, .bool j.he, .slice Y j.af.length cj, .int .u8 j.st, .int .i64 j.ca] := blk1 w _ _
  have hb0 : Below w.heap.size w ((w.alloc (.cells #[.int .i64 d0, .int .i64 d1, .int .i64 d2, .int .i64 bo, .int .i64 fr, .int .i64 tr, .int .i64 ag, .slice (some ⟨kb, ko, none⟩) ks.length kc] 26)).alloc (.cells #[.int .i64 j.id, .int .i64 j.us, .int .i64 (m : Int), .int .i64 j.x.a, .int .i64 j.x.b, .int .i64 j.x.c, .bool j.x.p, .bool j.x.q, .bool j.x.r, .bool j.x.tn, .int .i64 j.wa, .int .i64 j.pr, .bool j.he, .slice Y j.af.length cj, .int .u8 j.st, .int .i64 j.ca] 33)) := below_alloc (below_alloc (Below.refl _ _))
  generalize ((w.alloc (.cells #[.int .i64 d0, .int .i64 d1, .int .i64 d2, .int .i64 bo, .int .i64 fr, .int .i64 tr, .int .i64 ag, .slice (some ⟨kb, ko, none⟩) ks.length kc] 26)).alloc (.cells #[.int .i64 j.id, .int .i64 j.us, .int .i64 (m : Int), .int .i64 j.x.a, .int .i64 j.x.b, .int .i64 j.x.c, .bool j.x.p, .bool j.x.q, .bool j.x.r, .bool j.x.tn, .int .i64 j.wa, .int .i64 j.pr, .bool j.he, .slice Y j.af.length cj, .int .u8 j.st, .int .i64 j.ca] 33)) = w0 at *
  have HB0 := Lib.hid hb0
  have KC0 := Lib.hid kc0
  have KJ0 := Lib.hid kj0
  clear hb0 kc0 kj0
  go_wp2_with (first | (refine wpList_load_row rfl 26 _ rfl _ rfl 26 #[.int .i64 d0, .int .i64 d1, .int .i64 d2, .int .i64 bo, .int .i64 fr, .int .i64 tr, .int .i64 ag, .slice (some ⟨kb, ko, none⟩) ks.length kc] (0, 0) _ KC0.out Try.underlying26 rfl (by kernel_rfl) ?_) | (refine wpList_load_row rfl 33 _ rfl _ rfl 33 #[.int .i64 j.id, .int .i64 j.us, .int .i64 (m : Int), .int .i64 j.x.a, .int .i64 j.x.b, .int .i64 j.x.c, .bool j.x.p, .bool j.x.q, .bool j.x.r, .bool j.x.tn, .int .i64 j.wa, .int .i64 j.pr, .bool j.he, .slice Y j.af.length cj, .int .u8 j.st, .int .i64 j.ca] (0, 0) _ KJ0.out Try.underlying33 rfl (by kernel_rfl) ?_))
  refine (HP.out _).mono ?_
  rintro e w1 ⟨rfl, hB1⟩
  have HB1 := Lib.hid (below_up HB0.out hB1)
  have KC1 := Lib.hid (KC0.out.below hB1 KC0.out.lt)
  have KJ1 := Lib.hid (KJ0.out.below hB1 KJ0.out.lt)
  clear hB1 KC0 KJ0
  go_wp2_with (first | (refine wpList_load_row rfl 33 _ rfl _ rfl 33 #[.int .i64 j.id, .int .i64 j.us, .int .i64 (m : Int), .int .i64 j.x.a, .int .i64 j.x.b, .int .i64 j.x.c, .bool j.x.p, .bool j.x.q, .bool j.x.r, .bool j.x.tn, .int .i64 j.wa, .int .i64 j.pr, .bool j.he, .slice Y j.af.length cj, .int .u8 j.st, .int .i64 j.ca] (0, 0) _ KJ1.out Try.underlying33 rfl (by kernel_rfl) ?_))
  refine (HA.out _ (HY.out.up HB1.out)).mono ?_
  rintro e w2 ⟨rfl, hB2⟩
  have HB2 := Lib.hid (below_up HB1.out hB2)
  have KC2 := Lib.hid (KC1.out.below hB2 KC1.out.lt)
  have KJ2 := Lib.hid (KJ1.out.below hB2 KJ1.out.lt)
  clear hB2 KC1 KJ1
  have x3 : w2.cell? ⟨w.heap.size + 1, 3, none⟩ = some (.int .i64 j.x.a) := KJ2.out.cell 3
  have x4 : w2.cell? ⟨w.heap.size + 1, 4, none⟩ = some (.int .i64 j.x.b) := KJ2.out.cell 4
  have x5 : w2.cell? ⟨w.heap.size + 1, 5, none⟩ = some (.int .i64 j.x.c) := KJ2.out.cell 5
  have x6 : w2.cell? ⟨w.heap.size + 1, 6, none⟩ = some (.bool j.x.p) := KJ2.out.cell 6
  have x7 : w2.cell? ⟨w.heap.size + 1, 7, none⟩ = some (.bool j.x.q) := KJ2.out.cell 7
  have x8 : w2.cell? ⟨w.heap.size + 1, 8, none⟩ = some (.bool j.x.r) := KJ2.out.cell 8
  have x9 : w2.cell? ⟨w.heap.size + 1, 9, none⟩ = some (.bool j.x.tn) := KJ2.out.cell 9
  go_wp2_with (first | fail)
  refine (wmay_ok _ _ _ _ _ _ _ H2.out _).mono ?_
  rintro e w3 ⟨rfl, hB3⟩
  have HB3 := Lib.hid (below_up HB2.out hB3)
  have KC3 := Lib.hid (KC2.out.below hB3 KC2.out.lt)
  have KJ3 := Lib.hid (KJ2.out.below hB3 KJ2.out.lt)
  clear hB3 KC2 KJ2
  clear x3 x4 x5 x6 x7 x8 x9
  have e0 : w3.cell? ⟨w.heap.size, 0, none⟩ = some (.int .i64 d0) := KC3.out.cell 0
  have e1 : w3.cell? ⟨w.heap.size, 1, none⟩ = some (.int .i64 d1) := KC3.out.cell 1
  have e2 : w3.cell? ⟨w.heap.size, 2, none⟩ = some (.int .i64 d2) := KC3.out.cell 2
  have x3 : w3.cell? ⟨w.heap.size + 1, 3, none⟩ = some (.int .i64 j.x.a) := KJ3.out.cell 3
  have x4 : w3.cell? ⟨w.heap.size + 1, 4, none⟩ = some (.int .i64 j.x.b) := KJ3.out.cell 4
  have x5 : w3.cell? ⟨w.heap.size + 1, 5, none⟩ = some (.int .i64 j.x.c) := KJ3.out.cell 5
  have x6 : w3.cell? ⟨w.heap.size + 1, 6, none⟩ = some (.bool j.x.p) := KJ3.out.cell 6
  have x7 : w3.cell? ⟨w.heap.size + 1, 7, none⟩ = some (.bool j.x.q) := KJ3.out.cell 7
  have x8 : w3.cell? ⟨w.heap.size + 1, 8, none⟩ = some (.bool j.x.r) := KJ3.out.cell 8
  have x9 : w3.cell? ⟨w.heap.size + 1, 9, none⟩ = some (.bool j.x.tn) := KJ3.out.cell 9
  go_wp2_with (first | fail)
  refine (HF.out _).mono ?_
  rintro e w4 ⟨rfl, hB4⟩
  have HB4 := Lib.hid (below_up HB3.out hB4)
  have KC4 := Lib.hid (KC3.out.below hB4 KC3.out.lt)
  have KJ4 := Lib.hid (KJ3.out.below hB4 KJ3.out.lt)
  clear hB4 KC3 KJ3
  clear e0 e1 e2 x3 x4 x5 x6 x7 x8 x9
  have x3 : w4.cell? ⟨w.heap.size + 1, 3, none⟩ = some (.int .i64 j.x.a) := KJ4.out.cell 3
  have x4 : w4.cell? ⟨w.heap.size + 1, 4, none⟩ = some (.int .i64 j.x.b) := KJ4.out.cell 4
  have x5 : w4.cell? ⟨w.heap.size + 1, 5, none⟩ = some (.int .i64 j.x.c) := KJ4.out.cell 5
  go_wp2_with fail
  clear x3 x4 x5
  have x2 : (w4.alloc (.cells #[.int .i64 j.x.a, .int .i64 j.x.b, .int .i64 j.x.c] 22)).cell? ⟨w.heap.size + 1, 2, none⟩ = some (.int .i64 (m : Int)) := (KJ4.out.alloc _).cell 2
  have x10 : (w4.alloc (.cells #[.int .i64 j.x.a, .int .i64 j.x.b, .int .i64 j.x.c] 22)).cell? ⟨w.heap.size + 1, 10, none⟩ = some (.int .i64 j.wa) := (KJ4.out.alloc _).cell 10
  have xk : (w4.alloc (.cells #[.int .i64 j.x.a, .int .i64 j.x.b, .int .i64 j.x.c] 22)).cell? ⟨w.heap.size, 7, none⟩ = some (.slice (some ⟨kb, ko, none⟩) ks.length kc) := (KC4.out.alloc _).cell 7
  have s0 : (w4.alloc (.cells #[.int .i64 j.x.a, .int .i64 j.x.b, .int .i64 j.x.c] 22)).cell? ⟨w4.heap.size, 0, none⟩ = some (.int .i64 j.x.a) := (Blk.new w4 _ _).cell 0
  have s1 : (w4.alloc (.cells #[.int .i64 j.x.a, .int .i64 j.x.b, .int .i64 j.x.c] 22)).cell? ⟨w4.heap.size, 1, none⟩ = some (.int .i64 j.x.b) := (Blk.new w4 _ _).cell 1
  have s2 : (w4.alloc (.cells #[.int .i64 j.x.a, .int .i64 j.x.b, .int .i64 j.x.c] 22)).cell? ⟨w4.heap.size, 2, none⟩ = some (.int .i64 j.x.c) := (Blk.new w4 _ _).cell 2
  have y1 : (w4.alloc (.cells #[.int .i64 j.x.a, .int .i64 j.x.b, .int .i64 j.x.c] 22)).cell? ⟨kb, ko + m * 4 + 1, none⟩ = some (.int .i64 k.2.1) := cell_over _ ((HB4.out.cell (p := ⟨kb, ko + m * 4 + 1, none⟩) HKB.out).trans HYK.out.1)
  have y2 : (w4.alloc (.cells #[.int .i64 j.x.a, .int .i64 j.x.b, .int .i64 j.x.c] 22)).cell? ⟨kb, ko + m * 4 + 2, none⟩ = some (.int .i64 k.2.2.1) := cell_over _ ((HB4.out.cell (p := ⟨kb, ko + m * 4 + 2, none⟩) HKB.out).trans HYK.out.2)
  have hb5 : Below w.heap.size w (w4.alloc (.cells #[.int .i64 j.x.a, .int .i64 j.x.b, .int .i64 j.x.c] 22)) := below_alloc HB4.out
  generalize (w4.alloc (.cells #[.int .i64 j.x.a, .int .i64 j.x.b, .int .i64 j.x.c] 22)) = w5 at *
  have HB5 := Lib.hid hb5
  clear hb5 HB4 KC4 KJ4
  have dd1 : decide (k.2.1 < j.wa) = false := decide_eq_false (by have := HN.out.1.1; omega)
  have dd2 : decide (k.2.2.1 < j.x.a * j.x.b * j.x.c) = true := decide_eq_true (by have := HN.out.1.2; omega)
  have f1 := HN.out.2.1
  have f2 := HN.out.2.2
  have kq0 := cell_regrown x2
  have kq1 := cell_regrown x10
  have kq2 := cell_regrown xk
  have kq3 := cell_regrown s0
  have kq4 := cell_regrown s1
  have kq5 := cell_regrown s2
  have kq6 := cell_regrown y1
  have kq7 := cell_regrown y2
  refine wp_region_quiet_below (by kernel_rfl) (by kernel_rfl) ?_
  repeat (go_big_quiet_step (first | fail))
  refine wpQuiet_nil ?_
  intro _ hw'
  obtain ⟨⟨dq, osq⟩, hw''⟩ := hw'
  subst hw''
  have hBq := below_regrown w5 dq osq
  clear kq0 kq1 kq2 kq3 kq4 kq5 kq6 kq7
  generalize grow (redrawn w5 dq) osq = w6 at *
  have HB6 := Lib.hid (below_up HB5.out hBq)
  clear hBq x2 x10 xk s0 s1 s2 y1 y2
  go_wp2_with fail
  go_ret
  exact ⟨rfl, HB6.out⟩
set_option maxRecDepth 100000 in
set_option maxHeartbeats 4000000 in
theorem rck_ok (d0 d1 d2 bo fr tr ag : Int) (K : Option Addr) (kc : Nat) (ks : List Cls) (j : JV) (Y : Option Addr) (cj : Nat) (hl : ks.length ≤ 4611686018427387904) (hla : j.af.length ≤ 4611686018427387904) (h0 : plainB ks.length j = true) (h1 : afterB j = true) (h2 : WOk j.x) (h3 : (fitsV d0 d1 d2 j.x).1 = true) (h4 : j.wa ≤ (clsOf ks j.cl).2.1) (h5 : j.x.a * j.x.b * j.x.c ≤ (clsOf ks j.cl).2.2.1) (w : World) (hk : ClsAt w w.heap.size K ks) (hY : IntsAt w Y j.af) :
    Calls Try.prog 32 #[.agg #[.int .i64 d0, .int .i64 d1, .int .i64 d2, .int .i64 bo, .int .i64 fr, .int .i64 tr, .int .i64 ag, .slice K ks.length kc], .agg #[.int .i64 j.id, .int .i64 j.us, .int .i64 j.cl, .int .i64 j.x.a, .int .i64 j.x.b, .int .i64 j.x.c, .bool j.x.p, .bool j.x.q, .bool j.x.r, .bool j.x.tn, .int .i64 j.wa, .int .i64 j.pr, .bool j.he, .slice Y j.af.length cj, .int .u8 j.st, .int .i64 j.ca]] w fun e w' => e = .returned (.int .i64 0) ∧ Below w.heap.size w w' := by
  have HP := Lib.hid (fun w => rplain d0 d1 d2 bo fr tr ag K kc ks j Y cj hl _ h0 w)
  have HA := Lib.hid (fun w hY => rafter j Y cj hla _ h1 w hY)
  have HY := Lib.hid hY
  have H2 := Lib.hid h2
  have hcl := plain_cl h0
  obtain ⟨m, hm, hmk, hkm⟩ := cls_at hcl.1 hcl.2
  have hmi : (m : Int) < (ks.length : Int) := by omega
  have hmi0 : (0 : Int) ≤ (m : Int) := by omega
  have hf' : ∀ w, Calls Try.prog 59 #[.agg #[.int .i64 d0, .int .i64 d1, .int .i64 d2], .agg j.x.arr] w fun e w' => e = .returned (.tuple #[.bool (fitsV d0 d1 d2 j.x).1, .int .i64 (fitsV d0 d1 d2 j.x).2]) ∧ Below w.heap.size w w' := fun w => rfits_any d0 d1 d2 j.x w
  rw [h3] at hf'
  unfold WV.arr at hf'
  have HF := Lib.hid hf'
  obtain ⟨kb, ko, rfl, hkb, y0, y1, y2, y3⟩ := hk m _ hkm
  have HYK := Lib.hid (And.intro y1 y2)
  have HKB := Lib.hid hkb
  have hm3 := mul3 h2.1 h2.2.1 h2.2.2
  have f1 : IntKind.i64.wrap (j.x.a * j.x.b) = j.x.a * j.x.b := IntWalk.i64_in _ (by omega)
  have f2 : IntKind.i64.wrap (j.x.a * j.x.b * j.x.c) = j.x.a * j.x.b * j.x.c := IntWalk.i64_in _ (by omega)
  have HN := Lib.hid (And.intro (And.intro h4 h5) (And.intro f1 f2))
  generalize clsOf ks j.cl = k at *
  rw [hm] at HP HA ⊢
  clear hcl hm hkm hm3 hf' h3 f1 f2 y0 y1 y2 y3 hkb h4 h5
  clear hk hY h0 h1 h2
  go_enter Try.func32, Try.ntmps32
  go_upto_region 1 with fail
  have kc0 : Blk ((w.alloc (.cells #[.int .i64 d0, .int .i64 d1, .int .i64 d2, .int .i64 bo, .int .i64 fr, .int .i64 tr, .int .i64 ag, .slice (some ⟨kb, ko, none⟩) ks.length kc] 26)).alloc (.cells #[.int .i64 j.id, .int .i64 j.us, .int .i64 (m : Int), .int .i64 j.x.a, .int .i64 j.x.b, .int .i64 j.x.c, .bool j.x.p, .bool j.x.q, .bool j.x.r, .bool j.x.tn, .int .i64 j.wa, .int .i64 j.pr, .bool j.he, .slice Y j.af.length cj, .int .u8 j.st, .int .i64 j.ca] 33)) w.heap.size 26 #[.int .i64 d0, .int .i64 d1, .int .i64 d2, .int .i64 bo, .int .i64 fr, .int .i64 tr, .int .i64 ag, .slice (some ⟨kb, ko, none⟩) ks.length kc] := (Blk.new w _ _).alloc _
  have kj0 : Blk ((w.alloc (.cells #[.int .i64 d0, .int .i64 d1, .int .i64 d2, .int .i64 bo, .int .i64 fr, .int .i64 tr, .int .i64 ag, .slice (some ⟨kb, ko, none⟩) ks.length kc] 26)).alloc (.cells #[.int .i64 j.id, .int .i64 j.us, .int .i64 (m : Int), .int .i64 j.x.a, .int .i64 j.x.b, .int .i64 j.x.c, .bool j.x.p, .bool j.x.q, .bool j.x.r, .bool j.x.tn, .int .i64 j.wa, .int .i64 j.pr, .bool j.he, .slice Y j.af.length cj, .int .u8 j.st, .int .i64 j.ca] 33)) (w.heap.size + 1) 33 #[.int .i64 j.id, .int .i64 j.us, .int .i64 (m : Int), .int .i64 j.x.a, .int .i64 j.x.b, .int .i64 j.x.c, .bool j.x.p, .bool j.x.q, .bool j.x.r, .bool j.x.tn, .int .i64 j.wa, .int .i64 j.pr, .bool j.he, .slice Y j.af.length cj, .int .u8 j.st, .int .i64 j.ca] := blk1 w _ _
  have hb0 : Below w.heap.size w ((w.alloc (.cells #[.int .i64 d0, .int .i64 d1, .int .i64 d2, .int .i64 bo, .int .i64 fr, .int .i64 tr, .int .i64 ag, .slice (some ⟨kb, ko, none⟩) ks.length kc] 26)).alloc (.cells #[.int .i64 j.id, .int .i64 j.us, .int .i64 (m : Int), .int .i64 j.x.a, .int .i64 j.x.b, .int .i64 j.x.c, .bool j.x.p, .bool j.x.q, .bool j.x.r, .bool j.x.tn, .int .i64 j.wa, .int .i64 j.pr, .bool j.he, .slice Y j.af.length cj, .int .u8 j.st, .int .i64 j.ca] 33)) := below_alloc (below_alloc (Below.refl _ _))
  generalize ((w.alloc (.cells #[.int .i64 d0, .int .i64 d1, .int .i64 d2, .int .i64 bo, .int .i64 fr, .int .i64 tr, .int .i64 ag, .slice (some ⟨kb, ko, none⟩) ks.length kc] 26)).alloc (.cells #[.int .i64 j.id, .int .i64 j.us, .int .i64 (m : Int), .int .i64 j.x.a, .int .i64 j.x.b, .int .i64 j.x.c, .bool j.x.p, .bool j.x.q, .bool j.x.r, .bool j.x.tn, .int .i64 j.wa, .int .i64 j.pr, .bool j.he, .slice Y j.af.length cj, .int .u8 j.st, .int .i64 j.ca] 33)) = w0 at *
  have HB0 := Lib.hid hb0
  have KC0 := Lib.hid kc0
  have KJ0 := Lib.hid kj0
  clear hb0 kc0 kj0
  go_wp2_with (first | (refine wpList_load_row rfl 26 _ rfl _ rfl 26 #[.int .i64 d0, .int .i64 d1, .int .i64 d2, .int .i64 bo, .int .i64 fr, .int .i64 tr, .int .i64 ag, .slice (some ⟨kb, ko, none⟩) ks.length kc] (0, 0) _ KC0.out Try.underlying26 rfl (by kernel_rfl) ?_) | (refine wpList_load_row rfl 33 _ rfl _ rfl 33 #[.int .i64 j.id, .int .i64 j.us, .int .i64 (m : Int), .int .i64 j.x.a, .int .i64 j.x.b, .int .i64 j.x.c, .bool j.x.p, .bool j.x.q, .bool j.x.r, .bool j.x.tn, .int .i64 j.wa, .int .i64 j.pr, .bool j.he, .slice Y j.af.length cj, .int .u8 j.st, .int .i64 j.ca] (0, 0) _ KJ0.out Try.underlying33 rfl (by kernel_rfl) ?_))
  refine (HP.out _).mono ?_
  rintro e w1 ⟨rfl, hB1⟩
  have HB1 := Lib.hid (below_up HB0.out hB1)
  have KC1 := Lib.hid (KC0.out.below hB1 KC0.out.lt)
  have KJ1 := Lib.hid (KJ0.out.below hB1 KJ0.out.lt)
  clear hB1 KC0 KJ0
  go_wp2_with (first | (refine wpList_load_row rfl 33 _ rfl _ rfl 33 #[.int .i64 j.id, .int .i64 j.us, .int .i64 (m : Int), .int .i64 j.x.a, .int .i64 j.x.b, .int .i64 j.x.c, .bool j.x.p, .bool j.x.q, .bool j.x.r, .bool j.x.tn, .int .i64 j.wa, .int .i64 j.pr, .bool j.he, .slice Y j.af.length cj, .int .u8 j.st, .int .i64 j.ca] (0, 0) _ KJ1.out Try.underlying33 rfl (by kernel_rfl) ?_))
  refine (HA.out _ (HY.out.up HB1.out)).mono ?_
  rintro e w2 ⟨rfl, hB2⟩
  have HB2 := Lib.hid (below_up HB1.out hB2)
  have KC2 := Lib.hid (KC1.out.below hB2 KC1.out.lt)
  have KJ2 := Lib.hid (KJ1.out.below hB2 KJ1.out.lt)
  clear hB2 KC1 KJ1
  have x3 : w2.cell? ⟨w.heap.size + 1, 3, none⟩ = some (.int .i64 j.x.a) := KJ2.out.cell 3
  have x4 : w2.cell? ⟨w.heap.size + 1, 4, none⟩ = some (.int .i64 j.x.b) := KJ2.out.cell 4
  have x5 : w2.cell? ⟨w.heap.size + 1, 5, none⟩ = some (.int .i64 j.x.c) := KJ2.out.cell 5
  have x6 : w2.cell? ⟨w.heap.size + 1, 6, none⟩ = some (.bool j.x.p) := KJ2.out.cell 6
  have x7 : w2.cell? ⟨w.heap.size + 1, 7, none⟩ = some (.bool j.x.q) := KJ2.out.cell 7
  have x8 : w2.cell? ⟨w.heap.size + 1, 8, none⟩ = some (.bool j.x.r) := KJ2.out.cell 8
  have x9 : w2.cell? ⟨w.heap.size + 1, 9, none⟩ = some (.bool j.x.tn) := KJ2.out.cell 9
  go_wp2_with (first | fail)
  refine (wmay_ok _ _ _ _ _ _ _ H2.out _).mono ?_
  rintro e w3 ⟨rfl, hB3⟩
  have HB3 := Lib.hid (below_up HB2.out hB3)
  have KC3 := Lib.hid (KC2.out.below hB3 KC2.out.lt)
  have KJ3 := Lib.hid (KJ2.out.below hB3 KJ2.out.lt)
  clear hB3 KC2 KJ2
  clear x3 x4 x5 x6 x7 x8 x9
  have e0 : w3.cell? ⟨w.heap.size, 0, none⟩ = some (.int .i64 d0) := KC3.out.cell 0
  have e1 : w3.cell? ⟨w.heap.size, 1, none⟩ = some (.int .i64 d1) := KC3.out.cell 1
  have e2 : w3.cell? ⟨w.heap.size, 2, none⟩ = some (.int .i64 d2) := KC3.out.cell 2
  have x3 : w3.cell? ⟨w.heap.size + 1, 3, none⟩ = some (.int .i64 j.x.a) := KJ3.out.cell 3
  have x4 : w3.cell? ⟨w.heap.size + 1, 4, none⟩ = some (.int .i64 j.x.b) := KJ3.out.cell 4
  have x5 : w3.cell? ⟨w.heap.size + 1, 5, none⟩ = some (.int .i64 j.x.c) := KJ3.out.cell 5
  have x6 : w3.cell? ⟨w.heap.size + 1, 6, none⟩ = some (.bool j.x.p) := KJ3.out.cell 6
  have x7 : w3.cell? ⟨w.heap.size + 1, 7, none⟩ = some (.bool j.x.q) := KJ3.out.cell 7
  have x8 : w3.cell? ⟨w.heap.size + 1, 8, none⟩ = some (.bool j.x.r) := KJ3.out.cell 8
  have x9 : w3.cell? ⟨w.heap.size + 1, 9, none⟩ = some (.bool j.x.tn) := KJ3.out.cell 9
  go_wp2_with (first | fail)
  refine (HF.out _).mono ?_
  rintro e w4 ⟨rfl, hB4⟩
  have HB4 := Lib.hid (below_up HB3.out hB4)
  have KC4 := Lib.hid (KC3.out.below hB4 KC3.out.lt)
  have KJ4 := Lib.hid (KJ3.out.below hB4 KJ3.out.lt)
  clear hB4 KC3 KJ3
  clear e0 e1 e2 x3 x4 x5 x6 x7 x8 x9
  have x3 : w4.cell? ⟨w.heap.size + 1, 3, none⟩ = some (.int .i64 j.x.a) := KJ4.out.cell 3
  have x4 : w4.cell? ⟨w.heap.size + 1, 4, none⟩ = some (.int .i64 j.x.b) := KJ4.out.cell 4
  have x5 : w4.cell? ⟨w.heap.size + 1, 5, none⟩ = some (.int .i64 j.x.c) := KJ4.out.cell 5
  go_wp2_with fail
  clear x3 x4 x5
  have x2 : (w4.alloc (.cells #[.int .i64 j.x.a, .int .i64 j.x.b, .int .i64 j.x.c] 22)).cell? ⟨w.heap.size + 1, 2, none⟩ = some (.int .i64 (m : Int)) := (KJ4.out.alloc _).cell 2
  have x10 : (w4.alloc (.cells #[.int .i64 j.x.a, .int .i64 j.x.b, .int .i64 j.x.c] 22)).cell? ⟨w.heap.size + 1, 10, none⟩ = some (.int .i64 j.wa) := (KJ4.out.alloc _).cell 10
  have xk : (w4.alloc (.cells #[.int .i64 j.x.a, .int .i64 j.x.b, .int .i64 j.x.c] 22)).cell? ⟨w.heap.size, 7, none⟩ = some (.slice (some ⟨kb, ko, none⟩) ks.length kc) := (KC4.out.alloc _).cell 7
  have s0 : (w4.alloc (.cells #[.int .i64 j.x.a, .int .i64 j.x.b, .int .i64 j.x.c] 22)).cell? ⟨w4.heap.size, 0, none⟩ = some (.int .i64 j.x.a) := (Blk.new w4 _ _).cell 0
  have s1 : (w4.alloc (.cells #[.int .i64 j.x.a, .int .i64 j.x.b, .int .i64 j.x.c] 22)).cell? ⟨w4.heap.size, 1, none⟩ = some (.int .i64 j.x.b) := (Blk.new w4 _ _).cell 1
  have s2 : (w4.alloc (.cells #[.int .i64 j.x.a, .int .i64 j.x.b, .int .i64 j.x.c] 22)).cell? ⟨w4.heap.size, 2, none⟩ = some (.int .i64 j.x.c) := (Blk.new w4 _ _).cell 2
  have y1 : (w4.alloc (.cells #[.int .i64 j.x.a, .int .i64 j.x.b, .int .i64 j.x.c] 22)).cell? ⟨kb, ko + m * 4 + 1, none⟩ = some (.int .i64 k.2.1) := cell_over _ ((HB4.out.cell (p := ⟨kb, ko + m * 4 + 1, none⟩) HKB.out).trans HYK.out.1)
  have y2 : (w4.alloc (.cells #[.int .i64 j.x.a, .int .i64 j.x.b, .int .i64 j.x.c] 22)).cell? ⟨kb, ko + m * 4 + 2, none⟩ = some (.int .i64 k.2.2.1) := cell_over _ ((HB4.out.cell (p := ⟨kb, ko + m * 4 + 2, none⟩) HKB.out).trans HYK.out.2)
  have hb5 : Below w.heap.size w (w4.alloc (.cells #[.int .i64 j.x.a, .int .i64 j.x.b, .int .i64 j.x.c] 22)) := below_alloc HB4.out
  generalize (w4.alloc (.cells #[.int .i64 j.x.a, .int .i64 j.x.b, .int .i64 j.x.c] 22)) = w5 at *
  have HB5 := Lib.hid hb5
  clear hb5 HB4 KC4 KJ4
  have dd1 : decide (k.2.1 < j.wa) = false := decide_eq_false (by have := HN.out.1.1; omega)
  have dd2 : decide (k.2.2.1 < j.x.a * j.x.b * j.x.c) = false := decide_eq_false (by have := HN.out.1.2; omega)
  have f1 := HN.out.2.1
  have f2 := HN.out.2.2
  have kq0 := cell_regrown x2
  have kq1 := cell_regrown x10
  have kq2 := cell_regrown xk
  have kq3 := cell_regrown s0
  have kq4 := cell_regrown s1
  have kq5 := cell_regrown s2
  have kq6 := cell_regrown y1
  have kq7 := cell_regrown y2
  refine wp_region_quiet_below (by kernel_rfl) (by kernel_rfl) ?_
  repeat (go_big_quiet_step (first | fail))
  refine wpQuiet_nil ?_
  intro _ hw'
  obtain ⟨⟨dq, osq⟩, hw''⟩ := hw'
  subst hw''
  have hBq := below_regrown w5 dq osq
  clear kq0 kq1 kq2 kq3 kq4 kq5 kq6 kq7
  generalize grow (redrawn w5 dq) osq = w6 at *
  have HB6 := Lib.hid (below_up HB5.out hBq)
  clear hBq x2 x10 xk s0 s1 s2 y1 y2
  go_wp2_with fail
  go_ret
  exact ⟨rfl, HB6.out⟩
/-- The reference's Checked: for all configs and jobs. -/
theorem rchecked (d0 d1 d2 bo fr tr ag : Int) (K : Option Addr) (kc : Nat) (ks : List Cls) (j : JV) (Y : Option Addr) (cj : Nat) (hl : ks.length ≤ 4611686018427387904) (hla : j.af.length ≤ 4611686018427387904) (w : World) (hk : ClsAt w w.heap.size K ks) (hY : IntsAt w Y j.af) :
    Calls Try.prog 32 #[.agg #[.int .i64 d0, .int .i64 d1, .int .i64 d2, .int .i64 bo, .int .i64 fr, .int .i64 tr, .int .i64 ag, .slice K ks.length kc], .agg #[.int .i64 j.id, .int .i64 j.us, .int .i64 j.cl, .int .i64 j.x.a, .int .i64 j.x.b, .int .i64 j.x.c, .bool j.x.p, .bool j.x.q, .bool j.x.r, .bool j.x.tn, .int .i64 j.wa, .int .i64 j.pr, .bool j.he, .slice Y j.af.length cj, .int .u8 j.st, .int .i64 j.ca]] w fun e w' => e = .returned (.int .i64 (checkV d0 d1 d2 ks j)) ∧ Below w.heap.size w w' := by
  unfold checkV
  cases h0 : plainB ks.length j
  · rw [if_pos rfl]; exact rck_plain d0 d1 d2 bo fr tr ag K kc ks j Y cj hl hla h0 w hk hY
  · rw [if_neg (by simp)]
    cases h1 : afterB j
    · rw [if_pos rfl]; exact rck_after d0 d1 d2 bo fr tr ag K kc ks j Y cj hl hla h0 h1 w hk hY
    · rw [if_neg (by simp)]
      by_cases h2 : WOk j.x
      · rw [if_neg (fun h => h h2)]
        cases h3 : (fitsV d0 d1 d2 j.x).1
        · rw [if_pos rfl]; exact rck_shape d0 d1 d2 bo fr tr ag K kc ks j Y cj hl hla h0 h1 h2 h3 w hk hY
        · rw [if_neg (by simp)]
          unfold limB
          by_cases h4 : j.wa ≤ (clsOf ks j.cl).2.1
          · by_cases h5 : j.x.a * j.x.b * j.x.c ≤ (clsOf ks j.cl).2.2.1
            · rw [if_neg (by simp [h4, h5])]; exact rck_ok d0 d1 d2 bo fr tr ag K kc ks j Y cj hl hla h0 h1 h2 h3 h4 h5 w hk hY
            · rw [if_pos (by simp [h5])]; exact rck_nodes d0 d1 d2 bo fr tr ag K kc ks j Y cj hl hla h0 h1 h2 h3 h4 h5 w hk hY
          · rw [if_pos (by simp [h4])]; exact rck_wall d0 d1 d2 bo fr tr ag K kc ks j Y cj hl hla h0 h1 h2 h3 h4 w hk hY
      · rw [if_pos h2]; exact rck_wants d0 d1 d2 bo fr tr ag K kc ks j Y cj hl hla h0 h1 h2 w hk hY
set_option maxRecDepth 100000 in
set_option maxHeartbeats 4000000 in
theorem rCheck_bad (d0 d1 d2 bo fr tr ag : Int) (K : Option Addr) (kc : Nat) (ks : List Cls) (j : JV) (Y : Option Addr) (cj : Nat) (hl : ks.length ≤ 4611686018427387904) (hla : j.af.length ≤ 4611686018427387904) (h : ¬ CfgOk d0 d1 d2 bo fr tr ag ks) (w : World) (hk : ClsAt w w.heap.size K ks) (hY : IntsAt w Y j.af) :
    Calls Try.prog 14 #[.agg #[.int .i64 d0, .int .i64 d1, .int .i64 d2, .int .i64 bo, .int .i64 fr, .int .i64 tr, .int .i64 ag, .slice K ks.length kc], .agg #[.int .i64 j.id, .int .i64 j.us, .int .i64 j.cl, .int .i64 j.x.a, .int .i64 j.x.b, .int .i64 j.x.c, .bool j.x.p, .bool j.x.q, .bool j.x.r, .bool j.x.tn, .int .i64 j.wa, .int .i64 j.pr, .bool j.he, .slice Y j.af.length cj, .int .u8 j.st, .int .i64 j.ca]] w fun e w' => e = .returned (.int .i64 8) ∧ Below w.heap.size w w' := by
  have HP := Lib.hid (fun w hk => rmay_bad d0 d1 d2 bo fr tr ag K kc ks (by omega) h w hk)
  have HC := Lib.hid (fun w hk hY => rchecked d0 d1 d2 bo fr tr ag K kc ks j Y cj hl hla w hk hY)
  have HK := Lib.hid hk
  have HY := Lib.hid hY
  clear hk hY h
  go_enter Try.func14, Try.ntmps14
  go_upto_region 1 with fail
  have kc0 : Blk ((w.alloc (.cells #[.int .i64 d0, .int .i64 d1, .int .i64 d2, .int .i64 bo, .int .i64 fr, .int .i64 tr, .int .i64 ag, .slice K ks.length kc] 26)).alloc (.cells #[.int .i64 j.id, .int .i64 j.us, .int .i64 j.cl, .int .i64 j.x.a, .int .i64 j.x.b, .int .i64 j.x.c, .bool j.x.p, .bool j.x.q, .bool j.x.r, .bool j.x.tn, .int .i64 j.wa, .int .i64 j.pr, .bool j.he, .slice Y j.af.length cj, .int .u8 j.st, .int .i64 j.ca] 33)) w.heap.size 26 #[.int .i64 d0, .int .i64 d1, .int .i64 d2, .int .i64 bo, .int .i64 fr, .int .i64 tr, .int .i64 ag, .slice K ks.length kc] := (Blk.new w _ _).alloc _
  have kj0 : Blk ((w.alloc (.cells #[.int .i64 d0, .int .i64 d1, .int .i64 d2, .int .i64 bo, .int .i64 fr, .int .i64 tr, .int .i64 ag, .slice K ks.length kc] 26)).alloc (.cells #[.int .i64 j.id, .int .i64 j.us, .int .i64 j.cl, .int .i64 j.x.a, .int .i64 j.x.b, .int .i64 j.x.c, .bool j.x.p, .bool j.x.q, .bool j.x.r, .bool j.x.tn, .int .i64 j.wa, .int .i64 j.pr, .bool j.he, .slice Y j.af.length cj, .int .u8 j.st, .int .i64 j.ca] 33)) (w.heap.size + 1) 33 #[.int .i64 j.id, .int .i64 j.us, .int .i64 j.cl, .int .i64 j.x.a, .int .i64 j.x.b, .int .i64 j.x.c, .bool j.x.p, .bool j.x.q, .bool j.x.r, .bool j.x.tn, .int .i64 j.wa, .int .i64 j.pr, .bool j.he, .slice Y j.af.length cj, .int .u8 j.st, .int .i64 j.ca] := blk1 w _ _
  have hb0 : Below w.heap.size w ((w.alloc (.cells #[.int .i64 d0, .int .i64 d1, .int .i64 d2, .int .i64 bo, .int .i64 fr, .int .i64 tr, .int .i64 ag, .slice K ks.length kc] 26)).alloc (.cells #[.int .i64 j.id, .int .i64 j.us, .int .i64 j.cl, .int .i64 j.x.a, .int .i64 j.x.b, .int .i64 j.x.c, .bool j.x.p, .bool j.x.q, .bool j.x.r, .bool j.x.tn, .int .i64 j.wa, .int .i64 j.pr, .bool j.he, .slice Y j.af.length cj, .int .u8 j.st, .int .i64 j.ca] 33)) := below_alloc (below_alloc (Below.refl _ _))
  generalize ((w.alloc (.cells #[.int .i64 d0, .int .i64 d1, .int .i64 d2, .int .i64 bo, .int .i64 fr, .int .i64 tr, .int .i64 ag, .slice K ks.length kc] 26)).alloc (.cells #[.int .i64 j.id, .int .i64 j.us, .int .i64 j.cl, .int .i64 j.x.a, .int .i64 j.x.b, .int .i64 j.x.c, .bool j.x.p, .bool j.x.q, .bool j.x.r, .bool j.x.tn, .int .i64 j.wa, .int .i64 j.pr, .bool j.he, .slice Y j.af.length cj, .int .u8 j.st, .int .i64 j.ca] 33)) = w0 at *
  have HB0 := Lib.hid hb0
  have KC0 := Lib.hid kc0
  have KJ0 := Lib.hid kj0
  clear hb0 kc0 kj0
  go_wp2_with (first | (refine wpList_load_row rfl 26 _ rfl _ rfl 26 #[.int .i64 d0, .int .i64 d1, .int .i64 d2, .int .i64 bo, .int .i64 fr, .int .i64 tr, .int .i64 ag, .slice K ks.length kc] (0, 0) _ KC0.out Try.underlying26 rfl (by kernel_rfl) ?_))
  refine (HP.out _ (HK.out.up HB0.out)).mono ?_
  rintro e w1 ⟨rfl, hB1⟩
  have HB1 := Lib.hid (below_up HB0.out hB1)
  have KC1 := Lib.hid (KC0.out.below hB1 KC0.out.lt)
  have KJ1 := Lib.hid (KJ0.out.below hB1 KJ0.out.lt)
  clear hB1 KC0 KJ0
  go_wp2_with fail
  go_ret
  exact ⟨rfl, HB1.out⟩
set_option maxRecDepth 100000 in
set_option maxHeartbeats 4000000 in
theorem rCheck_ok (d0 d1 d2 bo fr tr ag : Int) (K : Option Addr) (kc : Nat) (ks : List Cls) (j : JV) (Y : Option Addr) (cj : Nat) (hl : ks.length ≤ 4611686018427387904) (hla : j.af.length ≤ 4611686018427387904) (h : CfgOk d0 d1 d2 bo fr tr ag ks) (w : World) (hk : ClsAt w w.heap.size K ks) (hY : IntsAt w Y j.af) :
    Calls Try.prog 14 #[.agg #[.int .i64 d0, .int .i64 d1, .int .i64 d2, .int .i64 bo, .int .i64 fr, .int .i64 tr, .int .i64 ag, .slice K ks.length kc], .agg #[.int .i64 j.id, .int .i64 j.us, .int .i64 j.cl, .int .i64 j.x.a, .int .i64 j.x.b, .int .i64 j.x.c, .bool j.x.p, .bool j.x.q, .bool j.x.r, .bool j.x.tn, .int .i64 j.wa, .int .i64 j.pr, .bool j.he, .slice Y j.af.length cj, .int .u8 j.st, .int .i64 j.ca]] w fun e w' => e = .returned (.int .i64 (checkV d0 d1 d2 ks j)) ∧ Below w.heap.size w w' := by
  have HP := Lib.hid (fun w hk => rmay_ok d0 d1 d2 bo fr tr ag K kc ks (by omega) h w hk)
  have HC := Lib.hid (fun w hk hY => rchecked d0 d1 d2 bo fr tr ag K kc ks j Y cj hl hla w hk hY)
  have HK := Lib.hid hk
  have HY := Lib.hid hY
  generalize checkV d0 d1 d2 ks j = V at *
  clear hk hY h
  go_enter Try.func14, Try.ntmps14
  go_upto_region 1 with fail
  have kc0 : Blk ((w.alloc (.cells #[.int .i64 d0, .int .i64 d1, .int .i64 d2, .int .i64 bo, .int .i64 fr, .int .i64 tr, .int .i64 ag, .slice K ks.length kc] 26)).alloc (.cells #[.int .i64 j.id, .int .i64 j.us, .int .i64 j.cl, .int .i64 j.x.a, .int .i64 j.x.b, .int .i64 j.x.c, .bool j.x.p, .bool j.x.q, .bool j.x.r, .bool j.x.tn, .int .i64 j.wa, .int .i64 j.pr, .bool j.he, .slice Y j.af.length cj, .int .u8 j.st, .int .i64 j.ca] 33)) w.heap.size 26 #[.int .i64 d0, .int .i64 d1, .int .i64 d2, .int .i64 bo, .int .i64 fr, .int .i64 tr, .int .i64 ag, .slice K ks.length kc] := (Blk.new w _ _).alloc _
  have kj0 : Blk ((w.alloc (.cells #[.int .i64 d0, .int .i64 d1, .int .i64 d2, .int .i64 bo, .int .i64 fr, .int .i64 tr, .int .i64 ag, .slice K ks.length kc] 26)).alloc (.cells #[.int .i64 j.id, .int .i64 j.us, .int .i64 j.cl, .int .i64 j.x.a, .int .i64 j.x.b, .int .i64 j.x.c, .bool j.x.p, .bool j.x.q, .bool j.x.r, .bool j.x.tn, .int .i64 j.wa, .int .i64 j.pr, .bool j.he, .slice Y j.af.length cj, .int .u8 j.st, .int .i64 j.ca] 33)) (w.heap.size + 1) 33 #[.int .i64 j.id, .int .i64 j.us, .int .i64 j.cl, .int .i64 j.x.a, .int .i64 j.x.b, .int .i64 j.x.c, .bool j.x.p, .bool j.x.q, .bool j.x.r, .bool j.x.tn, .int .i64 j.wa, .int .i64 j.pr, .bool j.he, .slice Y j.af.length cj, .int .u8 j.st, .int .i64 j.ca] := blk1 w _ _
  have hb0 : Below w.heap.size w ((w.alloc (.cells #[.int .i64 d0, .int .i64 d1, .int .i64 d2, .int .i64 bo, .int .i64 fr, .int .i64 tr, .int .i64 ag, .slice K ks.length kc] 26)).alloc (.cells #[.int .i64 j.id, .int .i64 j.us, .int .i64 j.cl, .int .i64 j.x.a, .int .i64 j.x.b, .int .i64 j.x.c, .bool j.x.p, .bool j.x.q, .bool j.x.r, .bool j.x.tn, .int .i64 j.wa, .int .i64 j.pr, .bool j.he, .slice Y j.af.length cj, .int .u8 j.st, .int .i64 j.ca] 33)) := below_alloc (below_alloc (Below.refl _ _))
  generalize ((w.alloc (.cells #[.int .i64 d0, .int .i64 d1, .int .i64 d2, .int .i64 bo, .int .i64 fr, .int .i64 tr, .int .i64 ag, .slice K ks.length kc] 26)).alloc (.cells #[.int .i64 j.id, .int .i64 j.us, .int .i64 j.cl, .int .i64 j.x.a, .int .i64 j.x.b, .int .i64 j.x.c, .bool j.x.p, .bool j.x.q, .bool j.x.r, .bool j.x.tn, .int .i64 j.wa, .int .i64 j.pr, .bool j.he, .slice Y j.af.length cj, .int .u8 j.st, .int .i64 j.ca] 33)) = w0 at *
  have HB0 := Lib.hid hb0
  have KC0 := Lib.hid kc0
  have KJ0 := Lib.hid kj0
  clear hb0 kc0 kj0
  go_wp2_with (first | (refine wpList_load_row rfl 26 _ rfl _ rfl 26 #[.int .i64 d0, .int .i64 d1, .int .i64 d2, .int .i64 bo, .int .i64 fr, .int .i64 tr, .int .i64 ag, .slice K ks.length kc] (0, 0) _ KC0.out Try.underlying26 rfl (by kernel_rfl) ?_))
  refine (HP.out _ (HK.out.up HB0.out)).mono ?_
  rintro e w1 ⟨rfl, hB1⟩
  have HB1 := Lib.hid (below_up HB0.out hB1)
  have KC1 := Lib.hid (KC0.out.below hB1 KC0.out.lt)
  have KJ1 := Lib.hid (KJ0.out.below hB1 KJ0.out.lt)
  clear hB1 KC0 KJ0
  go_wp2_with (first | (refine wpList_load_row rfl 26 _ rfl _ rfl 26 #[.int .i64 d0, .int .i64 d1, .int .i64 d2, .int .i64 bo, .int .i64 fr, .int .i64 tr, .int .i64 ag, .slice K ks.length kc] (0, 0) _ KC1.out Try.underlying26 rfl (by kernel_rfl) ?_) | (refine wpList_load_row rfl 33 _ rfl _ rfl 33 #[.int .i64 j.id, .int .i64 j.us, .int .i64 j.cl, .int .i64 j.x.a, .int .i64 j.x.b, .int .i64 j.x.c, .bool j.x.p, .bool j.x.q, .bool j.x.r, .bool j.x.tn, .int .i64 j.wa, .int .i64 j.pr, .bool j.he, .slice Y j.af.length cj, .int .u8 j.st, .int .i64 j.ca] (0, 0) _ KJ1.out Try.underlying33 rfl (by kernel_rfl) ?_))
  refine (HC.out _ (HK.out.up HB1.out) (HY.out.up HB1.out)).mono ?_
  rintro e w2 ⟨rfl, hB2⟩
  have HB2 := Lib.hid (below_up HB1.out hB2)
  clear hB2
  go_wp2_with fail
  go_ret
  exact ⟨rfl, HB2.out⟩
theorem rCheck (d0 d1 d2 bo fr tr ag : Int) (K : Option Addr) (kc : Nat) (ks : List Cls) (j : JV) (Y : Option Addr) (cj : Nat) (hl : ks.length ≤ 4611686018427387904) (hla : j.af.length ≤ 4611686018427387904) (w : World) (hk : ClsAt w w.heap.size K ks) (hY : IntsAt w Y j.af) :
    Calls Try.prog 14 #[.agg #[.int .i64 d0, .int .i64 d1, .int .i64 d2, .int .i64 bo, .int .i64 fr, .int .i64 tr, .int .i64 ag, .slice K ks.length kc], .agg #[.int .i64 j.id, .int .i64 j.us, .int .i64 j.cl, .int .i64 j.x.a, .int .i64 j.x.b, .int .i64 j.x.c, .bool j.x.p, .bool j.x.q, .bool j.x.r, .bool j.x.tn, .int .i64 j.wa, .int .i64 j.pr, .bool j.he, .slice Y j.af.length cj, .int .u8 j.st, .int .i64 j.ca]] w fun e w' => e = .returned (.int .i64 (CheckV d0 d1 d2 bo fr tr ag ks j)) ∧ Below w.heap.size w w' := by
  unfold CheckV
  by_cases h : CfgOk d0 d1 d2 bo fr tr ag ks
  · rw [if_pos h]; exact rCheck_ok d0 d1 d2 bo fr tr ag K kc ks j Y cj hl hla h w hk hY
  · rw [if_neg h]; exact rCheck_bad d0 d1 d2 bo fr tr ag K kc ks j Y cj hl hla h w hk hY
end Go.Proofs.Ytaldgmmmcbikgaa.JobRef2
