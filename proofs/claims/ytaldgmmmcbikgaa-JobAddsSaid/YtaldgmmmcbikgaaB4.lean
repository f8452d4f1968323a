/- Several texts joined: job.Add: what is refused. No conditions but those named. -/
import Derived.BigRegion
import Derived.BigQuiet
import Derived.Lib.QuietBelow
import Derived.Deep.QuietTactic
import Derived.Deep.DeepCutAuto
import Derived.Deep.MidRow
import Derived.IntWalk
import Derived.Test.YtaldgmmmcbikgaaJobAdd
import Derived.Test.YtaldgmmmcbikgaaB2
/-! job.Add: what is refused. No conditions but those named. -/
namespace Go.Proofs.Ytaldgmmmcbikgaa.AddErr
open Go
open Go.Sort (grow)
open Go.RowKit Mem PosMath PartMath PartClass PartCheck TurnMath TurnWalks TurnFitsV JobMath JobIndex JobPlain JobAfter JobCheck JobFind JobTable JobMem JobTwin JobRow QuietRow JobAdd

set_option linter.unusedVariables false
set_option linter.unusedSimpArgs false

set_option maxRecDepth 100000 in
set_option maxHeartbeats 16000000 in
theorem add_table (d0 d1 d2 bo fr tr ag : Int) (K : Option Addr) (kc : Nat) (ks : List Cls) (hlk : ks.length ≤ 4611686018427387904) (X : Option Addr) (cap : Nat) (l : List JV) (hl : l.length ≤ 1000) (hla : ∀ j ∈ l, j.af.length ≤ 1000) (U : Option Addr) (cu : Nat) (us : List Int) (j : JV) (Y : Option Addr) (cj : Nat) (hja : j.af.length ≤ 1000) (hv : tableV d0 d1 d2 bo fr tr ag ks l ≠ 0) (w : World) (hk : ClsAt w w.heap.size K ks) (hX : JobsAt w X l) (hU : IntsAt w U us) (hY : IntsAt w Y j.af) :
    Calls Try.prog 19 #[.agg #[.int .i64 d0, .int .i64 d1, .int .i64 d2, .int .i64 bo, .int .i64 fr, .int .i64 tr, .int .i64 ag, .slice K ks.length kc], .slice X l.length cap, .slice U us.length cu, .agg #[.int .i64 j.id, .int .i64 j.us, .int .i64 j.cl, .int .i64 j.x.a, .int .i64 j.x.b, .int .i64 j.x.c, .bool j.x.p, .bool j.x.q, .bool j.x.r, .bool j.x.tn, .int .i64 j.wa, .int .i64 j.pr, .bool j.he, .slice Y j.af.length cj, .int .u8 j.st, .int .i64 j.ca]] w fun e w' => e = .returned (.tuple #[.slice none 0 0, .int .i64 (tableV d0 d1 d2 bo fr tr ag ks l)]) ∧ Below w.heap.size w w' := by
  have HT := Lib.hid (fun w hk hX => table_any d0 d1 d2 bo fr tr ag K kc ks hlk X cap l (by omega) (fun j hj => by have := hla j hj; omega) w hk hX)
  have HK := Lib.hid hk
  have HX := Lib.hid hX
  have HY := Lib.hid hY
  obtain ⟨V, hV⟩ : ∃ V, V = tableV d0 d1 d2 bo fr tr ag ks l := ⟨_, rfl⟩
  rw [← hV]
  rw [← hV] at HT hv
  have hv1 : (V != 0) = true := by simpa using hv
  clear hk hX hU hY hv hV hla
  go_enter Try.func19, Try.ntmps19
  go_upto_region 1 with fail
  have kC : Blk (((((w.alloc (.cells #[.int .i64 d0, .int .i64 d1, .int .i64 d2, .int .i64 bo, .int .i64 fr, .int .i64 tr, .int .i64 ag, .slice K ks.length kc] 26)).alloc (.cells #[.slice X l.length cap] 27)).alloc (.cells #[.int .i64 j.id, .int .i64 j.us, .int .i64 j.cl, .int .i64 j.x.a, .int .i64 j.x.b, .int .i64 j.x.c, .bool j.x.p, .bool j.x.q, .bool j.x.r, .bool j.x.tn, .int .i64 j.wa, .int .i64 j.pr, .bool j.he, .slice Y j.af.length cj, .int .u8 j.st, .int .i64 j.ca] 33)).alloc (.cells #[.slice none 0 0] 27)).alloc (.cells #[.int .i64 0] 36)) (w.heap.size) 26 #[.int .i64 d0, .int .i64 d1, .int .i64 d2, .int .i64 bo, .int .i64 fr, .int .i64 tr, .int .i64 ag, .slice K ks.length kc] := ((((Blk.new w _ _).alloc _).alloc _).alloc _).alloc _
  have kL : Blk (((((w.alloc (.cells #[.int .i64 d0, .int .i64 d1, .int .i64 d2, .int .i64 bo, .int .i64 fr, .int .i64 tr, .int .i64 ag, .slice K ks.length kc] 26)).alloc (.cells #[.slice X l.length cap] 27)).alloc (.cells #[.int .i64 j.id, .int .i64 j.us, .int .i64 j.cl, .int .i64 j.x.a, .int .i64 j.x.b, .int .i64 j.x.c, .bool j.x.p, .bool j.x.q, .bool j.x.r, .bool j.x.tn, .int .i64 j.wa, .int .i64 j.pr, .bool j.he, .slice Y j.af.length cj, .int .u8 j.st, .int .i64 j.ca] 33)).alloc (.cells #[.slice none 0 0] 27)).alloc (.cells #[.int .i64 0] 36)) (w.heap.size + 1) 27 #[.slice X l.length cap] := (((blk1 w _ _).alloc _).alloc _).alloc _
  have kJ : Blk (((((w.alloc (.cells #[.int .i64 d0, .int .i64 d1, .int .i64 d2, .int .i64 bo, .int .i64 fr, .int .i64 tr, .int .i64 ag, .slice K ks.length kc] 26)).alloc (.cells #[.slice X l.length cap] 27)).alloc (.cells #[.int .i64 j.id, .int .i64 j.us, .int .i64 j.cl, .int .i64 j.x.a, .int .i64 j.x.b, .int .i64 j.x.c, .bool j.x.p, .bool j.x.q, .bool j.x.r, .bool j.x.tn, .int .i64 j.wa, .int .i64 j.pr, .bool j.he, .slice Y j.af.length cj, .int .u8 j.st, .int .i64 j.ca] 33)).alloc (.cells #[.slice none 0 0] 27)).alloc (.cells #[.int .i64 0] 36)) (w.heap.size + 1 + 1) 33 #[.int .i64 j.id, .int .i64 j.us, .int .i64 j.cl, .int .i64 j.x.a, .int .i64 j.x.b, .int .i64 j.x.c, .bool j.x.p, .bool j.x.q, .bool j.x.r, .bool j.x.tn, .int .i64 j.wa, .int .i64 j.pr, .bool j.he, .slice Y j.af.length cj, .int .u8 j.st, .int .i64 j.ca] := ((blk2 w _ _).alloc _).alloc _
  have kR : Blk (((((w.alloc (.cells #[.int .i64 d0, .int .i64 d1, .int .i64 d2, .int .i64 bo, .int .i64 fr, .int .i64 tr, .int .i64 ag, .slice K ks.length kc] 26)).alloc (.cells #[.slice X l.length cap] 27)).alloc (.cells #[.int .i64 j.id, .int .i64 j.us, .int .i64 j.cl, .int .i64 j.x.a, .int .i64 j.x.b, .int .i64 j.x.c, .bool j.x.p, .bool j.x.q, .bool j.x.r, .bool j.x.tn, .int .i64 j.wa, .int .i64 j.pr, .bool j.he, .slice Y j.af.length cj, .int .u8 j.st, .int .i64 j.ca] 33)).alloc (.cells #[.slice none 0 0] 27)).alloc (.cells #[.int .i64 0] 36)) (w.heap.size + 1 + 1 + 1) 27 #[.slice none 0 0] := (JobAdd.blk3 w _ _).alloc _
  have kE : Blk (((((w.alloc (.cells #[.int .i64 d0, .int .i64 d1, .int .i64 d2, .int .i64 bo, .int .i64 fr, .int .i64 tr, .int .i64 ag, .slice K ks.length kc] 26)).alloc (.cells #[.slice X l.length cap] 27)).alloc (.cells #[.int .i64 j.id, .int .i64 j.us, .int .i64 j.cl, .int .i64 j.x.a, .int .i64 j.x.b, .int .i64 j.x.c, .bool j.x.p, .bool j.x.q, .bool j.x.r, .bool j.x.tn, .int .i64 j.wa, .int .i64 j.pr, .bool j.he, .slice Y j.af.length cj, .int .u8 j.st, .int .i64 j.ca] 33)).alloc (.cells #[.slice none 0 0] 27)).alloc (.cells #[.int .i64 0] 36)) (w.heap.size + 1 + 1 + 1 + 1) 36 #[.int .i64 0] := blk4 w _ _
  have hb0 : Below w.heap.size w (((((w.alloc (.cells #[.int .i64 d0, .int .i64 d1, .int .i64 d2, .int .i64 bo, .int .i64 fr, .int .i64 tr, .int .i64 ag, .slice K ks.length kc] 26)).alloc (.cells #[.slice X l.length cap] 27)).alloc (.cells #[.int .i64 j.id, .int .i64 j.us, .int .i64 j.cl, .int .i64 j.x.a, .int .i64 j.x.b, .int .i64 j.x.c, .bool j.x.p, .bool j.x.q, .bool j.x.r, .bool j.x.tn, .int .i64 j.wa, .int .i64 j.pr, .bool j.he, .slice Y j.af.length cj, .int .u8 j.st, .int .i64 j.ca] 33)).alloc (.cells #[.slice none 0 0] 27)).alloc (.cells #[.int .i64 0] 36)) := below_alloc (below_alloc (below_alloc (below_alloc (below_alloc (Below.refl _ _)))))
  generalize (((((w.alloc (.cells #[.int .i64 d0, .int .i64 d1, .int .i64 d2, .int .i64 bo, .int .i64 fr, .int .i64 tr, .int .i64 ag, .slice K ks.length kc] 26)).alloc (.cells #[.slice X l.length cap] 27)).alloc (.cells #[.int .i64 j.id, .int .i64 j.us, .int .i64 j.cl, .int .i64 j.x.a, .int .i64 j.x.b, .int .i64 j.x.c, .bool j.x.p, .bool j.x.q, .bool j.x.r, .bool j.x.tn, .int .i64 j.wa, .int .i64 j.pr, .bool j.he, .slice Y j.af.length cj, .int .u8 j.st, .int .i64 j.ca] 33)).alloc (.cells #[.slice none 0 0] 27)).alloc (.cells #[.int .i64 0] 36)) = w0 at *
  have HB0 := Lib.hid hb0
  have KC0 := Lib.hid kC
  have KL0 := Lib.hid kL
  have KJ0 := Lib.hid kJ
  have KR0 := Lib.hid kR
  have KE0 := Lib.hid kE
  have xl : w0.cell? ⟨w.heap.size + 1, 0, none⟩ = some (.slice X l.length cap) := kL.cell 0
  clear hb0 kC kL kJ kR kE
  go_wp2_with (first | (refine wpList_load_row rfl 26 _ rfl _ rfl 26 #[.int .i64 d0, .int .i64 d1, .int .i64 d2, .int .i64 bo, .int .i64 fr, .int .i64 tr, .int .i64 ag, .slice K ks.length kc] (0, 0) _ KC0.out Try.underlying26 rfl (by kernel_rfl) ?_))
  refine (HT.out _ (HK.out.up HB0.out) (HX.out.up HB0.out)).mono ?_
  rintro e w1 ⟨rfl, hB1⟩
  have HB1 := Lib.hid (below_up HB0.out hB1)
  have KC1 := Lib.hid (KC0.out.below hB1 KC0.out.lt)
  have KL1 := Lib.hid (KL0.out.below hB1 KL0.out.lt)
  have KJ1 := Lib.hid (KJ0.out.below hB1 KJ0.out.lt)
  have KR1 := Lib.hid (KR0.out.below hB1 KR0.out.lt)
  have KE1 := Lib.hid (KE0.out.below hB1 KE0.out.lt)
  clear hB1 HB0 KC0 KL0 KJ0 KR0 KE0 xl HT
  have cR : w1.cell? ⟨w.heap.size + 1 + 1 + 1, 0, none⟩ = some (.slice none 0 0) := KR1.out.cell 0
  have fR : w1.frozen? ⟨w.heap.size + 1 + 1 + 1, 0, none⟩ = false := KR1.out.frozen 0
  have cE : w1.cell? ⟨w.heap.size + 1 + 1 + 1 + 1, 0, none⟩ = some (.int .i64 0) := KE1.out.cell 0
  have fE : w1.frozen? ⟨w.heap.size + 1 + 1 + 1 + 1, 0, none⟩ = false := KE1.out.frozen 0
  go_wp2_with fail
  refine bodyPost_ret (v := .tuple #[.slice none 0 0, .int .i64 V]) (by simp [results, Try.results19, go_sem, cR, cE]) rfl ⟨rfl, (HB1.out.setCell (p := ⟨w.heap.size + 1 + 1 + 1, 0, none⟩) (by show w.heap.size ≤ w.heap.size + 1 + 1 + 1; omega) _).setCell (p := ⟨w.heap.size + 1 + 1 + 1 + 1, 0, none⟩) (by show w.heap.size ≤ w.heap.size + 1 + 1 + 1 + 1; omega) _⟩

set_option maxRecDepth 100000 in
set_option maxHeartbeats 16000000 in
theorem add_check (d0 d1 d2 bo fr tr ag : Int) (K : Option Addr) (kc : Nat) (ks : List Cls) (hlk : ks.length ≤ 4611686018427387904) (X : Option Addr) (cap : Nat) (l : List JV) (hl : l.length ≤ 1000) (hla : ∀ j ∈ l, j.af.length ≤ 1000) (U : Option Addr) (cu : Nat) (us : List Int) (j : JV) (Y : Option Addr) (cj : Nat) (hja : j.af.length ≤ 1000) (hv : tableV d0 d1 d2 bo fr tr ag ks l = 0) (hc : checkV d0 d1 d2 ks (asked j) ≠ 0) (w : World) (hk : ClsAt w w.heap.size K ks) (hX : JobsAt w X l) (hU : IntsAt w U us) (hY : IntsAt w Y j.af) :
    Calls Try.prog 19 #[.agg #[.int .i64 d0, .int .i64 d1, .int .i64 d2, .int .i64 bo, .int .i64 fr, .int .i64 tr, .int .i64 ag, .slice K ks.length kc], .slice X l.length cap, .slice U us.length cu, .agg #[.int .i64 j.id, .int .i64 j.us, .int .i64 j.cl, .int .i64 j.x.a, .int .i64 j.x.b, .int .i64 j.x.c, .bool j.x.p, .bool j.x.q, .bool j.x.r, .bool j.x.tn, .int .i64 j.wa, .int .i64 j.pr, .bool j.he, .slice Y j.af.length cj, .int .u8 j.st, .int .i64 j.ca]] w fun e w' => e = .returned (.tuple #[.slice none 0 0, .int .i64 (checkV d0 d1 d2 ks (asked j))]) ∧ Below w.heap.size w w' := by
  have HT := Lib.hid (fun w hk hX => table_any d0 d1 d2 bo fr tr ag K kc ks hlk X cap l (by omega) (fun j hj => by have := hla j hj; omega) w hk hX)
  have HK := Lib.hid hk
  have HX := Lib.hid hX
  have HY := Lib.hid hY
  have HC := Lib.hid (fun w hk hY => jcheck d0 d1 d2 bo fr tr ag K kc ks (asked j) Y cj hlk (show j.af.length ≤ _ by omega) w hk hY)
  rw [hv] at HT
  obtain ⟨V, hV⟩ : ∃ V, V = checkV d0 d1 d2 ks (asked j) := ⟨_, rfl⟩
  rw [← hV]
  rw [← hV] at HC hc
  have hc1 : (V != 0) = true := by simpa using hc
  clear hk hX hU hY hv hc hV hla
  go_enter Try.func19, Try.ntmps19
  go_upto_region 1 with fail
  have kC : Blk (((((w.alloc (.cells #[.int .i64 d0, .int .i64 d1, .int .i64 d2, .int .i64 bo, .int .i64 fr, .int .i64 tr, .int .i64 ag, .slice K ks.length kc] 26)).alloc (.cells #[.slice X l.length cap] 27)).alloc (.cells #[.int .i64 j.id, .int .i64 j.us, .int .i64 j.cl, .int .i64 j.x.a, .int .i64 j.x.b, .int .i64 j.x.c, .bool j.x.p, .bool j.x.q, .bool j.x.r, .bool j.x.tn, .int .i64 j.wa, .int .i64 j.pr, .bool j.he, .slice Y j.af.length cj, .int .u8 j.st, .int .i64 j.ca] 33)).alloc (.cells #[.slice none 0 0] 27)).alloc (.cells #[.int .i64 0] 36)) (w.heap.size) 26 #[.int .i64 d0, .int .i64 d1, .int .i64 d2, .int .i64 bo, .int .i64 fr, .int .i64 tr, .int .i64 ag, .slice K ks.length kc] := ((((Blk.new w _ _).alloc _).alloc _).alloc _).alloc _
  have kL : Blk (((((w.alloc (.cells #[.int .i64 d0, .int .i64 d1, .int .i64 d2, .int .i64 bo, .int .i64 fr, .int .i64 tr, .int .i64 ag, .slice K ks.length kc] 26)).alloc (.cells #[.slice X l.length cap] 27)).alloc (.cells #[.int .i64 j.id, .int .i64 j.us, .int .i64 j.cl, .int .i64 j.x.a, .int .i64 j.x.b, .int .i64 j.x.c, .bool j.x.p, .bool j.x.q, .bool j.x.r, .bool j.x.tn, .int .i64 j.wa, .int .i64 j.pr, .bool j.he, .slice Y j.af.length cj, .int .u8 j.st, .int .i64 j.ca] 33)).alloc (.cells #[.slice none 0 0] 27)).alloc (.cells #[.int .i64 0] 36)) (w.heap.size + 1) 27 #[.slice X l.length cap] := (((blk1 w _ _).alloc _).alloc _).alloc _
  have kJ : Blk (((((w.alloc (.cells #[.int .i64 d0, .int .i64 d1, .int .i64 d2, .int .i64 bo, .int .i64 fr, .int .i64 tr, .int .i64 ag, .slice K ks.length kc] 26)).alloc (.cells #[.slice X l.length cap] 27)).alloc (.cells #[.int .i64 j.id, .int .i64 j.us, .int .i64 j.cl, .int .i64 j.x.a, .int .i64 j.x.b, .int .i64 j.x.c, .bool j.x.p, .bool j.x.q, .bool j.x.r, .bool j.x.tn, .int .i64 j.wa, .int .i64 j.pr, .bool j.he, .slice Y j.af.length cj, .int .u8 j.st, .int .i64 j.ca] 33)).alloc (.cells #[.slice none 0 0] 27)).alloc (.cells #[.int .i64 0] 36)) (w.heap.size + 1 + 1) 33 #[.int .i64 j.id, .int .i64 j.us, .int .i64 j.cl, .int .i64 j.x.a, .int .i64 j.x.b, .int .i64 j.x.c, .bool j.x.p, .bool j.x.q, .bool j.x.r, .bool j.x.tn, .int .i64 j.wa, .int .i64 j.pr, .bool j.he, .slice Y j.af.length cj, .int .u8 j.st, .int .i64 j.ca] := ((blk2 w _ _).alloc _).alloc _
  have kR : Blk (((((w.alloc (.cells #[.int .i64 d0, .int .i64 d1, .int .i64 d2, .int .i64 bo, .int .i64 fr, .int .i64 tr, .int .i64 ag, .slice K ks.length kc] 26)).alloc (.cells #[.slice X l.length cap] 27)).alloc (.cells #[.int .i64 j.id, .int .i64 j.us, .int .i64 j.cl, .int .i64 j.x.a, .int .i64 j.x.b, .int .i64 j.x.c, .bool j.x.p, .bool j.x.q, .bool j.x.r, .bool j.x.tn, .int .i64 j.wa, .int .i64 j.pr, .bool j.he, .slice Y j.af.length cj, .int .u8 j.st, .int .i64 j.ca] 33)).alloc (.cells #[.slice none 0 0] 27)).alloc (.cells #[.int .i64 0] 36)) (w.heap.size + 1 + 1 + 1) 27 #[.slice none 0 0] := (JobAdd.blk3 w _ _).alloc _
  have kE : Blk (((((w.alloc (.cells #[.int .i64 d0, .int .i64 d1, .int .i64 d2, .int .i64 bo, .int .i64 fr, .int .i64 tr, .int .i64 ag, .slice K ks.length kc] 26)).alloc (.cells #[.slice X l.length cap] 27)).alloc (.cells #[.int .i64 j.id, .int .i64 j.us, .int .i64 j.cl, .int .i64 j.x.a, .int .i64 j.x.b, .int .i64 j.x.c, .bool j.x.p, .bool j.x.q, .bool j.x.r, .bool j.x.tn, .int .i64 j.wa, .int .i64 j.pr, .bool j.he, .slice Y j.af.length cj, .int .u8 j.st, .int .i64 j.ca] 33)).alloc (.cells #[.slice none 0 0] 27)).alloc (.cells #[.int .i64 0] 36)) (w.heap.size + 1 + 1 + 1 + 1) 36 #[.int .i64 0] := blk4 w _ _
  have hb0 : Below w.heap.size w (((((w.alloc (.cells #[.int .i64 d0, .int .i64 d1, .int .i64 d2, .int .i64 bo, .int .i64 fr, .int .i64 tr, .int .i64 ag, .slice K ks.length kc] 26)).alloc (.cells #[.slice X l.length cap] 27)).alloc (.cells #[.int .i64 j.id, .int .i64 j.us, .int .i64 j.cl, .int .i64 j.x.a, .int .i64 j.x.b, .int .i64 j.x.c, .bool j.x.p, .bool j.x.q, .bool j.x.r, .bool j.x.tn, .int .i64 j.wa, .int .i64 j.pr, .bool j.he, .slice Y j.af.length cj, .int .u8 j.st, .int .i64 j.ca] 33)).alloc (.cells #[.slice none 0 0] 27)).alloc (.cells #[.int .i64 0] 36)) := below_alloc (below_alloc (below_alloc (below_alloc (below_alloc (Below.refl _ _)))))
  generalize (((((w.alloc (.cells #[.int .i64 d0, .int .i64 d1, .int .i64 d2, .int .i64 bo, .int .i64 fr, .int .i64 tr, .int .i64 ag, .slice K ks.length kc] 26)).alloc (.cells #[.slice X l.length cap] 27)).alloc (.cells #[.int .i64 j.id, .int .i64 j.us, .int .i64 j.cl, .int .i64 j.x.a, .int .i64 j.x.b, .int .i64 j.x.c, .bool j.x.p, .bool j.x.q, .bool j.x.r, .bool j.x.tn, .int .i64 j.wa, .int .i64 j.pr, .bool j.he, .slice Y j.af.length cj, .int .u8 j.st, .int .i64 j.ca] 33)).alloc (.cells #[.slice none 0 0] 27)).alloc (.cells #[.int .i64 0] 36)) = w0 at *
  have HB0 := Lib.hid hb0
  have KC0 := Lib.hid kC
  have KL0 := Lib.hid kL
  have KJ0 := Lib.hid kJ
  have KR0 := Lib.hid kR
  have KE0 := Lib.hid kE
  have xl : w0.cell? ⟨w.heap.size + 1, 0, none⟩ = some (.slice X l.length cap) := kL.cell 0
  clear hb0 kC kL kJ kR kE
  go_wp2_with (first | (refine wpList_load_row rfl 26 _ rfl _ rfl 26 #[.int .i64 d0, .int .i64 d1, .int .i64 d2, .int .i64 bo, .int .i64 fr, .int .i64 tr, .int .i64 ag, .slice K ks.length kc] (0, 0) _ KC0.out Try.underlying26 rfl (by kernel_rfl) ?_))
  refine (HT.out _ (HK.out.up HB0.out) (HX.out.up HB0.out)).mono ?_
  rintro e w1 ⟨rfl, hB1⟩
  have HB1 := Lib.hid (below_up HB0.out hB1)
  have KC1 := Lib.hid (KC0.out.below hB1 KC0.out.lt)
  have KL1 := Lib.hid (KL0.out.below hB1 KL0.out.lt)
  have KJ1 := Lib.hid (KJ0.out.below hB1 KJ0.out.lt)
  have KR1 := Lib.hid (KR0.out.below hB1 KR0.out.lt)
  have KE1 := Lib.hid (KE0.out.below hB1 KE0.out.lt)
  clear hB1 HB0 KC0 KL0 KJ0 KR0 KE0 xl HT
  have y14 : w1.cell? ⟨w.heap.size + 1 + 1, 14, none⟩ = some (.int .u8 j.st) := KJ1.out.cell 14
  have f14 : w1.frozen? ⟨w.heap.size + 1 + 1, 14, none⟩ = false := KJ1.out.frozen 14
  go_upto_region 5 with fail
  have kj : Blk (w1.setCell ⟨w.heap.size + 1 + 1, 14, none⟩ (.int .u8 1)) (w.heap.size + 1 + 1) 33 #[.int .i64 j.id, .int .i64 j.us, .int .i64 j.cl, .int .i64 j.x.a, .int .i64 j.x.b, .int .i64 j.x.c, .bool j.x.p, .bool j.x.q, .bool j.x.r, .bool j.x.tn, .int .i64 j.wa, .int .i64 j.pr, .bool j.he, .slice Y j.af.length cj, .int .u8 1, .int .i64 j.ca] := KJ1.out.set_ 14 (.int .u8 1)
  have kC := KC1.out.far (p := ⟨w.heap.size + 1 + 1, 14, none⟩) (by show w.heap.size ≠ w.heap.size + 1 + 1; omega) (.int .u8 1)
  have kL := KL1.out.far (p := ⟨w.heap.size + 1 + 1, 14, none⟩) (by show w.heap.size + 1 ≠ w.heap.size + 1 + 1; omega) (.int .u8 1)
  have kR := KR1.out.far (p := ⟨w.heap.size + 1 + 1, 14, none⟩) (by show w.heap.size + 1 + 1 + 1 ≠ w.heap.size + 1 + 1; omega) (.int .u8 1)
  have kE := KE1.out.far (p := ⟨w.heap.size + 1 + 1, 14, none⟩) (by show w.heap.size + 1 + 1 + 1 + 1 ≠ w.heap.size + 1 + 1; omega) (.int .u8 1)
  have hb2 := HB1.out.setCell (p := ⟨w.heap.size + 1 + 1, 14, none⟩) (by show w.heap.size ≤ w.heap.size + 1 + 1; omega) (.int .u8 1)
  clear y14 f14
  generalize (w1.setCell ⟨w.heap.size + 1 + 1, 14, none⟩ (.int .u8 1)) = w2 at *
  have HB2 := Lib.hid hb2
  have KJ2 := Lib.hid kj
  have KC2 := Lib.hid kC
  have KL2 := Lib.hid kL
  have KR2 := Lib.hid kR
  have KE2 := Lib.hid kE
  clear hb2 kj kC kL kR kE HB1 KC1 KL1 KJ1 KR1 KE1
  go_wp2_with (first | (refine wpList_load_row rfl 26 _ rfl _ rfl 26 #[.int .i64 d0, .int .i64 d1, .int .i64 d2, .int .i64 bo, .int .i64 fr, .int .i64 tr, .int .i64 ag, .slice K ks.length kc] (0, 0) _ KC2.out Try.underlying26 rfl (by kernel_rfl) ?_) | (refine wpList_load_row rfl 33 _ rfl _ rfl 33 #[.int .i64 j.id, .int .i64 j.us, .int .i64 j.cl, .int .i64 j.x.a, .int .i64 j.x.b, .int .i64 j.x.c, .bool j.x.p, .bool j.x.q, .bool j.x.r, .bool j.x.tn, .int .i64 j.wa, .int .i64 j.pr, .bool j.he, .slice Y j.af.length cj, .int .u8 1, .int .i64 j.ca] (0, 0) _ KJ2.out Try.underlying33 rfl (by kernel_rfl) ?_))
  refine (HC.out _ (HK.out.up HB2.out) (HY.out.up HB2.out)).mono ?_
  rintro e w3 ⟨rfl, hB3⟩
  have HB3 := Lib.hid (below_up HB2.out hB3)
  have KC3 := Lib.hid (KC2.out.below hB3 KC2.out.lt)
  have KL3 := Lib.hid (KL2.out.below hB3 KL2.out.lt)
  have KJ3 := Lib.hid (KJ2.out.below hB3 KJ2.out.lt)
  have KR3 := Lib.hid (KR2.out.below hB3 KR2.out.lt)
  have KE3 := Lib.hid (KE2.out.below hB3 KE2.out.lt)
  clear hB3 HB2 KC2 KL2 KJ2 KR2 KE2 HC
  have cR : w3.cell? ⟨w.heap.size + 1 + 1 + 1, 0, none⟩ = some (.slice none 0 0) := KR3.out.cell 0
  have fR : w3.frozen? ⟨w.heap.size + 1 + 1 + 1, 0, none⟩ = false := KR3.out.frozen 0
  have cE : w3.cell? ⟨w.heap.size + 1 + 1 + 1 + 1, 0, none⟩ = some (.int .i64 0) := KE3.out.cell 0
  have fE : w3.frozen? ⟨w.heap.size + 1 + 1 + 1 + 1, 0, none⟩ = false := KE3.out.frozen 0
  go_wp2_with fail
  refine bodyPost_ret (v := .tuple #[.slice none 0 0, .int .i64 V]) (by simp [results, Try.results19, go_sem, cR, cE]) rfl ⟨rfl, (HB3.out.setCell (p := ⟨w.heap.size + 1 + 1 + 1, 0, none⟩) (by show w.heap.size ≤ w.heap.size + 1 + 1 + 1; omega) _).setCell (p := ⟨w.heap.size + 1 + 1 + 1 + 1, 0, none⟩) (by show w.heap.size ≤ w.heap.size + 1 + 1 + 1 + 1; omega) _⟩

set_option maxRecDepth 100000 in
set_option maxHeartbeats 16000000 in
theorem add_bad (d0 d1 d2 bo fr tr ag : Int) (K : Option Addr) (kc : Nat) (ks : List Cls) (hlk : ks.length ≤ 4611686018427387904) (X : Option Addr) (cap : Nat) (l : List JV) (hl : l.length ≤ 1000) (hla : ∀ j ∈ l, j.af.length ≤ 1000) (U : Option Addr) (cu : Nat) (us : List Int) (j : JV) (Y : Option Addr) (cj : Nat) (hja : j.af.length ≤ 1000) (hv : tableV d0 d1 d2 bo fr tr ag ks l = 0) (hc : checkV d0 d1 d2 ks (asked j) = 0) (hne : l ≠ []) (hlast : ∀ x, l[l.length - 1]? = some x → j.id ≤ x.id) (w : World) (hk : ClsAt w w.heap.size K ks) (hX : JobsAt w X l) (hU : IntsAt w U us) (hY : IntsAt w Y j.af) :
    Calls Try.prog 19 #[.agg #[.int .i64 d0, .int .i64 d1, .int .i64 d2, .int .i64 bo, .int .i64 fr, .int .i64 tr, .int .i64 ag, .slice K ks.length kc], .slice X l.length cap, .slice U us.length cu, .agg #[.int .i64 j.id, .int .i64 j.us, .int .i64 j.cl, .int .i64 j.x.a, .int .i64 j.x.b, .int .i64 j.x.c, .bool j.x.p, .bool j.x.q, .bool j.x.r, .bool j.x.tn, .int .i64 j.wa, .int .i64 j.pr, .bool j.he, .slice Y j.af.length cj, .int .u8 j.st, .int .i64 j.ca]] w fun e w' => e = .returned (.tuple #[.slice none 0 0, .int .i64 8]) ∧ Below w.heap.size w w' := by
  have HT := Lib.hid (fun w hk hX => table_any d0 d1 d2 bo fr tr ag K kc ks hlk X cap l (by omega) (fun j hj => by have := hla j hj; omega) w hk hX)
  have HK := Lib.hid hk
  have HX := Lib.hid hX
  have HY := Lib.hid hY
  have HC := Lib.hid (fun w hk hY => jcheck d0 d1 d2 bo fr tr ag K kc ks (asked j) Y cj hlk (show j.af.length ≤ _ by omega) w hk hY)
  rw [hv] at HT
  rw [hc] at HC
  have HL := Lib.hid hlast
  have hz : ¬ l.length = 0 := by cases l with | nil => exact absurd rfl hne | cons _ _ => simp
  clear hk hX hU hY hv hc hlast hla hne
  go_enter Try.func19, Try.ntmps19
  go_upto_region 1 with fail
  have kC : Blk (((((w.alloc (.cells #[.int .i64 d0, .int .i64 d1, .int .i64 d2, .int .i64 bo, .int .i64 fr, .int .i64 tr, .int .i64 ag, .slice K ks.length kc] 26)).alloc (.cells #[.slice X l.length cap] 27)).alloc (.cells #[.int .i64 j.id, .int .i64 j.us, .int .i64 j.cl, .int .i64 j.x.a, .int .i64 j.x.b, .int .i64 j.x.c, .bool j.x.p, .bool j.x.q, .bool j.x.r, .bool j.x.tn, .int .i64 j.wa, .int .i64 j.pr, .bool j.he, .slice Y j.af.length cj, .int .u8 j.st, .int .i64 j.ca] 33)).alloc (.cells #[.slice none 0 0] 27)).alloc (.cells #[.int .i64 0] 36)) (w.heap.size) 26 #[.int .i64 d0, .int .i64 d1, .int .i64 d2, .int .i64 bo, .int .i64 fr, .int .i64 tr, .int .i64 ag, .slice K ks.length kc] := ((((Blk.new w _ _).alloc _).alloc _).alloc _).alloc _
  have kL : Blk (((((w.alloc (.cells #[.int .i64 d0, .int .i64 d1, .int .i64 d2, .int .i64 bo, .int .i64 fr, .int .i64 tr, .int .i64 ag, .slice K ks.length kc] 26)).alloc (.cells #[.slice X l.length cap] 27)).alloc (.cells #[.int .i64 j.id, .int .i64 j.us, .int .i64 j.cl, .int .i64 j.x.a, .int .i64 j.x.b, .int .i64 j.x.c, .bool j.x.p, .bool j.x.q, .bool j.x.r, .bool j.x.tn, .int .i64 j.wa, .int .i64 j.pr, .bool j.he, .slice Y j.af.length cj, .int .u8 j.st, .int .i64 j.ca] 33)).alloc (.cells #[.slice none 0 0] 27)).alloc (.cells #[.int .i64 0] 36)) (w.heap.size + 1) 27 #[.slice X l.length cap] := (((blk1 w _ _).alloc _).alloc _).alloc _
  have kJ : Blk (((((w.alloc (.cells #[.int .i64 d0, .int .i64 d1, .int .i64 d2, .int .i64 bo, .int .i64 fr, .int .i64 tr, .int .i64 ag, .slice K ks.length kc] 26)).alloc (.cells #[.slice X l.length cap] 27)).alloc (.cells #[.int .i64 j.id, .int .i64 j.us, .int .i64 j.cl, .int .i64 j.x.a, .int .i64 j.x.b, .int .i64 j.x.c, .bool j.x.p, .bool j.x.q, .bool j.x.r, .bool j.x.tn, .int .i64 j.wa, .int .i64 j.pr, .bool j.he, .slice Y j.af.length cj, .int .u8 j.st, .int .i64 j.ca] 33)).alloc (.cells #[.slice none 0 0] 27)).alloc (.cells #[.int .i64 0] 36)) (w.heap.size + 1 + 1) 33 #[.int .i64 j.id, .int .i64 j.us, .int .i64 j.cl, .int .i64 j.x.a, .int .i64 j.x.b, .int .i64 j.x.c, .bool j.x.p, .bool j.x.q, .bool j.x.r, .bool j.x.tn, .int .i64 j.wa, .int .i64 j.pr, .bool j.he, .slice Y j.af.length cj, .int .u8 j.st, .int .i64 j.ca] := ((blk2 w _ _).alloc _).alloc _
  have kR : Blk (((((w.alloc (.cells #[.int .i64 d0, .int .i64 d1, .int .i64 d2, .int .i64 bo, .int .i64 fr, .int .i64 tr, .int .i64 ag, .slice K ks.length kc] 26)).alloc (.cells #[.slice X l.length cap] 27)).alloc (.cells #[.int .i64 j.id, .int .i64 j.us, .int .i64 j.cl, .int .i64 j.x.a, .int .i64 j.x.b, .int .i64 j.x.c, .bool j.x.p, .bool j.x.q, .bool j.x.r, .bool j.x.tn, .int .i64 j.wa, .int .i64 j.pr, .bool j.he, .slice Y j.af.length cj, .int .u8 j.st, .int .i64 j.ca] 33)).alloc (.cells #[.slice none 0 0] 27)).alloc (.cells #[.int .i64 0] 36)) (w.heap.size + 1 + 1 + 1) 27 #[.slice none 0 0] := (JobAdd.blk3 w _ _).alloc _
  have kE : Blk (((((w.alloc (.cells #[.int .i64 d0, .int .i64 d1, .int .i64 d2, .int .i64 bo, .int .i64 fr, .int .i64 tr, .int .i64 ag, .slice K ks.length kc] 26)).alloc (.cells #[.slice X l.length cap] 27)).alloc (.cells #[.int .i64 j.id, .int .i64 j.us, .int .i64 j.cl, .int .i64 j.x.a, .int .i64 j.x.b, .int .i64 j.x.c, .bool j.x.p, .bool j.x.q, .bool j.x.r, .bool j.x.tn, .int .i64 j.wa, .int .i64 j.pr, .bool j.he, .slice Y j.af.length cj, .int .u8 j.st, .int .i64 j.ca] 33)).alloc (.cells #[.slice none 0 0] 27)).alloc (.cells #[.int .i64 0] 36)) (w.heap.size + 1 + 1 + 1 + 1) 36 #[.int .i64 0] := blk4 w _ _
  have hb0 : Below w.heap.size w (((((w.alloc (.cells #[.int .i64 d0, .int .i64 d1, .int .i64 d2, .int .i64 bo, .int .i64 fr, .int .i64 tr, .int .i64 ag, .slice K ks.length kc] 26)).alloc (.cells #[.slice X l.length cap] 27)).alloc (.cells #[.int .i64 j.id, .int .i64 j.us, .int .i64 j.cl, .int .i64 j.x.a, .int .i64 j.x.b, .int .i64 j.x.c, .bool j.x.p, .bool j.x.q, .bool j.x.r, .bool j.x.tn, .int .i64 j.wa, .int .i64 j.pr, .bool j.he, .slice Y j.af.length cj, .int .u8 j.st, .int .i64 j.ca] 33)).alloc (.cells #[.slice none 0 0] 27)).alloc (.cells #[.int .i64 0] 36)) := below_alloc (below_alloc (below_alloc (below_alloc (below_alloc (Below.refl _ _)))))
  generalize (((((w.alloc (.cells #[.int .i64 d0, .int .i64 d1, .int .i64 d2, .int .i64 bo, .int .i64 fr, .int .i64 tr, .int .i64 ag, .slice K ks.length kc] 26)).alloc (.cells #[.slice X l.length cap] 27)).alloc (.cells #[.int .i64 j.id, .int .i64 j.us, .int .i64 j.cl, .int .i64 j.x.a, .int .i64 j.x.b, .int .i64 j.x.c, .bool j.x.p, .bool j.x.q, .bool j.x.r, .bool j.x.tn, .int .i64 j.wa, .int .i64 j.pr, .bool j.he, .slice Y j.af.length cj, .int .u8 j.st, .int .i64 j.ca] 33)).alloc (.cells #[.slice none 0 0] 27)).alloc (.cells #[.int .i64 0] 36)) = w0 at *
  have HB0 := Lib.hid hb0
  have KC0 := Lib.hid kC
  have KL0 := Lib.hid kL
  have KJ0 := Lib.hid kJ
  have KR0 := Lib.hid kR
  have KE0 := Lib.hid kE
  have xl : w0.cell? ⟨w.heap.size + 1, 0, none⟩ = some (.slice X l.length cap) := kL.cell 0
  clear hb0 kC kL kJ kR kE
  go_wp2_with (first | (refine wpList_load_row rfl 26 _ rfl _ rfl 26 #[.int .i64 d0, .int .i64 d1, .int .i64 d2, .int .i64 bo, .int .i64 fr, .int .i64 tr, .int .i64 ag, .slice K ks.length kc] (0, 0) _ KC0.out Try.underlying26 rfl (by kernel_rfl) ?_))
  refine (HT.out _ (HK.out.up HB0.out) (HX.out.up HB0.out)).mono ?_
  rintro e w1 ⟨rfl, hB1⟩
  have HB1 := Lib.hid (below_up HB0.out hB1)
  have KC1 := Lib.hid (KC0.out.below hB1 KC0.out.lt)
  have KL1 := Lib.hid (KL0.out.below hB1 KL0.out.lt)
  have KJ1 := Lib.hid (KJ0.out.below hB1 KJ0.out.lt)
  have KR1 := Lib.hid (KR0.out.below hB1 KR0.out.lt)
  have KE1 := Lib.hid (KE0.out.below hB1 KE0.out.lt)
  clear hB1 HB0 KC0 KL0 KJ0 KR0 KE0 xl HT
  have y14 : w1.cell? ⟨w.heap.size + 1 + 1, 14, none⟩ = some (.int .u8 j.st) := KJ1.out.cell 14
  have f14 : w1.frozen? ⟨w.heap.size + 1 + 1, 14, none⟩ = false := KJ1.out.frozen 14
  go_upto_region 5 with fail
  have kj : Blk (w1.setCell ⟨w.heap.size + 1 + 1, 14, none⟩ (.int .u8 1)) (w.heap.size + 1 + 1) 33 #[.int .i64 j.id, .int .i64 j.us, .int .i64 j.cl, .int .i64 j.x.a, .int .i64 j.x.b, .int .i64 j.x.c, .bool j.x.p, .bool j.x.q, .bool j.x.r, .bool j.x.tn, .int .i64 j.wa, .int .i64 j.pr, .bool j.he, .slice Y j.af.length cj, .int .u8 1, .int .i64 j.ca] := KJ1.out.set_ 14 (.int .u8 1)
  have kC := KC1.out.far (p := ⟨w.heap.size + 1 + 1, 14, none⟩) (by show w.heap.size ≠ w.heap.size + 1 + 1; omega) (.int .u8 1)
  have kL := KL1.out.far (p := ⟨w.heap.size + 1 + 1, 14, none⟩) (by show w.heap.size + 1 ≠ w.heap.size + 1 + 1; omega) (.int .u8 1)
  have kR := KR1.out.far (p := ⟨w.heap.size + 1 + 1, 14, none⟩) (by show w.heap.size + 1 + 1 + 1 ≠ w.heap.size + 1 + 1; omega) (.int .u8 1)
  have kE := KE1.out.far (p := ⟨w.heap.size + 1 + 1, 14, none⟩) (by show w.heap.size + 1 + 1 + 1 + 1 ≠ w.heap.size + 1 + 1; omega) (.int .u8 1)
  have hb2 := HB1.out.setCell (p := ⟨w.heap.size + 1 + 1, 14, none⟩) (by show w.heap.size ≤ w.heap.size + 1 + 1; omega) (.int .u8 1)
  clear y14 f14
  generalize (w1.setCell ⟨w.heap.size + 1 + 1, 14, none⟩ (.int .u8 1)) = w2 at *
  have HB2 := Lib.hid hb2
  have KJ2 := Lib.hid kj
  have KC2 := Lib.hid kC
  have KL2 := Lib.hid kL
  have KR2 := Lib.hid kR
  have KE2 := Lib.hid kE
  clear hb2 kj kC kL kR kE HB1 KC1 KL1 KJ1 KR1 KE1
  go_wp2_with (first | (refine wpList_load_row rfl 26 _ rfl _ rfl 26 #[.int .i64 d0, .int .i64 d1, .int .i64 d2, .int .i64 bo, .int .i64 fr, .int .i64 tr, .int .i64 ag, .slice K ks.length kc] (0, 0) _ KC2.out Try.underlying26 rfl (by kernel_rfl) ?_) | (refine wpList_load_row rfl 33 _ rfl _ rfl 33 #[.int .i64 j.id, .int .i64 j.us, .int .i64 j.cl, .int .i64 j.x.a, .int .i64 j.x.b, .int .i64 j.x.c, .bool j.x.p, .bool j.x.q, .bool j.x.r, .bool j.x.tn, .int .i64 j.wa, .int .i64 j.pr, .bool j.he, .slice Y j.af.length cj, .int .u8 1, .int .i64 j.ca] (0, 0) _ KJ2.out Try.underlying33 rfl (by kernel_rfl) ?_))
  refine (HC.out _ (HK.out.up HB2.out) (HY.out.up HB2.out)).mono ?_
  rintro e w3 ⟨rfl, hB3⟩
  have HB3 := Lib.hid (below_up HB2.out hB3)
  have KC3 := Lib.hid (KC2.out.below hB3 KC2.out.lt)
  have KL3 := Lib.hid (KL2.out.below hB3 KL2.out.lt)
  have KJ3 := Lib.hid (KJ2.out.below hB3 KJ2.out.lt)
  have KR3 := Lib.hid (KR2.out.below hB3 KR2.out.lt)
  have KE3 := Lib.hid (KE2.out.below hB3 KE2.out.lt)
  clear hB3 HB2 KC2 KL2 KJ2 KR2 KE2 HC
  have xl : w3.cell? ⟨w.heap.size + 1, 0, none⟩ = some (.slice X l.length cap) := KL3.out.cell 0
  have x0 : w3.cell? ⟨w.heap.size + 1 + 1, 0, none⟩ = some (.int .i64 j.id) := KJ3.out.cell 0
  go_upto_region 9 with fail
  go_cut [30] (fun s wx => s = .bool true ∧ Hid (Below w3.heap.size w3 wx))
  case first =>
    obtain ⟨m, hm⟩ : ∃ m, l.length = m + 1 := ⟨l.length - 1, by omega⟩
    have hg : l[m]? = some (l[m]'(by omega)) := List.getElem?_eq_getElem (by omega)
    generalize l[m]'(by omega) = q at hg
    have hlq := HL.out q (by rw [show l.length - 1 = m by omega]; exact hg)
    obtain ⟨b, o, Y2, c2, hXe, hb, hJ2, _⟩ := HX.out.up HB3.out m q hg
    subst hXe
    have z0 : w3.cell? ⟨b, o + m * 16, none⟩ = some (.int .i64 q.id) := hJ2.1
    have d1 : decide (0 < l.length) = true := decide_eq_true (by omega)
    have d2 : (0 : Int) < (l.length : Int) := by omega
    have hsub : IntKind.i64.wrap ((l.length : Int) - 1) = (m : Int) := by rw [IntWalk.i64_in _ (by omega)]; omega
    have hm0 : (0 : Int) ≤ (m : Int) := by omega
    have hm1 : (m : Int) < (l.length : Int) := by omega
    have hge : j.id ≤ q.id := hlq
    clear hz hg hlq hJ2 hb hm
    have kq0 := cell_regrown xl
    have kq1 := cell_regrown x0
    have kq2 := cell_regrown z0
    refine wp_region_quiet_below (by kernel_rfl) (by kernel_rfl) ?_
    repeat (first | go_big_quiet_step (first | fail))
    refine wpQuiet_nil ?_
    intro _ hw'
    obtain ⟨⟨dq, osq⟩, hw''⟩ := hw'
    subst hw''
    have hBq := below_regrown w3 dq osq
    clear kq0 kq1 kq2
    generalize grow (redrawn w3 dq) osq = w4 at *
    have HBq := Lib.hid hBq
    clear hBq
    go_wp2_with fail
    go_meet
    exact ⟨rfl, HBq.out⟩
  case rest =>
    obtain ⟨rfl, hBc⟩ := hcut
    clear xl x0
    obtain ⟨w4, rfl⟩ : ∃ w4 : World, w4 = wc := ⟨_, rfl⟩
    have hB4 := hBc.out
    clear hBc
    have HB4 := Lib.hid (below_up HB3.out hB4)
    have KC4 := Lib.hid (KC3.out.below hB4 KC3.out.lt)
    have KL4 := Lib.hid (KL3.out.below hB4 KL3.out.lt)
    have KJ4 := Lib.hid (KJ3.out.below hB4 KJ3.out.lt)
    have KR4 := Lib.hid (KR3.out.below hB4 KR3.out.lt)
    have KE4 := Lib.hid (KE3.out.below hB4 KE3.out.lt)
    clear hB4 HB3 KC3 KL3 KJ3 KR3 KE3 
    have cR : w4.cell? ⟨w.heap.size + 1 + 1 + 1, 0, none⟩ = some (.slice none 0 0) := KR4.out.cell 0
    have fR : w4.frozen? ⟨w.heap.size + 1 + 1 + 1, 0, none⟩ = false := KR4.out.frozen 0
    have cE : w4.cell? ⟨w.heap.size + 1 + 1 + 1 + 1, 0, none⟩ = some (.int .i64 0) := KE4.out.cell 0
    have fE : w4.frozen? ⟨w.heap.size + 1 + 1 + 1 + 1, 0, none⟩ = false := KE4.out.frozen 0
    go_wp2_with fail
    refine bodyPost_ret (v := .tuple #[.slice none 0 0, .int .i64 8]) (by simp [results, Try.results19, go_sem, cR, cE]) rfl ⟨rfl, (HB4.out.setCell (p := ⟨w.heap.size + 1 + 1 + 1, 0, none⟩) (by show w.heap.size ≤ w.heap.size + 1 + 1 + 1; omega) _).setCell (p := ⟨w.heap.size + 1 + 1 + 1 + 1, 0, none⟩) (by show w.heap.size ≤ w.heap.size + 1 + 1 + 1 + 1; omega) _⟩

set_option maxRecDepth 100000 in
set_option maxHeartbeats 16000000 in
theorem add_after (d0 d1 d2 bo fr tr ag : Int) (K : Option Addr) (kc : Nat) (ks : List Cls) (hlk : ks.length ≤ 4611686018427387904) (X : Option Addr) (cap : Nat) (l : List JV) (hl : l.length ≤ 1000) (hla : ∀ j ∈ l, j.af.length ≤ 1000) (U : Option Addr) (cu : Nat) (us : List Int) (j : JV) (Y : Option Addr) (cj : Nat) (hja : j.af.length ≤ 1000) (hv : tableV d0 d1 d2 bo fr tr ag ks l = 0) (hc : checkV d0 d1 d2 ks (asked j) = 0) (hlast : ∀ x, l[l.length - 1]? = some x → x.id < j.id) (ht : thereB l j = false) (w : World) (hk : ClsAt w w.heap.size K ks) (hX : JobsAt w X l) (hU : IntsAt w U us) (hY : IntsAt w Y j.af) :
    Calls Try.prog 19 #[.agg #[.int .i64 d0, .int .i64 d1, .int .i64 d2, .int .i64 bo, .int .i64 fr, .int .i64 tr, .int .i64 ag, .slice K ks.length kc], .slice X l.length cap, .slice U us.length cu, .agg #[.int .i64 j.id, .int .i64 j.us, .int .i64 j.cl, .int .i64 j.x.a, .int .i64 j.x.b, .int .i64 j.x.c, .bool j.x.p, .bool j.x.q, .bool j.x.r, .bool j.x.tn, .int .i64 j.wa, .int .i64 j.pr, .bool j.he, .slice Y j.af.length cj, .int .u8 j.st, .int .i64 j.ca]] w fun e w' => e = .returned (.tuple #[.slice none 0 0, .int .i64 182]) ∧ Below w.heap.size w w' := by
  have HT := Lib.hid (fun w hk hX => table_any d0 d1 d2 bo fr tr ag K kc ks hlk X cap l (by omega) (fun j hj => by have := hla j hj; omega) w hk hX)
  have HK := Lib.hid hk
  have HX := Lib.hid hX
  have HY := Lib.hid hY
  have HC := Lib.hid (fun w hk hY => jcheck d0 d1 d2 bo fr tr ag K kc ks (asked j) Y cj hlk (show j.af.length ≤ _ by omega) w hk hY)
  have HN := Lib.hid (fun W cl hX hY => no_there2 (w.heap.size + 1) X cap l (by omega) j Y cj (by omega) W cl hX hY)
  rw [hv] at HT
  rw [hc] at HC
  rw [ht] at HN
  have HL := Lib.hid hlast
  clear hk hX hU hY hv hc ht hlast hla
  go_enter Try.func19, Try.ntmps19
  go_upto_region 1 with fail
  have kC : Blk (((((w.alloc (.cells #[.int .i64 d0, .int .i64 d1, .int .i64 d2, .int .i64 bo, .int .i64 fr, .int .i64 tr, .int .i64 ag, .slice K ks.length kc] 26)).alloc (.cells #[.slice X l.length cap] 27)).alloc (.cells #[.int .i64 j.id, .int .i64 j.us, .int .i64 j.cl, .int .i64 j.x.a, .int .i64 j.x.b, .int .i64 j.x.c, .bool j.x.p, .bool j.x.q, .bool j.x.r, .bool j.x.tn, .int .i64 j.wa, .int .i64 j.pr, .bool j.he, .slice Y j.af.length cj, .int .u8 j.st, .int .i64 j.ca] 33)).alloc (.cells #[.slice none 0 0] 27)).alloc (.cells #[.int .i64 0] 36)) (w.heap.size) 26 #[.int .i64 d0, .int .i64 d1, .int .i64 d2, .int .i64 bo, .int .i64 fr, .int .i64 tr, .int .i64 ag, .slice K ks.length kc] := ((((Blk.new w _ _).alloc _).alloc _).alloc _).alloc _
  have kL : Blk (((((w.alloc (.cells #[.int .i64 d0, .int .i64 d1, .int .i64 d2, .int .i64 bo, .int .i64 fr, .int .i64 tr, .int .i64 ag, .slice K ks.length kc] 26)).alloc (.cells #[.slice X l.length cap] 27)).alloc (.cells #[.int .i64 j.id, .int .i64 j.us, .int .i64 j.cl, .int .i64 j.x.a, .int .i64 j.x.b, .int .i64 j.x.c, .bool j.x.p, .bool j.x.q, .bool j.x.r, .bool j.x.tn, .int .i64 j.wa, .int .i64 j.pr, .bool j.he, .slice Y j.af.length cj, .int .u8 j.st, .int .i64 j.ca] 33)).alloc (.cells #[.slice none 0 0] 27)).alloc (.cells #[.int .i64 0] 36)) (w.heap.size + 1) 27 #[.slice X l.length cap] := (((blk1 w _ _).alloc _).alloc _).alloc _
  have kJ : Blk (((((w.alloc (.cells #[.int .i64 d0, .int .i64 d1, .int .i64 d2, .int .i64 bo, .int .i64 fr, .int .i64 tr, .int .i64 ag, .slice K ks.length kc] 26)).alloc (.cells #[.slice X l.length cap] 27)).alloc (.cells #[.int .i64 j.id, .int .i64 j.us, .int .i64 j.cl, .int .i64 j.x.a, .int .i64 j.x.b, .int .i64 j.x.c, .bool j.x.p, .bool j.x.q, .bool j.x.r, .bool j.x.tn, .int .i64 j.wa, .int .i64 j.pr, .bool j.he, .slice Y j.af.length cj, .int .u8 j.st, .int .i64 j.ca] 33)).alloc (.cells #[.slice none 0 0] 27)).alloc (.cells #[.int .i64 0] 36)) (w.heap.size + 1 + 1) 33 #[.int .i64 j.id, .int .i64 j.us, .int .i64 j.cl, .int .i64 j.x.a, .int .i64 j.x.b, .int .i64 j.x.c, .bool j.x.p, .bool j.x.q, .bool j.x.r, .bool j.x.tn, .int .i64 j.wa, .int .i64 j.pr, .bool j.he, .slice Y j.af.length cj, .int .u8 j.st, .int .i64 j.ca] := ((blk2 w _ _).alloc _).alloc _
  have kR : Blk (((((w.alloc (.cells #[.int .i64 d0, .int .i64 d1, .int .i64 d2, .int .i64 bo, .int .i64 fr, .int .i64 tr, .int .i64 ag, .slice K ks.length kc] 26)).alloc (.cells #[.slice X l.length cap] 27)).alloc (.cells #[.int .i64 j.id, .int .i64 j.us, .int .i64 j.cl, .int .i64 j.x.a, .int .i64 j.x.b, .int .i64 j.x.c, .bool j.x.p, .bool j.x.q, .bool j.x.r, .bool j.x.tn, .int .i64 j.wa, .int .i64 j.pr, .bool j.he, .slice Y j.af.length cj, .int .u8 j.st, .int .i64 j.ca] 33)).alloc (.cells #[.slice none 0 0] 27)).alloc (.cells #[.int .i64 0] 36)) (w.heap.size + 1 + 1 + 1) 27 #[.slice none 0 0] := (JobAdd.blk3 w _ _).alloc _
  have kE : Blk (((((w.alloc (.cells #[.int .i64 d0, .int .i64 d1, .int .i64 d2, .int .i64 bo, .int .i64 fr, .int .i64 tr, .int .i64 ag, .slice K ks.length kc] 26)).alloc (.cells #[.slice X l.length cap] 27)).alloc (.cells #[.int .i64 j.id, .int .i64 j.us, .int .i64 j.cl, .int .i64 j.x.a, .int .i64 j.x.b, .int .i64 j.x.c, .bool j.x.p, .bool j.x.q, .bool j.x.r, .bool j.x.tn, .int .i64 j.wa, .int .i64 j.pr, .bool j.he, .slice Y j.af.length cj, .int .u8 j.st, .int .i64 j.ca] 33)).alloc (.cells #[.slice none 0 0] 27)).alloc (.cells #[.int .i64 0] 36)) (w.heap.size + 1 + 1 + 1 + 1) 36 #[.int .i64 0] := blk4 w _ _
  have hb0 : Below w.heap.size w (((((w.alloc (.cells #[.int .i64 d0, .int .i64 d1, .int .i64 d2, .int .i64 bo, .int .i64 fr, .int .i64 tr, .int .i64 ag, .slice K ks.length kc] 26)).alloc (.cells #[.slice X l.length cap] 27)).alloc (.cells #[.int .i64 j.id, .int .i64 j.us, .int .i64 j.cl, .int .i64 j.x.a, .int .i64 j.x.b, .int .i64 j.x.c, .bool j.x.p, .bool j.x.q, .bool j.x.r, .bool j.x.tn, .int .i64 j.wa, .int .i64 j.pr, .bool j.he, .slice Y j.af.length cj, .int .u8 j.st, .int .i64 j.ca] 33)).alloc (.cells #[.slice none 0 0] 27)).alloc (.cells #[.int .i64 0] 36)) := below_alloc (below_alloc (below_alloc (below_alloc (below_alloc (Below.refl _ _)))))
  generalize (((((w.alloc (.cells #[.int .i64 d0, .int .i64 d1, .int .i64 d2, .int .i64 bo, .int .i64 fr, .int .i64 tr, .int .i64 ag, .slice K ks.length kc] 26)).alloc (.cells #[.slice X l.length cap] 27)).alloc (.cells #[.int .i64 j.id, .int .i64 j.us, .int .i64 j.cl, .int .i64 j.x.a, .int .i64 j.x.b, .int .i64 j.x.c, .bool j.x.p, .bool j.x.q, .bool j.x.r, .bool j.x.tn, .int .i64 j.wa, .int .i64 j.pr, .bool j.he, .slice Y j.af.length cj, .int .u8 j.st, .int .i64 j.ca] 33)).alloc (.cells #[.slice none 0 0] 27)).alloc (.cells #[.int .i64 0] 36)) = w0 at *
  have HB0 := Lib.hid hb0
  have KC0 := Lib.hid kC
  have KL0 := Lib.hid kL
  have KJ0 := Lib.hid kJ
  have KR0 := Lib.hid kR
  have KE0 := Lib.hid kE
  have xl : w0.cell? ⟨w.heap.size + 1, 0, none⟩ = some (.slice X l.length cap) := kL.cell 0
  clear hb0 kC kL kJ kR kE
  go_wp2_with (first | (refine wpList_load_row rfl 26 _ rfl _ rfl 26 #[.int .i64 d0, .int .i64 d1, .int .i64 d2, .int .i64 bo, .int .i64 fr, .int .i64 tr, .int .i64 ag, .slice K ks.length kc] (0, 0) _ KC0.out Try.underlying26 rfl (by kernel_rfl) ?_))
  refine (HT.out _ (HK.out.up HB0.out) (HX.out.up HB0.out)).mono ?_
  rintro e w1 ⟨rfl, hB1⟩
  have HB1 := Lib.hid (below_up HB0.out hB1)
  have KC1 := Lib.hid (KC0.out.below hB1 KC0.out.lt)
  have KL1 := Lib.hid (KL0.out.below hB1 KL0.out.lt)
  have KJ1 := Lib.hid (KJ0.out.below hB1 KJ0.out.lt)
  have KR1 := Lib.hid (KR0.out.below hB1 KR0.out.lt)
  have KE1 := Lib.hid (KE0.out.below hB1 KE0.out.lt)
  clear hB1 HB0 KC0 KL0 KJ0 KR0 KE0 xl HT
  have y14 : w1.cell? ⟨w.heap.size + 1 + 1, 14, none⟩ = some (.int .u8 j.st) := KJ1.out.cell 14
  have f14 : w1.frozen? ⟨w.heap.size + 1 + 1, 14, none⟩ = false := KJ1.out.frozen 14
  go_upto_region 5 with fail
  have kj : Blk (w1.setCell ⟨w.heap.size + 1 + 1, 14, none⟩ (.int .u8 1)) (w.heap.size + 1 + 1) 33 #[.int .i64 j.id, .int .i64 j.us, .int .i64 j.cl, .int .i64 j.x.a, .int .i64 j.x.b, .int .i64 j.x.c, .bool j.x.p, .bool j.x.q, .bool j.x.r, .bool j.x.tn, .int .i64 j.wa, .int .i64 j.pr, .bool j.he, .slice Y j.af.length cj, .int .u8 1, .int .i64 j.ca] := KJ1.out.set_ 14 (.int .u8 1)
  have kC := KC1.out.far (p := ⟨w.heap.size + 1 + 1, 14, none⟩) (by show w.heap.size ≠ w.heap.size + 1 + 1; omega) (.int .u8 1)
  have kL := KL1.out.far (p := ⟨w.heap.size + 1 + 1, 14, none⟩) (by show w.heap.size + 1 ≠ w.heap.size + 1 + 1; omega) (.int .u8 1)
  have kR := KR1.out.far (p := ⟨w.heap.size + 1 + 1, 14, none⟩) (by show w.heap.size + 1 + 1 + 1 ≠ w.heap.size + 1 + 1; omega) (.int .u8 1)
  have kE := KE1.out.far (p := ⟨w.heap.size + 1 + 1, 14, none⟩) (by show w.heap.size + 1 + 1 + 1 + 1 ≠ w.heap.size + 1 + 1; omega) (.int .u8 1)
  have hb2 := HB1.out.setCell (p := ⟨w.heap.size + 1 + 1, 14, none⟩) (by show w.heap.size ≤ w.heap.size + 1 + 1; omega) (.int .u8 1)
  clear y14 f14
  generalize (w1.setCell ⟨w.heap.size + 1 + 1, 14, none⟩ (.int .u8 1)) = w2 at *
  have HB2 := Lib.hid hb2
  have KJ2 := Lib.hid kj
  have KC2 := Lib.hid kC
  have KL2 := Lib.hid kL
  have KR2 := Lib.hid kR
  have KE2 := Lib.hid kE
  clear hb2 kj kC kL kR kE HB1 KC1 KL1 KJ1 KR1 KE1
  go_wp2_with (first | (refine wpList_load_row rfl 26 _ rfl _ rfl 26 #[.int .i64 d0, .int .i64 d1, .int .i64 d2, .int .i64 bo, .int .i64 fr, .int .i64 tr, .int .i64 ag, .slice K ks.length kc] (0, 0) _ KC2.out Try.underlying26 rfl (by kernel_rfl) ?_) | (refine wpList_load_row rfl 33 _ rfl _ rfl 33 #[.int .i64 j.id, .int .i64 j.us, .int .i64 j.cl, .int .i64 j.x.a, .int .i64 j.x.b, .int .i64 j.x.c, .bool j.x.p, .bool j.x.q, .bool j.x.r, .bool j.x.tn, .int .i64 j.wa, .int .i64 j.pr, .bool j.he, .slice Y j.af.length cj, .int .u8 1, .int .i64 j.ca] (0, 0) _ KJ2.out Try.underlying33 rfl (by kernel_rfl) ?_))
  refine (HC.out _ (HK.out.up HB2.out) (HY.out.up HB2.out)).mono ?_
  rintro e w3 ⟨rfl, hB3⟩
  have HB3 := Lib.hid (below_up HB2.out hB3)
  have KC3 := Lib.hid (KC2.out.below hB3 KC2.out.lt)
  have KL3 := Lib.hid (KL2.out.below hB3 KL2.out.lt)
  have KJ3 := Lib.hid (KJ2.out.below hB3 KJ2.out.lt)
  have KR3 := Lib.hid (KR2.out.below hB3 KR2.out.lt)
  have KE3 := Lib.hid (KE2.out.below hB3 KE2.out.lt)
  clear hB3 HB2 KC2 KL2 KJ2 KR2 KE2 HC
  have xl : w3.cell? ⟨w.heap.size + 1, 0, none⟩ = some (.slice X l.length cap) := KL3.out.cell 0
  have x0 : w3.cell? ⟨w.heap.size + 1 + 1, 0, none⟩ = some (.int .i64 j.id) := KJ3.out.cell 0
  go_upto_region 9 with fail
  go_cut [30] (fun s wx => s = .bool false ∧ Hid (Below w3.heap.size w3 wx))
  case first =>
    by_cases hz : l.length = 0
    · have d1 : decide (0 < l.length) = false := decide_eq_false (by omega)
      have d2 : ¬ ((0 : Int) < (l.length : Int)) := by omega
      clear hz
      have kq0 := cell_regrown xl
      have kq1 := cell_regrown x0
      refine wp_region_quiet_below (by kernel_rfl) (by kernel_rfl) ?_
      repeat (first | go_big_quiet_step (first | fail))
      refine wpQuiet_nil ?_
      intro _ hw'
      obtain ⟨⟨dq, osq⟩, hw''⟩ := hw'
      subst hw''
      have hBq := below_regrown w3 dq osq
      clear kq0 kq1
      generalize grow (redrawn w3 dq) osq = w4 at *
      have HBq := Lib.hid hBq
      clear hBq
      go_wp2_with fail
      go_meet
      exact ⟨rfl, HBq.out⟩
    · obtain ⟨m, hm⟩ : ∃ m, l.length = m + 1 := ⟨l.length - 1, by omega⟩
      have hg : l[m]? = some (l[m]'(by omega)) := List.getElem?_eq_getElem (by omega)
      generalize l[m]'(by omega) = q at hg
      have hlq := HL.out q (by rw [show l.length - 1 = m by omega]; exact hg)
      obtain ⟨b, o, Y2, c2, hXe, hb, hJ2, _⟩ := HX.out.up HB3.out m q hg
      subst hXe
      have z0 : w3.cell? ⟨b, o + m * 16, none⟩ = some (.int .i64 q.id) := hJ2.1
      have d1 : decide (0 < l.length) = true := decide_eq_true (by omega)
      have d2 : (0 : Int) < (l.length : Int) := by omega
      have hsub : IntKind.i64.wrap ((l.length : Int) - 1) = (m : Int) := by rw [IntWalk.i64_in _ (by omega)]; omega
      have hm0 : (0 : Int) ≤ (m : Int) := by omega
      have hm1 : (m : Int) < (l.length : Int) := by omega
      have hge : ¬ (j.id ≤ q.id) := by omega
      clear hz hg hlq hJ2 hb hm
      have kq0 := cell_regrown xl
      have kq1 := cell_regrown x0
      have kq2 := cell_regrown z0
      refine wp_region_quiet_below (by kernel_rfl) (by kernel_rfl) ?_
      repeat (first | go_big_quiet_step (first | fail))
      refine wpQuiet_nil ?_
      intro _ hw'
      obtain ⟨⟨dq, osq⟩, hw''⟩ := hw'
      subst hw''
      have hBq := below_regrown w3 dq osq
      clear kq0 kq1 kq2
      generalize grow (redrawn w3 dq) osq = w4 at *
      have HBq := Lib.hid hBq
      clear hBq
      go_wp2_with fail
      go_meet
      exact ⟨rfl, HBq.out⟩
  case rest =>
    obtain ⟨rfl, hBc⟩ := hcut
    clear xl x0
    obtain ⟨w4, rfl⟩ : ∃ w4 : World, w4 = wc := ⟨_, rfl⟩
    have hB4 := hBc.out
    clear hBc
    have HB4 := Lib.hid (below_up HB3.out hB4)
    have KC4 := Lib.hid (KC3.out.below hB4 KC3.out.lt)
    have KL4 := Lib.hid (KL3.out.below hB4 KL3.out.lt)
    have KJ4 := Lib.hid (KJ3.out.below hB4 KJ3.out.lt)
    have KR4 := Lib.hid (KR3.out.below hB4 KR3.out.lt)
    have KE4 := Lib.hid (KE3.out.below hB4 KE3.out.lt)
    clear hB4 HB3 KC3 KL3 KJ3 KR3 KE3 
    have x13 : w4.cell? ⟨w.heap.size + 1 + 1, 13, none⟩ = some (.slice Y j.af.length cj) := KJ4.out.cell 13
    go_wp2_with fail
    refine (HN.out _ (KL4.out.cell 0) (HX.out.up HB4.out) (HY.out.up HB4.out)).mono ?_
    rintro e w5 ⟨rfl, hB5⟩
    have HB5 := Lib.hid (below_up HB4.out hB5)
    have KC5 := Lib.hid (KC4.out.below hB5 KC4.out.lt)
    have KL5 := Lib.hid (KL4.out.below hB5 KL4.out.lt)
    have KJ5 := Lib.hid (KJ4.out.below hB5 KJ4.out.lt)
    have KR5 := Lib.hid (KR4.out.below hB5 KR4.out.lt)
    have KE5 := Lib.hid (KE4.out.below hB5 KE4.out.lt)
    clear hB5 HB4 KC4 KL4 KJ4 KR4 KE4 x13 HN
    have cR : w5.cell? ⟨w.heap.size + 1 + 1 + 1, 0, none⟩ = some (.slice none 0 0) := KR5.out.cell 0
    have fR : w5.frozen? ⟨w.heap.size + 1 + 1 + 1, 0, none⟩ = false := KR5.out.frozen 0
    have cE : w5.cell? ⟨w.heap.size + 1 + 1 + 1 + 1, 0, none⟩ = some (.int .i64 0) := KE5.out.cell 0
    have fE : w5.frozen? ⟨w.heap.size + 1 + 1 + 1 + 1, 0, none⟩ = false := KE5.out.frozen 0
    go_wp2_with fail
    refine bodyPost_ret (v := .tuple #[.slice none 0 0, .int .i64 182]) (by simp [results, Try.results19, go_sem, cR, cE]) rfl ⟨rfl, (HB5.out.setCell (p := ⟨w.heap.size + 1 + 1 + 1, 0, none⟩) (by show w.heap.size ≤ w.heap.size + 1 + 1 + 1; omega) _).setCell (p := ⟨w.heap.size + 1 + 1 + 1 + 1, 0, none⟩) (by show w.heap.size ≤ w.heap.size + 1 + 1 + 1 + 1; omega) _⟩

end Go.Proofs.Ytaldgmmmcbikgaa.AddErr
/-! What job.Add answers, in plain Lean, and what it keeps. No conditions but those named. -/
namespace Go.Proofs.Ytaldgmmmcbikgaa.AddMath
open Go.RowKit Mem PosMath PartMath TurnMath TurnFitsV JobMath JobCheck JobAdd LooseI Loose
set_option linter.unusedVariables false

/-- Ids rise strictly. -/
def Up (l : List JV) : Prop := l.Pairwise fun x y => x.id < y.id
theorem up_of {l : List JV} (h : risesK l l.length = true) : Up l := by
  have h' := risesK_iff.1 h
  unfold Up
  rw [List.pairwise_iff_getElem]
  intro i j hi hj hij
  have key : ∀ d, ∀ (hd : i + (d + 1) < l.length), (l[i]'hi).id < (l[i + (d + 1)]'hd).id := by
    intro d
    induction d with
    | zero =>
      intro hd
      have := h' i (by omega)
      simpa [List.getD_eq_getElem?_getD, List.getElem?_eq_getElem hi, List.getElem?_eq_getElem hd] using this
    | succ d ih =>
      intro hd
      have h1 := ih (by omega)
      have h2 := h' (i + (d + 1)) (by omega)
      have hd' : i + (d + 1) < l.length := by omega
      have hd2 : i + (d + 1) + 1 < l.length := by omega
      have h3 : (l[i + (d + 1)]'hd').id < (l[i + (d + 1) + 1]'hd2).id := by
        simpa [List.getD_eq_getElem?_getD, List.getElem?_eq_getElem hd', List.getElem?_eq_getElem hd2] using h2
      exact Int.lt_trans h1 h3
  obtain ⟨d, rfl⟩ : ∃ d, j = i + (d + 1) := ⟨j - i - 1, by omega⟩
  exact key d hj
theorem of_up {l : List JV} (h : Up l) : risesK l l.length = true := by
  refine risesK_iff.2 fun i hi => ?_
  have h1 := List.pairwise_iff_getElem.1 h i (i + 1) (by omega) hi (by omega)
  simpa [List.getD_eq_getElem?_getD, List.getElem?_eq_getElem hi, List.getElem?_eq_getElem (show i < l.length by omega)] using h1
theorem Up.lt {l : List JV} (h : Up l) {i j : Nat} {x y : JV} (hx : l[i]? = some x) (hy : l[j]? = some y) (hl : x.id < y.id) : i < j := by
  obtain ⟨hi, rfl⟩ := List.getElem?_eq_some_iff.1 hx
  obtain ⟨hj, rfl⟩ := List.getElem?_eq_some_iff.1 hy
  rcases Nat.lt_trichotomy i j with h1 | h1 | h1
  · exact h1
  · subst h1; omega
  · have := List.pairwise_iff_getElem.1 h j i hj hi h1
    omega
theorem firstBad_zero {f : JV → Int} : ∀ {l : List JV}, firstBad f l = 0 → ∀ j ∈ l, f j = 0
  | [], _, j, hj => by cases hj
  | y :: t, h, j, hj => by
    unfold firstBad at h
    by_cases hy : f y = 0
    · rw [if_neg (by simp [hy])] at h
      rcases List.mem_cons.1 hj with rfl | hj
      · exact hy
      · exact firstBad_zero h j hj
    · rw [if_pos hy] at h; exact absurd h hy
/-- A table that may be. -/
structure TOk (f : JV → Int) (l : List JV) : Prop where
  len : l.length ≤ 24
  each : ∀ j ∈ l, f j = 0
  rise : Up l
  there : ∀ j ∈ l, thereB l j = true
theorem tok_of {f : JV → Int} {l : List JV} (h : tableF f l = 0) : TOk f l := by
  unfold tableF at h
  split at h
  · omega
  · rename_i h0
    split at h
    · rename_i h1; exact absurd h h1
    · rename_i h1
      split at h
      · omega
      · rename_i h2
        split at h
        · omega
        · rename_i h3
          exact ⟨by omega, firstBad_zero (by simpa using h1), up_of (by simpa using h2), by simpa [List.all_eq_true] using h3⟩
theorem of_tok {f : JV → Int} {l : List JV} (h : TOk f l) : tableF f l = 0 :=
  tableF_ok (by have := h.len; omega) (fun i y _ hy => h.each y (List.mem_of_getElem? hy)) (of_up h.rise) (fun i y _ hy => h.there y (List.mem_of_getElem? hy))
theorem tableV_of {d0 d1 d2 bo fr tr ag : Int} {ks : List Cls} {l : List JV} (h : tableV d0 d1 d2 bo fr tr ag ks l = 0) : CfgOk d0 d1 d2 bo fr tr ag ks ∧ TOk (checkV d0 d1 d2 ks) l := by
  unfold tableV at h
  split at h
  · rename_i hc; exact ⟨hc, tok_of h⟩
  · omega
theorem tableV_to {d0 d1 d2 bo fr tr ag : Int} {ks : List Cls} {l : List JV} (hc : CfgOk d0 d1 d2 bo fr tr ag ks) (h : TOk (checkV d0 d1 d2 ks) l) : tableV d0 d1 d2 bo fr tr ag ks l = 0 := by
  unfold tableV
  rw [if_pos hc, of_tok h]
def lastB (l : List JV) (j : JV) : Bool := match l[l.length - 1]? with | some x => decide (j.id ≤ x.id) | none => false
theorem last_yes {l : List JV} {j : JV} (h : lastB l j = true) : l ≠ [] ∧ ∀ x, l[l.length - 1]? = some x → j.id ≤ x.id := by
  unfold lastB at h
  refine ⟨fun e => by subst e; simp at h, fun x hx => ?_⟩
  rw [hx] at h
  simpa using h
theorem last_no {l : List JV} {j : JV} (h : lastB l j = false) : ∀ x, l[l.length - 1]? = some x → x.id < j.id := fun x hx => by
  unfold lastB at h
  rw [hx] at h
  have : ¬ j.id ≤ x.id := by simpa using h
  omega
/-- What Add answers. -/
def addV (d0 d1 d2 bo fr tr ag : Int) (ks : List Cls) (l : List JV) (us : List Int) (j : JV) : List JV × Int :=
  if tableV d0 d1 d2 bo fr tr ag ks l ≠ 0 then ([], tableV d0 d1 d2 bo fr tr ag ks l) else if checkV d0 d1 d2 ks (asked j) ≠ 0 then ([], checkV d0 d1 d2 ks (asked j)) else
  if lastB l j = true then ([], 8) else if thereB l j = false then ([], 182) else if l.length < 24 then (l ++ [asked j], 0) else
    match (looseUp l us (asked j) l.length).head? with | some i => ((l ++ [asked j]).eraseIdx i, 0) | none => ([], 9)
/-- What is left of a table where the job at place e goes; e = l.length + 1: none goes. -/
structure KE (l : List JV) (us : List Int) (j : JV) (x : List JV) (e : Nat) : Prop where
  eq : x = (l ++ [asked j]).eraseIdx e
  le : e < l.length ∨ e = l.length + 1
  loose : e < l.length → l.length = 24 ∧ ∀ y, l[e]? = some y → 3 ≤ y.st ∧ y.id ∉ us ∧ y.id ∉ j.af ∧ ∀ z ∈ l, y.id ∉ z.af
  up : Up (l ++ [asked j])
  top : l.length ≤ 24
  room : l.length + 1 = e → l.length < 24
section
variable {l : List JV} {us : List Int} {j : JV} {x : List JV} {e : Nat}
theorem KE.len (h : KE l us j x e) : x.length = if e < l.length then l.length else l.length + 1 := by
  rw [h.eq]
  rcases h.le with h1 | h1
  · rw [if_pos h1, List.length_eraseIdx_of_lt (by simp; omega)]
    simp
  · rw [if_neg (by omega), List.eraseIdx_of_length_le (by simp; omega)]
    simp
/-- Where a job stands that stays. -/
def atK (e i : Nat) : Nat := if e < i then i - 1 else i
theorem KE.at_ (h : KE l us j x e) {i : Nat} {y : JV} (hi : l[i]? = some y) (hne : i ≠ e) : x[atK e i]? = some y ∧ atK e i < x.length - 1 := by
  have hl := (List.getElem?_eq_some_iff.1 hi).1
  have hlen := h.len
  unfold atK
  by_cases hlt : e < i
  · have hel : e < l.length := by omega
    rw [if_pos hel] at hlen
    rw [if_pos hlt]
    refine ⟨?_, by omega⟩
    rw [h.eq, List.getElem?_eraseIdx, if_neg (by omega), show i - 1 + 1 = i by omega, List.getElem?_append_left hl]
    exact hi
  · rw [if_neg hlt]
    refine ⟨?_, by split at hlen <;> omega⟩
    rw [h.eq, List.getElem?_eraseIdx, if_pos (by omega), List.getElem?_append_left hl]
    exact hi
theorem KE.gone (h : KE l us j x e) {y z : JV} (hy : l[e]? = some y) (hz : x[e]? = some z) (hn : e < x.length - 1) : y ≠ z := by
  have hl := (List.getElem?_eq_some_iff.1 hy).1
  rw [h.eq, List.getElem?_eraseIdx, if_neg (by omega)] at hz
  have hy2 : (l ++ [asked j])[e]? = some y := by rw [List.getElem?_append_left hl]; exact hy
  intro e2
  obtain ⟨h1, r1⟩ := List.getElem?_eq_some_iff.1 hy2
  obtain ⟨h2, r2⟩ := List.getElem?_eq_some_iff.1 hz
  have := List.pairwise_iff_getElem.1 h.up e (e + 1) h1 h2 (by omega)
  rw [r1, r2, e2] at this
  omega
theorem KE.last (h : KE l us j x e) : x[x.length - 1]? = some (asked j) := by
  have hlen := h.len
  rcases h.le with h1 | h1
  · rw [if_pos h1] at hlen
    rw [hlen, h.eq, List.getElem?_eraseIdx, if_neg (by omega), show l.length - 1 + 1 = l.length by omega]
    simp
  · rw [if_neg (by omega)] at hlen
    rw [hlen, h.eq, List.eraseIdx_of_length_le (by simp; omega)]
    simp
theorem has_mem {n : Int} : hasB l n = true ↔ ∃ y ∈ l, y.id = n := by
  unfold hasB
  rw [List.any_eq_true]
  simp
theorem KE.tok {f : JV → Int} (h : KE l us j x e) (ht : TOk f l) (hc : f (asked j) = 0) (hj : thereB l j = true) : TOk f x := by
  have hmem : ∀ y ∈ x, y ∈ l ∨ y = asked j := fun y hy => by
    rw [h.eq] at hy
    have := (List.eraseIdx_sublist (l ++ [asked j]) e).subset hy
    simpa using this
  refine ⟨?_, fun y hy => ?_, ?_, fun y hy => ?_⟩
  · have hlen := h.len
    split at hlen
    · have := h.top; omega
    · rename_i hn
      have := h.room (by rcases h.le with h1 | h1 <;> omega)
      omega
  · rcases hmem y hy with h1 | rfl
    · exact ht.each y h1
    · exact hc
  · rw [h.eq]
    exact h.up.sublist (List.eraseIdx_sublist _ _)
  · unfold thereB
    rw [List.all_eq_true]
    intro v hv
    have hold : hasB l v = true := by
      rcases hmem y hy with h1 | rfl
      · have := ht.there y h1
        unfold thereB at this
        exact List.all_eq_true.1 this v hv
      · unfold thereB at hj
        exact List.all_eq_true.1 hj v hv
    obtain ⟨z, hz, hzv⟩ := has_mem.1 hold
    obtain ⟨k, hk⟩ := List.mem_iff_getElem?.1 hz
    refine has_mem.2 ⟨z, ?_, hzv⟩
    by_cases hke : k = e
    · subst hke
      have hkl := (List.getElem?_eq_some_iff.1 hk).1
      obtain ⟨_, _, h3, h4⟩ := (h.loose hkl).2 z hk
      rcases hmem y hy with h1 | rfl
      · exact absurd (by rw [hzv]; exact hv) (h4 y h1)
      · exact absurd (by rw [hzv]; exact hv) h3
    · exact List.mem_of_getElem? (h.at_ hk hke).1
end
theorem up_app {l : List JV} {j : JV} (h : Up l) (hl : lastB l j = false) : Up (l ++ [asked j]) := by
  refine List.pairwise_append.2 ⟨h, List.pairwise_singleton _ _, fun y hy z hz => ?_⟩
  obtain rfl : z = asked j := by simpa using hz
  obtain ⟨k, hk, rfl⟩ := List.mem_iff_getElem.1 hy
  have hlast := last_no hl (l[l.length - 1]'(by omega)) (List.getElem?_eq_getElem _)
  by_cases hkl : k = l.length - 1
  · subst hkl
    exact hlast
  · have := List.pairwise_iff_getElem.1 h k (l.length - 1) hk (by omega) (by omega)
    exact Int.lt_trans this hlast
theorem loose_facts {l : List JV} {us : List Int} {j y : JV} (h : looseB l us (asked j) y = true) : 3 ≤ y.st ∧ y.id ∉ us ∧ y.id ∉ j.af ∧ ∀ z ∈ l, y.id ∉ z.af := by
  unfold looseB at h
  simp only [Bool.not_eq_true', Bool.or_eq_false_iff, decide_eq_false_iff_not, List.any_eq_false, decide_eq_true_eq] at h
  obtain ⟨⟨⟨h1, h2⟩, h3⟩, h4⟩ := h
  exact ⟨by omega, h2, h3, h4⟩
/-- What Add answers where it answers a table. -/
theorem addV_ok {d0 d1 d2 bo fr tr ag : Int} {ks : List Cls} {l : List JV} {us : List Int} {j : JV} (h : (addV d0 d1 d2 bo fr tr ag ks l us j).2 = 0) :
    tableV d0 d1 d2 bo fr tr ag ks (addV d0 d1 d2 bo fr tr ag ks l us j).1 = 0 ∧ ∃ e, KE l us j (addV d0 d1 d2 bo fr tr ag ks l us j).1 e := by
  unfold addV at h ⊢
  by_cases h1 : tableV d0 d1 d2 bo fr tr ag ks l ≠ 0
  · rw [if_pos h1] at h; exact absurd h h1
  rw [if_neg h1] at h ⊢
  obtain ⟨hcfg, ht⟩ := tableV_of (Decidable.not_not.1 h1)
  by_cases h2 : checkV d0 d1 d2 ks (asked j) ≠ 0
  · rw [if_pos h2] at h; exact absurd h h2
  rw [if_neg h2] at h ⊢
  have h2' := Decidable.not_not.1 h2
  by_cases h3 : lastB l j = true
  · rw [if_pos h3] at h; exact absurd h (by simp)
  rw [if_neg h3] at h ⊢
  have h3' : lastB l j = false := by simpa using h3
  by_cases h4 : thereB l j = false
  · rw [if_pos h4] at h; exact absurd h (by simp)
  rw [if_neg h4] at h ⊢
  have h4' : thereB l j = true := by simpa using h4
  by_cases h5 : l.length < 24
  · rw [if_pos h5]
    have k : KE l us j (l ++ [asked j]) (l.length + 1) := ⟨by rw [List.eraseIdx_of_length_le (by simp)], .inr rfl, fun h => by omega, up_app ht.rise h3', by omega, fun _ => h5⟩
    exact ⟨tableV_to hcfg (k.tok ht h2' h4'), _, k⟩
  rw [if_neg h5] at h ⊢
  cases hh : (looseUp l us (asked j) l.length).head? with
  | none => rw [hh] at h; exact absurd h (by simp)
  | some i =>
    obtain ⟨hil, y, hy, hly⟩ := loose_mem (List.mem_of_mem_head? hh)
    have k : KE l us j ((l ++ [asked j]).eraseIdx i) i := ⟨rfl, .inl hil, fun _ => ⟨by have := ht.len; omega, fun z hz => by rw [hy] at hz; cases hz; exact loose_facts hly⟩, up_app ht.rise h3', ht.len, fun h => by omega⟩
    exact ⟨tableV_to hcfg (k.tok ht h2' h4'), _, k⟩
theorem addV_bad {d0 d1 d2 bo fr tr ag : Int} {ks : List Cls} {l : List JV} {us : List Int} {j : JV} (h : (addV d0 d1 d2 bo fr tr ag ks l us j).2 ≠ 0) : (addV d0 d1 d2 bo fr tr ag ks l us j).1 = [] := by
  unfold addV at h ⊢
  repeat' split at h
  all_goals first | (simp only [*]; simp; done) | skip
  all_goals simp_all
end Go.Proofs.Ytaldgmmmcbikgaa.AddMath
