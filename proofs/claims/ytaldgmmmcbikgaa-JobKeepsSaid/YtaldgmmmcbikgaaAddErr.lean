/- job.Add: what is refused. No conditions but those named. -/
import Derived.BigRegion
import Derived.BigQuiet
import Derived.Lib.QuietBelow
import Derived.Deep.QuietTactic
import Derived.Deep.DeepCutAuto
import Derived.Deep.MidRow
import Derived.IntWalk
import Derived.Test.YtaldgmmmcbikgaaJobAdd
namespace Go.Proofs.Ytaldgmmmcbikgaa.AddErr
open Go
open Go.Sort (grow)
open Go.RowKit Mem PosMath PartMath PartClass PartCheck TurnMath TurnWalks TurnFitsV JobMath JobIndex JobPlain JobAfter JobCheck JobFind JobTable JobMem JobTwin JobRow QuietRow JobAdd

set_option linter.unusedVariables false
set_option linter.unusedSimpArgs false

set_option maxRecDepth 100000 in
set_option maxHeartbeats 16000000 in
theorem add_table (d0 d1 d2 bo fr tr ag : Int) (K : Option Addr) (kc : Nat) (ks : List Cls) (hlk : ks.length ≤ 4611686018427387904) (X : Option Addr) (cap : Nat) (l : List JV) (hl : l.length ≤ 1000) (hla : ∀ j ∈ l, j.af.length ≤ 1000) (U : Option Addr) (cu : Nat) (us : List Int) (j : JV) (Y : Option Addr) (cj : Nat) (hja : j.af.length ≤ 1000) (hv : tableV d0 d1 d2 bo fr tr ag ks l ≠ 0) (w : World) (hk : ClsAt w w.heap.size K ks) (hX : JobsAt w X l) (hU : IntsAt w U us) (hY : IntsAt w Y j.af) :
    Calls Try.prog 19 #[.agg #[.int .i64 d0, .int .i64 d1, .int .i64 d2, .int .i64 bo, .int .i64 fr, .int .i64 tr, .int .i64 ag, .slice K ks.length kc], .slice X l.length cap, .slice U us.length cu, .agg #[.int .i64 j.id, .int .i64 j.us, .int .i64 j.cl, .int .i64 j.x.a, .int .i64 j.x.b, .int .i64 j.x.c, .bool j.x.p, .bool j.x.q, .bool j.x.r, .bool j.x.tn, .int .i64 j.wa, .int .i64 j.pr, .bool j.he, .slice Y j.af.length cj, .int .u8 j.st, .int .i64 j.ca]] w fun e w' => e = .returned (.tuple #[.slice none 0 0, .int .i64 (tableV d0 d1 d2 bo fr tr ag ks l)]) ∧ Below w.heap.size w w' := by
  have HT := Lib.hid (fun w hk hX => table_any d0 d1 d2 bo fr tr ag K kc ks hlk X cap l (by omega) (fun j hj => by have := hla j hj; omega) w hk hX)
  have HK := Lib.hid hk
  have HX := Lib.hid hX
  have HY := Lib.hid hY
  obtain ⟨V, hV⟩ : ∃ V, V = tableV d0 d1 d2 bo fr tr ag ks l := ⟨_, rfl⟩
  rw [← hV]
  rw [← hV] at HT hv
  have hv1 : (V != 0) = true := by simpa using hv
  clear hk hX hU hY hv hV hla
  go_enter Try.func19, Try.ntmps19
  go_upto_region 1 with fail
  have kC : Blk (((((w.alloc (.cells #[.int .i64 d0, .int .i64 d1, .int .i64 d2, .int .i64 bo, .int .i64 fr, .int .i64 tr, .int .i64 ag, .slice K ks.length kc] 26)).alloc (.cells #[.slice X l.length cap] 27)).alloc (.cells #[.int .i64 j.id, .int .i64 j.us, .int .i64 j.cl, .int .i64 j.x.a, .int .i64 j.x.b, .int .i64 j.x.c, .bool j.x.p, .bool j.x.q, .bool j.x.r, .bool j.x.tn, .int .i64 j.wa, .int .i64 j.pr, .bool j.he, .slice Y j.af.length cj, .int .u8 j.st, .int .i64 j.ca] 33)).alloc (.cells #[.slice none 0 0] 27)).alloc (.cells #[.int .i64 0] 36)) (w.heap.size) 26 #[.int .i64 d0, .int .i64 d1, .int .i64 d2, .int .i64 bo, .int .i64 fr, .int .i64 tr, .int .i64 ag, .slice K ks.length kc] := ((((Blk.new w _ _).alloc _).alloc _).alloc _).alloc _
  have kL : Blk (((((w.alloc (.cells #[.int .i64 d0, .int .i64 d1, .int .i64 d2, .int .i64 bo, .int .i64 fr, .int .i64 tr, .int .i64 ag, .slice K ks.length kc] 26)).alloc (.cells #[.slice X l.length cap] 27)).alloc (.cells #[.int .i64 j.id, .int .i64 j.us, .int .i64 j.cl, .int .i64 j.x.a, .int .i64 j.x.b, .int .i64 j.x.c, .bool j.x.p, .bool j.x.q, .bool j.x.r, .bool j.x.tn, .int .i64 j.wa, .int .i64 j.pr, .bool j.he, .slice Y j.af.length cj, .int .u8 j.st, .int .i64 j.ca] 33)).alloc (.cells #[.slice none 0 0] 27)).alloc (.cells #[.int .i64 0] 36)) (w.heap.size + 1) 27 #[.slice X l.length cap] := (((blk1 w _ _).alloc _).alloc _).alloc _
  have kJ : Blk (((((w.alloc (.cells #[.int .i64 d0, .int .i64 d1, .int .i64 d2, .int .i64 bo, .int .i64 fr, .int .i64 tr, .int .i64 ag, .slice K ks.length kc] 26)).alloc (.cells #[.slice X l.length cap] 27)).alloc (.cells #[.int .i64 j.id, .int .i64 j.us, .int .i64 j.cl, .int .i64 j.x.a, .int .i64 j.x.b, .int .i64 j.x.c, .bool j.x.p, .bool j.x.q, .bool j.x.r, .bool j.x.tn, .int .i64 j.wa, .int .i64 j.pr, .bool j.he, .slice Y j.af.length cj, .int .u8 j.st, .int .i64 j.ca] 33)).alloc (.cells #[.slice none 0 0] 27)).alloc (.cells #[.int .i64 0] 36)) (w.heap.size + 1 + 1) 33 #[.int .i64 j.id, .int .i64 j.us, .int .i64 j.cl, .int .i64 j.x.a, .int .i64 j.x.b, .int .i64 j.x.c, .bool j.x.p, .bool j.x.q, .bool j.x.r, .bool j.x.tn, .int .i64 j.wa, .int .i64 j.pr, .bool j.he, .slice Y j.af.length cj, .int .u8 j.st, .int .i64 j.ca] := ((blk2 w _ _).alloc _).alloc _
  have kR : Blk (((((w.alloc (.cells #[.int .i64 d0, .int .i64 d1, .int .i64 d2, .int .i64 bo, .int .i64 fr, .int .i64 tr, .int .i64 ag, .slice K ks.length kc] 26)).alloc (.cells #[.slice X l.length cap] 27)).alloc (.cells #[.int .i64 j.id, .int .i64 j.us, .int .i64 j.cl, .int .i64 j.x.a, .int .i64 j.x.b, .int .i64 j.x.c, .bool j.x.p, .bool j.x.q, .bool j.x.r, .bool j.x.tn, .int .i64 j.wa, .int .i64 j.pr, .bool j.he, .slice Y j.af.length cj, .int .u8 j.st, .int .i64 j.ca] 33)).alloc (.cells #[.slice none 0 0] 27)).alloc (.cells #[.int .i64 0] 36)) (w.heap.size + 1 + 1 + 1) 27 #[.slice none 0 0] := (JobAdd.blk3 w _ _).alloc _
  have kE : Blk (((((w.alloc (.cells #[.int .i64 d0, .int .i64 d1, .int .i64 d2, .int .i64 bo, .int .i64 fr, .int .i64 tr, .int .i64 ag, .slice K ks.length kc] 26)).alloc (.cells #[.slice X l.length cap] 27)).alloc (.cells #[.int .i64 j.id, .int .i64 j.us, .int .i64 j.cl, .int .i64 j.x.a, .int .i64 j.x.b, .int .i64 j.x.c, .bool j.x.p, .bool j.x.q, .bool j.x.r, .bool j.x.tn, .int .i64 j.wa, .int .i64 j.pr, .bool j.he, .slice Y j.af.length cj, .int .u8 j.st, .int .i64 j.ca] 33)).alloc (.cells #[.slice none 0 0] 27)).alloc (.cells #[.int .i64 0] 36)) (w.heap.size + 1 + 1 + 1 + 1) 36 #[.int .i64 0] := blk4 w _ _
  have hb0 : Below w.heap.size w (((((w.alloc (.cells #[.int .i64 d0, .int .i64 d1, .int .i64 d2, .int .i64 bo, .int .i64 fr, .int .i64 tr, .int .i64 ag, .slice K ks.length kc] 26)).alloc (.cells #[.slice X l.length cap] 27)).alloc (.cells #[.int .i64 j.id, .int .i64 j.us, .int .i64 j.cl, .int .i64 j.x.a, .int .i64 j.x.b, .int .i64 j.x.c, .bool j.x.p, .bool j.x.q, .bool j.x.r, .bool j.x.tn, .int .i64 j.wa, .int .i64 j.pr, .bool j.he, .slice Y j.af.length cj, .int .u8 j.st, .int .i64 j.ca] 33)).alloc (.cells #[.slice none 0 0] 27)).alloc (.cells #[.int .i64 0] 36)) := below_alloc (below_alloc (below_alloc (below_alloc (below_alloc (Below.refl _ _)))))
  generalize (((((w.alloc (.cells #[.int .i64 d0, .int .i64 d1, .int .i64 d2, .int .i64 bo, .int .i64 fr, .int .i64 tr, .int .i64 ag, .slice K ks.length kc] 26)).alloc (.cells #[.slice X l.length cap] 27)).alloc (.cells #[.int .i64 j.id, .int .i64 j.us, .int .i64 j.cl, .int .i64 j.x.a, .int .i64 j.x.b, .int .i64 j.x.c, .bool j.x.p, .bool j.x.q, .bool j.x.r, .bool j.x.tn, .int .i64 j.wa, .int .i64 j.pr, .bool j.he, .slice Y j.af.length cj, .int .u8 j.st, .int .i64 j.ca] 33)).alloc (.cells #[.slice none 0 0] 27)).alloc (.cells #[.int .i64 0] 36)) = w0 at *
  have HB0 := Lib.hid hb0
  have KC0 := Lib.hid kC
  have KL0 := Lib.hid kL
  have KJ0 := Lib.hid kJ
  have KR0 := Lib.hid kR
  have KE0 := Lib.hid kE
  have xl : w0.cell? ⟨w.heap.size + 1, 0, none⟩ = some (.slice X l.length cap) := kL.cell 0
  clear hb0 kC kL kJ kR kE
  go_wp2_with (first | (refine wpList_load_row rfl 26 _ rfl _ rfl 26 #[.int .i64 d0, .int .i64 d1, .int .i64 d2, .int .i64 bo, .int .i64 fr, .int .i64 tr, .int .i64 ag, .slice K ks.length kc] (0, 0) _ KC0.out Try.underlying26 rfl (by kernel_rfl) ?_))
  refine (HT.out _ (HK.out.up HB0.out) (HX.out.up HB0.out)).mono ?_
  rintro e w1 ⟨rfl, hB1⟩
  have HB1 := Lib.hid (below_up HB0.out hB1)
  have KC1 := Lib.hid (KC0.out.below hB1 KC0.out.lt)
  have KL1 := Lib.hid (KL0.out.below hB1 KL0.out.lt)
  have KJ1 := Lib.hid (KJ0.out.below hB1 KJ0.out.lt)
  have KR1 := Lib.hid (KR0.out.below hB1 KR0.out.lt)
  have KE1 := Lib.hid (KE0.out.below hB1 KE0.out.lt)
  clear hB1 HB0 KC0 KL0 KJ0 KR0 KE0 xl HT
  have cR : w1.cell? ⟨w.heap.size + 1 + 1 + 1, 0, none⟩ = some (.slice none 0 0) := KR1.out.cell 0
  have fR : w1.frozen? ⟨w.heap.size + 1 + 1 + 1, 0, none⟩ = false := KR1.out.frozen 0
  have cE : w1.cell? ⟨w.heap.size + 1 + 1 + 1 + 1, 0, none⟩ = some (.int .i64 0) := KE1.out.cell 0
  have fE : w1.frozen? ⟨w.heap.size + 1 + 1 + 1 + 1, 0, none⟩ = false := KE1.out.frozen 0
  go_wp2_with fail
  refine bodyPost_ret (v := .tuple #[.slice none 0 0, .int .i64 V]) (by simp [results, Try.results19, go_sem, cR, cE]) rfl ⟨rfl, (HB1.out.setCell (p := ⟨w.heap.size + 1 + 1 + 1, 0, none⟩) (by show w.heap.size ≤ w.heap.size + 1 + 1 + 1; omega) _).setCell (p := ⟨w.heap.size + 1 + 1 + 1 + 1, 0, none⟩) (by show w.heap.size ≤ w.heap.size + 1 + 1 + 1 + 1; omega) _⟩

set_option maxRecDepth 100000 in
set_option maxHeartbeats 16000000 in
theorem add_check (d0 d1 d2 bo fr tr ag : Int) (K : Option Addr) (kc : Nat) (ks : List Cls) (hlk : ks.length ≤ 4611686018427387904) (X : Option Addr) (cap : Nat) (l : List JV) (hl : l.length ≤ 1000) (hla : ∀ j ∈ l, j.af.length ≤ 1000) (U : Option Addr) (cu : Nat) (us : List Int) (j : JV) (Y : Option Addr) (cj : Nat) (hja : j.af.length ≤ 1000) (hv : tableV d0 d1 d2 bo fr tr ag ks l = 0) (hc : checkV d0 d1 d2 ks (asked j) ≠ 0) (w : World) (hk : ClsAt w w.heap.size K ks) (hX : JobsAt w X l) (hU : IntsAt w U us) (hY : IntsAt w Y j.af) :
    Calls Try.prog 19 #[.agg #[.int .i64 d0, .int .i64 d1, .int .i64 d2, .int .i64 bo, .int .i64 fr, .int .i64 tr, .int .i64 ag, .slice K ks.length kc], .slice X l.length cap, .slice U us.length cu, .agg #[.int .i64 j.id, .int .i64 j.us, .int .i64 j.cl, .int .i64 j.x.a, .int .i64 j.x.b, .int .i64 j.x.c, .bool j.x.p, .bool j.x.q, .bool j.x.r, .bool j.x.tn, .int .i64 j.wa, .int .i64 j.pr, .bool j.he, .slice Y j.af.length cj, .int .u8 j.st, .int .i64 j.ca]] w fun e w' => e = .returned (.tuple #[.slice none 0 0, .int .i64 (checkV d0 d1 d2 ks (asked j))]) ∧ Below w.heap.size w w' := by
  have HT := Lib.hid (fun w hk hX => table_any d0 d1 d2 bo fr tr ag K kc ks hlk X cap l (by omega) (fun j hj => by have := hla j hj; omega) w hk hX)
  have HK := Lib.hid hk
  have HX := Lib.hid hX
  have HY := Lib.hid hY
  have HC := Lib.hid (fun w hk hY => jcheck d0 d1 d2 bo fr tr ag K kc ks (asked j) Y cj hlk (show j.af.length ≤ _ by omega) w hk hY)
  rw [hv] at HT
  obtain ⟨V, hV⟩ : ∃ V, V = checkV d0 d1 d2 ks (asked j) := ⟨_, rfl⟩
  rw [← hV]
  rw [← hV] at HC hc
  have hc1 : (V != 0) = true := by simpa using hc
  clear hk hX hU hY hv hc hV hla
  go_enter Try.func19, Try.ntmps19
  go_upto_region 1 with fail
  have kC : Blk (((((w.alloc (.cells #[.int .i64 d0, .int .i64 d1, .int .i64 d2, .int .i64 bo, .int .i64 fr, .int .i64 tr, .int .i64 ag, .slice K ks.length kc] 26)).alloc (.cells #[.slice X l.length cap] 27)).alloc (.cells #[.int .i64 j.id, .int .i64 j.us, .int .i64 j.cl, .int .i64 j.x.a, .int .i64 j.x.b, .int .i64 j.x.c, .bool j.x.p, .bool j.x.q, .bool j.x.r, .bool j.x.tn, .int .i64 j.wa, .int .i64 j.pr, .bool j.he, .slice Y j.af.length cj, .int .u8 j.st, .int .i64 j.ca] 33)).alloc (.cells #[.slice none 0 0] 27)).alloc (.cells #[.int .i64 0] 36)) (w.heap.size) 26 #[.int .i64 d0, .int .i64 d1, .int .i64 d2, .int .i64 bo, .int .i64 fr, .int .i64 tr, .int .i64 ag, .slice K ks.length kc] := ((((Blk.new w _ _).alloc _).alloc _).alloc _).alloc _
  have kL : Blk (((((w.alloc (.cells #[.int .i64 d0, .int .i64 d1, .int .i64 d2, .int .i64 bo, .int .i64 fr, .int .i64 tr, .int .i64 ag, .slice K ks.length kc] 26)).alloc (.cells #[.slice X l.length cap] 27)).alloc (.cells #[.int .i64 j.id, .int .i64 j.us, .int .i64 j.cl, .int .i64 j.x.a, .int .i64 j.x.b, .int .i64 j.x.c, .bool j.x.p, .bool j.x.q, .bool j.x.r, .bool j.x.tn, .int .i64 j.wa, .int .i64 j.pr, .bool j.he, .slice Y j.af.length cj, .int .u8 j.st, .int .i64 j.ca] 33)).alloc (.cells #[.slice none 0 0] 27)).alloc (.cells #[.int .i64 0] 36)) (w.heap.size + 1) 27 #[.slice X l.length cap] := (((blk1 w _ _).alloc _).alloc _).alloc _
  have kJ : Blk (((((w.alloc (.cells #[.int .i64 d0, .int .i64 d1, .int .i64 d2, .int .i64 bo, .int .i64 fr, .int .i64 tr, .int .i64 ag, .slice K ks.length kc] 26)).alloc (.cells #[.slice X l.length cap] 27)).alloc (.cells #[.int .i64 j.id, .int .i64 j.us, .int .i64 j.cl, .int .i64 j.x.a, .int .i64 j.x.b, .int .i64 j.x.c, .bool j.x.p, .bool j.x.q, .bool j.x.r, .bool j.x.tn, .int .i64 j.wa, .int .i64 j.pr, .bool j.he, .slice Y j.af.length cj, .int .u8 j.st, .int .i64 j.ca] 33)).alloc (.cells #[.slice none 0 0] 27)).alloc (.cells #[.int .i64 0] 36)) (w.heap.size + 1 + 1) 33 #[.int .i64 j.id, .int .i64 j.us, .int .i64 j.cl, .int .i64 j.x.a, .int .i64 j.x.b, .int .i64 j.x.c, .bool j.x.p, .bool j.x.q, .bool j.x.r, .bool j.x.tn, .int .i64 j.wa, .int .i64 j.pr, .bool j.he, .slice Y j.af.length cj, .int .u8 j.st, .int .i64 j.ca] := ((blk2 w _ _).alloc _).alloc _
  have kR : Blk (((((w.alloc (.cells #[.int .i64 d0, .int .i64 d1, .int .i64 d2, .int .i64 bo, .int .i64 fr, .int .i64 tr, .int .i64 ag, .slice K ks.length kc] 26)).alloc (.cells #[.slice X l.length cap] 27)).alloc (.cells #[.int .i64 j.id, .int .i64 j.us, .int .i64 j.cl, .int .i64 j.x.a, .int .i64 j.x.b, .int .i64 j.x.c, .bool j.x.p, .bool j.x.q, .bool j.x.r, .bool j.x.tn, .int .i64 j.wa, .int .i64 j.pr, .bool j.he, .slice Y j.af.length cj, .int .u8 j.st, .int .i64 j.ca] 33)).alloc (.cells #[.slice none 0 0] 27)).alloc (.cells #[.int .i64 0] 36)) (w.heap.size + 1 + 1 + 1) 27 #[.slice none 0 0] := (JobAdd.blk3 w _ _).alloc _
  have kE : Blk (((((w.alloc (.cells #[.int .i64 d0, .int .i64 d1, .int .i64 d2, .int .i64 bo, .int .i64 fr, .int .i64 tr, .int .i64 ag, .slice K ks.length kc] 26)).alloc (.cells #[.slice X l.length cap] 27)).alloc (.cells #[.int .i64 j.id, .int .i64 j.us, .int .i64 j.cl, .int .i64 j.x.a, .int .i64 j.x.b, .int .i64 j.x.c, .bool j.x.p, .bool j.x.q, .bool j.x.r, .bool j.x.tn, .int .i64 j.wa, .int .i64 j.pr, .bool j.he, .slice Y j.af.length cj, .int .u8 j.st, .int .i64 j.ca] 33)).alloc (.cells #[.slice none 0 0] 27)).alloc (.cells #[.int .i64 0] 36)) (w.heap.size + 1 + 1 + 1 + 1) 36 #[.int .i64 0] := blk4 w _ _
  have hb0 : Below w.heap.size w (((((w.alloc (.cells #[.int .i64 d0, .int .i64 d1, .int .i64 d2, .int .i64 bo, .int .i64 fr, .int .i64 tr, .int .i64 ag, .slice K ks.length kc] 26)).alloc (.cells #[.slice X l.length cap] 27)).alloc (.cells #[.int .i64 j.id, .int .i64 j.us, .int .i64 j.cl, .int .i64 j.x.a, .int .i64 j.x.b, .int .i64 j.x.c, .bool j.x.p, .bool j.x.q, .bool j.x.r, .bool j.x.tn, .int .i64 j.wa, .int .i64 j.pr, .bool j.he, .slice Y j.af.length cj, .int .u8 j.st, .int .i64 j.ca] 33)).alloc (.cells #[.slice none 0 0] 27)).alloc (.cells #[.int .i64 0] 36)) := below_alloc (below_alloc (below_alloc (below_alloc (below_alloc (Below.refl _ _)))))
  generalize (((((w.alloc (.cells #[.int .i64 d0, .int .i64 d1, .int .i64 d2, .int .i64 bo, .int .i64 fr, .int .i64 tr, .int .i64 ag, .slice K ks.length kc] 26)).alloc (.cells #[.slice X l.length cap] 27)).alloc (.cells #[.int .i64 j.id, .int .i64 j.us, .int .i64 j.cl, .int .i64 j.x.a, .int .i64 j.x.b, .int .i64 j.x.c, .bool j.x.p, .bool j.x.q, .bool j.x.r, .bool j.x.tn, .int .i64 j.wa, .int .i64 j.pr, .bool j.he, .slice Y j.af.length cj, .int .u8 j.st, .int .i64 j.ca] 33)).alloc (.cells #[.slice none 0 0] 27)).alloc (.cells #[.int .i64 0] 36)) = w0 at *
  have HB0 := Lib.hid hb0
  have KC0 := Lib.hid kC
  have KL0 := Lib.hid kL
  have KJ0 := Lib.hid kJ
  have KR0 := Lib.hid kR
  have KE0 := Lib.hid kE
  have xl : w0.cell? ⟨w.heap.size + 1, 0, none⟩ = some (.slice X l.length cap) := kL.cell 0
  clear hb0 kC kL kJ kR kE
  go_wp2_with (first | (refine wpList_load_row rfl 26 _ rfl _ rfl 26 #[.int .i64 d0, .int .i64 d1, .int .i64 d2, .int .i64 bo, .int .i64 fr, .int .i64 tr, .int .i64 ag, .slice K ks.length kc] (0, 0) _ KC0.out Try.underlying26 rfl (by kernel_rfl) ?_))
  refine (HT.out _ (HK.out.up HB0.out) (HX.out.up HB0.out)).mono ?_
  rintro e w1 ⟨rfl, hB1⟩
  have HB1 := Lib.hid (below_up HB0.out hB1)
  have KC1 := Lib.hid (KC0.out.below hB1 KC0.out.lt)
  have KL1 := Lib.hid (KL0.out.below hB1 KL0.out.lt)
  have KJ1 := Lib.hid (KJ0.out.below hB1 KJ0.out.lt)
  have KR1 := Lib.hid (KR0.out.below hB1 KR0.out.lt)
  have KE1 := Lib.hid (KE0.out.below hB1 KE0.out.lt)
  clear hB1 HB0 KC0 KL0 KJ0 KR0 KE0 xl HT
  have y14 : w1.cell? ⟨w.heap.size + 1 + 1, 14, none⟩ = some (.int .u8 j.st) := KJ1.out.cell 14
  have f14 : w1.frozen? ⟨w.heap.size + 1 + 1, 14, none⟩ = false := KJ1.out.frozen 14
  go_upto_region 5 with fail
  have kj : Blk (w1.setCell ⟨w.heap.size + 1 + 1, 14, none⟩ (.int .u8 1)) (w.heap.size + 1 + 1) 33 #[.int .i64 j.id, .int .i64 j.us, .int .i64 j.cl, .int .i64 j.x.a, .int .i64 j.x.b, .int .i64 j.x.c, .bool j.x.p, .bool j.x.q, .bool j.x.r, .bool j.x.tn, .int .i64 j.wa, .int .i64 j.pr, .bool j.he, .slice Y j.af.length cj, .int .u8 1, .int .i64 j.ca] := KJ1.out.set_ 14 (.int .u8 1)
  have kC := KC1.out.far (p := ⟨w.heap.size + 1 + 1, 14, none⟩) (by show w.heap.size ≠ w.heap.size + 1 + 1; omega) (.int .u8 1)
  have kL := KL1.out.far (p := ⟨w.heap.size + 1 + 1, 14, none⟩) (by show w.heap.size + 1 ≠ w.heap.size + 1 + 1; omega) (.int .u8 1)
  have kR := KR1.out.far (p := ⟨w.heap.size + 1 + 1, 14, none⟩) (by show w.heap.size + 1 + 1 + 1 ≠ w.heap.size + 1 + 1; omega) (.int .u8 1)
  have kE := KE1.out.far (p := ⟨w.heap.size + 1 + 1, 14, none⟩) (by show w.heap.size + 1 + 1 + 1 + 1 ≠ w.heap.size + 1 + 1; omega) (.int .u8 1)
  have hb2 := HB1.out.setCell (p := ⟨w.heap.size + 1 + 1, 14, none⟩) (by show w.heap.size ≤ w.heap.size + 1 + 1; omega) (.int .u8 1)
  clear y14 f14
  generalize (w1.setCell ⟨w.heap.size + 1 + 1, 14, none⟩ (.int .u8 1)) = w2 at *
  have HB2 := Lib.hid hb2
  have KJ2 := Lib.hid kj
  have KC2 := Lib.hid kC
  have KL2 := Lib.hid kL
  have KR2 := Lib.hid kR
  have KE2 := Lib.hid kE
  clear hb2 kj kC kL kR kE HB1 KC1 KL1 KJ1 KR1 KE1
  go_wp2_with (first | (refine wpList_load_row rfl 26 _ rfl _ rfl 26 #[.int .i64 d0, .int .i64 d1, .int .i64 d2, .int .i64 bo, .int .i64 fr, .int .i64 tr, .int .i64 ag, .slice K ks.length kc] (0, 0) _ KC2.out Try.underlying26 rfl (by kernel_rfl) ?_) | (refine wpList_load_row rfl 33 _ rfl _ rfl 33 #[.int .i64 j.id, .int .i64 j.us, .int .i64 j.cl, .int .i64 j.x.a, .int .i64 j.x.b, .int .i64 j.x.c, .bool j.x.p, .bool j.x.q, .bool j.x.r, .bool j.x.tn, .int .i64 j.wa, .int .i64 j.pr, .bool j.he, .slice Y j.af.length cj, .int .u8 1, .int .i64 j.ca] (0, 0) _ KJ2.out Try.underlying33 rfl (by kernel_rfl) ?_))
  refine (HC.out _ (HK.out.up HB2.out) (HY.out.up HB2.out)).mono ?_
  rintro e w3 ⟨rfl, hB3⟩
  have HB3 := Lib.hid (below_up HB2.out hB3)
  have KC3 := Lib.hid (KC2.out.below hB3 KC2.out.lt)
  have KL3 := Lib.hid (KL2.out.below hB3 KL2.out.lt)
  have KJ3 := Lib.hid (KJ2.out.below hB3 KJ2.out.lt)
  have KR3 := Lib.hid (KR2.out.below hB3 KR2.out.lt)
  have KE3 := Lib.hid (KE2.out.below hB3 KE2.out.lt)
  clear hB3 HB2 KC2 KL2 KJ2 KR2 KE2 HC
  have cR : w3.cell? ⟨w.heap.size + 1 + 1 + 1, 0, none⟩ = some (.slice none 0 0) := KR3.out.cell 0
  have fR : w3.frozen? ⟨w.heap.size + 1 + 1 + 1, 0, none⟩ = false := KR3.out.frozen 0
  have cE : w3.cell? ⟨w.heap.size + 1 + 1 + 1 + 1, 0, none⟩ = some (.int .i64 0) := KE3.out.cell 0
  have fE : w3.frozen? ⟨w.heap.size + 1 + 1 + 1 + 1, 0, none⟩ = false := KE3.out.frozen 0
  go_wp2_with fail
  refine bodyPost_ret (v := .tuple #[.slice none 0 0, .int .i64 V]) (by simp [results, Try.results19, go_sem, cR, cE]) rfl ⟨rfl, (HB3.out.setCell (p := ⟨w.heap.size + 1 + 1 + 1, 0, none⟩) (by show w.heap.size ≤ w.heap.size + 1 + 1 + 1; omega) _).setCell (p := ⟨w.heap.size + 1 + 1 + 1 + 1, 0, none⟩) (by show w.heap.size ≤ w.heap.size + 1 + 1 + 1 + 1; omega) _⟩

set_option maxRecDepth 100000 in
set_option maxHeartbeats 16000000 in
theorem add_bad (d0 d1 d2 bo fr tr ag : Int) (K : Option Addr) (kc : Nat) (ks : List Cls) (hlk : ks.length ≤ 4611686018427387904) (X : Option Addr) (cap : Nat) (l : List JV) (hl : l.length ≤ 1000) (hla : ∀ j ∈ l, j.af.length ≤ 1000) (U : Option Addr) (cu : Nat) (us : List Int) (j : JV) (Y : Option Addr) (cj : Nat) (hja : j.af.length ≤ 1000) (hv : tableV d0 d1 d2 bo fr tr ag ks l = 0) (hc : checkV d0 d1 d2 ks (asked j) = 0) (hne : l ≠ []) (hlast : ∀ x, l[l.length - 1]? = some x → j.id ≤ x.id) (w : World) (hk : ClsAt w w.heap.size K ks) (hX : JobsAt w X l) (hU : IntsAt w U us) (hY : IntsAt w Y j.af) :
    Calls Try.prog 19 #[.agg #[.int .i64 d0, .int .i64 d1, .int .i64 d2, .int .i64 bo, .int .i64 fr, .int .i64 tr, .int .i64 ag, .slice K ks.length kc], .slice X l.length cap, .slice U us.length cu, .agg #[.int .i64 j.id, .int .i64 j.us, .int .i64 j.cl, .int .i64 j.x.a, .int .i64 j.x.b, .int .i64 j.x.c, .bool j.x.p, .bool j.x.q, .bool j.x.r, .bool j.x.tn, .int .i64 j.wa, .int .i64 j.pr, .bool j.he, .slice Y j.af.length cj, .int .u8 j.st, .int .i64 j.ca]] w fun e w' => e = .returned (.tuple #[.slice none 0 0, .int .i64 8]) ∧ Below w.heap.size w w' := by
  have HT := Lib.hid (fun w hk hX => table_any d0 d1 d2 bo fr tr ag K kc ks hlk X cap l (by omega) (fun j hj => by have := hla j hj; omega) w hk hX)
  have HK := Lib.hid hk
  have HX := Lib.hid hX
  have HY := Lib.hid hY
  have HC := Lib.hid (fun w hk hY => jcheck d0 d1 d2 bo fr tr ag K kc ks (asked j) Y cj hlk (show j.af.length ≤ _ by omega) w hk hY)
  rw [hv] at HT
  rw [hc] at HC
  have HL := Lib.hid hlast
  have hz : ¬ l.length = 0 := by cases l with | nil => exact absurd rfl hne | cons _ _ => simp
  clear hk hX hU hY hv hc hlast hla hne
  go_enter Try.func19, Try.ntmps19
  go_upto_region 1 with fail
  have kC : Blk (((((w.alloc (.cells #[.int .i64 d0, .int .i64 d1, .int .i64 d2, .int .i64 bo, .int .i64 fr, .int .i64 tr, .int .i64 ag, .slice K ks.length kc] 26)).alloc (.cells #[.slice X l.length cap] 27)).alloc (.cells #[.int .i64 j.id, .int .i64 j.us, .int .i64 j.cl, .int .i64 j.x.a, .int .i64 j.x.b, .int .i64 j.x.c, .bool j.x.p, .bool j.x.q, .bool j.x.r, .bool j.x.tn, .int .i64 j.wa, .int .i64 j.pr, .bool j.he, .slice Y j.af.length cj, .int .u8 j.st, .int .i64 j.ca] 33)).alloc (.cells #[.slice none 0 0] 27)).alloc (.cells #[.int .i64 0] 36)) (w.heap.size) 26 #[.int .i64 d0, .int .i64 d1, .int .i64 d2, .int .i64 bo, .int .i64 fr, .int .i64 tr, .int .i64 ag, .slice K ks.length kc] := ((((Blk.new w _ _).alloc _).alloc _).alloc _).alloc _
  have kL : Blk (((((w.alloc (.cells #[.int .i64 d0, .int .i64 d1, .int .i64 d2, .int .i64 bo, .int .i64 fr, .int .i64 tr, .int .i64 ag, .slice K ks.length kc] 26)).alloc (.cells #[.slice X l.length cap] 27)).alloc (.cells #[.int .i64 j.id, .int .i64 j.us, .int .i64 j.cl, .int .i64 j.x.a, .int .i64 j.x.b, .int .i64 j.x.c, .bool j.x.p, .bool j.x.q, .bool j.x.r, .bool j.x.tn, .int .i64 j.wa, .int .i64 j.pr, .bool j.he, .slice Y j.af.length cj, .int .u8 j.st, .int .i64 j.ca] 33)).alloc (.cells #[.slice none 0 0] 27)).alloc (.cells #[.int .i64 0] 36)) (w.heap.size + 1) 27 #[.slice X l.length cap] := (((blk1 w _ _).alloc _).alloc _).alloc _
  have kJ : Blk (((((w.alloc (.cells #[.int .i64 d0, .int .i64 d1, .int .i64 d2, .int .i64 bo, .int .i64 fr, .int .i64 tr, .int .i64 ag, .slice K ks.length kc] 26)).alloc (.cells #[.slice X l.length cap] 27)).alloc (.cells #[.int .i64 j.id, .int .i64 j.us, .int .i64 j.cl, .int .i64 j.x.a, .int .i64 j.x.b, .int .i64 j.x.c, .bool j.x.p, .bool j.x.q, .bool j.x.r, .bool j.x.tn, .int .i64 j.wa, .int .i64 j.pr, .bool j.he, .slice Y j.af.length cj, .int .u8 j.st, .int .i64 j.ca] 33)).alloc (.cells #[.slice none 0 0] 27)).alloc (.cells #[.int .i64 0] 36)) (w.heap.size + 1 + 1) 33 #[.int .i64 j.id, .int .i64 j.us, .int .i64 j.cl, .int .i64 j.x.a, .int .i64 j.x.b, .int .i64 j.x.c, .bool j.x.p, .bool j.x.q, .bool j.x.r, .bool j.x.tn, .int .i64 j.wa, .int .i64 j.pr, .bool j.he, .slice Y j.af.length cj, .int .u8 j.st, .int .i64 j.ca] := ((blk2 w _ _).alloc _).alloc _
  have kR : Blk (((((w.alloc (.cells #[.int .i64 d0, .int .i64 d1, .int .i64 d2, .int .i64 bo, .int .i64 fr, .int .i64 tr, .int .i64 ag, .slice K ks.length kc] 26)).alloc (.cells #[.slice X l.length cap] 27)).alloc (.cells #[.int .i64 j.id, .int .i64 j.us, .int .i64 j.cl, .int .i64 j.x.a, .int .i64 j.x.b, .int .i64 j.x.c, .bool j.x.p, .bool j.x.q, .bool j.x.r, .bool j.x.tn, .int .i64 j.wa, .int .i64 j.pr, .bool j.he, .slice Y j.af.length cj, .int .u8 j.st, .int .i64 j.ca] 33)).alloc (.cells #[.slice none 0 0] 27)).alloc (.cells #[.int .i64 0] 36)) (w.heap.size + 1 + 1 + 1) 27 #[.slice none 0 0] := (JobAdd.blk3 w _ _).alloc _
  have kE : Blk (((((w.alloc (.cells #[.int .i64 d0, .int .i64 d1, .int .i64 d2, .int .i64 bo, .int .i64 fr, .int .i64 tr, .int .i64 ag, .slice K ks.length kc] 26)).alloc (.cells #[.slice X l.length cap] 27)).alloc (.cells #[.int .i64 j.id, .int .i64 j.us, .int .i64 j.cl, .int .i64 j.x.a, .int .i64 j.x.b, .int .i64 j.x.c, .bool j.x.p, .bool j.x.q, .bool j.x.r, .bool j.x.tn, .int .i64 j.wa, .int .i64 j.pr, .bool j.he, .slice Y j.af.length cj, .int .u8 j.st, .int .i64 j.ca] 33)).alloc (.cells #[.slice none 0 0] 27)).alloc (.cells #[.int .i64 0] 36)) (w.heap.size + 1 + 1 + 1 + 1) 36 #[.int .i64 0] := blk4 w _ _
  have hb0 : Below w.heap.size w (((((w.alloc (.cells #[.int .i64 d0, .int .i64 d1, .int .i64 d2, .int .i64 bo, .int .i64 fr, .int .i64 tr, .int .i64 ag, .slice K ks.length kc] 26)).alloc (.cells #[.slice X l.length cap] 27)).alloc (.cells #[.int .i64 j.id, .int .i64 j.us, .int .i64 j.cl, .int .i64 j.x.a, .int .i64 j.x.b, .int .i64 j.x.c, .bool j.x.p, .bool j.x.q, .bool j.x.r, .bool j.x.tn, .int .i64 j.wa, .int .i64 j.pr, .bool j.he, .slice Y j.af.length cj, .int .u8 j.st, .int .i64 j.ca] 33)).alloc (.cells #[.slice none 0 0] 27)).alloc (.cells #[.int .i64 0] 36)) := below_alloc (below_alloc (below_alloc (below_alloc (below_alloc (Below.refl _ _)))))
  generalize (((((w.alloc (.cells #[.int .i64 d0, .int .i64 d1, .int .i64 d2, .int .i64 bo, .int .i64 fr, .int .i64 tr, .int .i64 ag, .slice K ks.length kc] 26)).alloc (.cells #[.slice X l.length cap] 27)).alloc (.cells #[.int .i64 j.id, .int .i64 j.us, .int .i64 j.cl, .int .i64 j.x.a, .int .i64 j.x.b, .int .i64 j.x.c, .bool j.x.p, .bool j.x.q, .bool j.x.r, .bool j.x.tn, .int .i64 j.wa, .int .i64 j.pr, .bool j.he, .slice Y j.af.length cj, .int .u8 j.st, .int .i64 j.ca] 33)).alloc (.cells #[.slice none 0 0] 27)).alloc (.cells #[.int .i64 0] 36)) = w0 at *
  have HB0 := Lib.hid hb0
  have KC0 := Lib.hid kC
  have KL0 := Lib.hid kL
  have KJ0 := Lib.hid kJ
  have KR0 := Lib.hid kR
  have KE0 := Lib.hid kE
  have xl : w0.cell? ⟨w.heap.size + 1, 0, none⟩ = some (.slice X l.length cap) := kL.cell 0
  clear hb0 kC kL kJ kR kE
  go_wp2_with (first | (refine wpList_load_row rfl 26 _ rfl _ rfl 26 #[.int .i64 d0, .int .i64 d1, .int .i64 d2, .int .i64 bo, .int .i64 fr, .int .i64 tr, .int .i64 ag, .slice K ks.length kc] (0, 0) _ KC0.out Try.underlying26 rfl (by kernel_rfl) ?_))
  refine (HT.out _ (HK.out.up HB0.out) (HX.out.up HB0.out)).mono ?_
  rintro e w1 ⟨rfl, hB1⟩
  have HB1 := Lib.hid (below_up HB0.out hB1)
  have KC1 := Lib.hid (KC0.out.below hB1 KC0.out.lt)
  have KL1 := Lib.hid (KL0.out.below hB1 KL0.out.lt)
  have KJ1 := Lib.hid (KJ0.out.below hB1 KJ0.out.lt)
  have KR1 := Lib.hid (KR0.out.below hB1 KR0.out.lt)
  have KE1 := Lib.hid (KE0.out.below hB1 KE0.out.lt)
  clear hB1 HB0 KC0 KL0 KJ0 KR0 KE0 xl HT
  have y14 : w1.cell? ⟨w.heap.size + 1 + 1, 14, none⟩ = some (.int .u8 j.st) := KJ1.out.cell 14
  have f14 : w1.frozen? ⟨w.heap.size + 1 + 1, 14, none⟩ = false := KJ1.out.frozen 14
  go_upto_region 5 with fail
  have kj : Blk (w1.setCell ⟨w.heap.size + 1 + 1, 14, none⟩ (.int .u8 1)) (w.heap.size + 1 + 1) 33 #[.int .i64 j.id, .int .i64 j.us, .int .i64 j.cl, .int .i64 j.x.a, .int .i64 j.x.b, .int .i64 j.x.c, .bool j.x.p, .bool j.x.q, .bool j.x.r, .bool j.x.tn, .int .i64 j.wa, .int .i64 j.pr, .bool j.he, .slice Y j.af.length cj, .int .u8 1, .int .i64 j.ca] := KJ1.out.set_ 14 (.int .u8 1)
  have kC := KC1.out.far (p := ⟨w.heap.size + 1 + 1, 14, none⟩) (by show w.heap.size ≠ w.heap.size + 1 + 1; omega) (.int .u8 1)
  have kL := KL1.out.far (p := ⟨w.heap.size + 1 + 1, 14, none⟩) (by show w.heap.size + 1 ≠ w.heap.size + 1 + 1; omega) (.int .u8 1)
  have kR := KR1.out.far (p := ⟨w.heap.size + 1 + 1, 14, none⟩) (by show w.heap.size + 1 + 1 + 1 ≠ w.heap.size + 1 + 1; omega) (.int .u8 1)
  have kE := KE1.out.far (p := ⟨w.heap.size + 1 + 1, 14, none⟩) (by show w.heap.size + 1 + 1 + 1 + 1 ≠ w.heap.size + 1 + 1; omega) (.int .u8 1)
  have hb2 := HB1.out.setCell (p := ⟨w.heap.size + 1 + 1, 14, none⟩) (by show w.heap.size ≤ w.heap.size + 1 + 1; omega) (.int .u8 1)
  clear y14 f14
  generalize (w1.setCell ⟨w.heap.size + 1 + 1, 14, none⟩ (.int .u8 1)) = w2 at *
  have HB2 := Lib.hid hb2
  have KJ2 := Lib.hid kj
  have KC2 := Lib.hid kC
  have KL2 := Lib.hid kL
  have KR2 := Lib.hid kR
  have KE2 := Lib.hid kE
  clear hb2 kj kC kL kR kE HB1 KC1 KL1 KJ1 KR1 KE1
  go_wp2_with (first | (refine wpList_load_row rfl 26 _ rfl _ rfl 26 #[.int .i64 d0, .int .i64 d1, .int .i64 d2, .int .i64 bo, .int .i64 fr, .int .i64 tr, .int .i64 ag, .slice K ks.length kc] (0, 0) _ KC2.out Try.underlying26 rfl (by kernel_rfl) ?_) | (refine wpList_load_row rfl 33 _ rfl _ rfl 33 #[.int .i64 j.id, .int .i64 j.us, .int .i64 j.cl, .int .i64 j.x.a, .int .i64 j.x.b, .int .i64 j.x.c, .bool j.x.p, .bool j.x.q, .bool j.x.r, .bool j.x.tn, .int .i64 j.wa, .int .i64 j.pr, .bool j.he, .slice Y j.af.length cj, .int .u8 1, .int .i64 j.ca] (0, 0) _ KJ2.out Try.underlying33 rfl (by kernel_rfl) ?_))
  refine (HC.out _ (HK.out.up HB2.out) (HY.out.up HB2.out)).mono ?_
  rintro e w3 ⟨rfl, hB3⟩
  have HB3 := Lib.hid (below_up HB2.out hB3)
  have KC3 := Lib.hid (KC2.out.below hB3 KC2.out.lt)
  have KL3 := Lib.hid (KL2.out.below hB3 KL2.out.lt)
  have KJ3 := Lib.hid (KJ2.out.below hB3 KJ2.out.lt)
  have KR3 := Lib.hid (KR2.out.below hB3 KR2.out.lt)
  have KE3 := Lib.hid (KE2.out.below hB3 KE2.out.lt)
  clear hB3 HB2 KC2 KL2 KJ2 KR2 KE2 HC
  have xl : w3.cell? ⟨w.heap.size + 1, 0, none⟩ = some (.slice X l.length cap) := KL3.out.cell 0
  have x0 : w3.cell? ⟨w.heap.size + 1 + 1, 0, none⟩ = some (.int .i64 j.id) := KJ3.out.cell 0
  go_upto_region 9 with fail
  go_cut [30] (fun s wx => s = .bool true ∧ Hid (Below w3.heap.size w3 wx))
  case first =>
    obtain ⟨m, hm⟩ : ∃ m, l.length = m + 1 := ⟨l.length - 1, by omega⟩
    have hg : l[m]? = some (l[m]'(by omega)) := List.getElem?_eq_getElem (by omega)
    generalize l[m]'(by omega) = q at hg
    have hlq := HL.out q (by rw [show l.length - 1 = m by omega]; exact hg)
    obtain ⟨b, o, Y2, c2, hXe, hb, hJ2, _⟩ := HX.out.up HB3.out m q hg
    subst hXe
    have z0 : w3.cell? ⟨b, o + m * 16, none⟩ = some (.int .i64 q.id) := hJ2.1
    have d1 : decide (0 < l.length) = true := decide_eq_true (by omega)
    have d2 : (0 : Int) < (l.length : Int) := by omega
    have hsub : IntKind.i64.wrap ((l.length : Int) - 1) = (m : Int) := by rw [IntWalk.i64_in _ (by omega)]; omega
    have hm0 : (0 : Int) ≤ (m : Int) := by omega
    have hm1 : (m : Int) < (l.length : Int) := by omega
    have hge : j.id ≤ q.id := hlq
    clear hz hg hlq hJ2 hb hm
    have kq0 := cell_regrown xl
    have kq1 := cell_regrown x0
    have kq2 := cell_regrown z0
    refine wp_region_quiet_below (by kernel_rfl) (by kernel_rfl) ?_
    repeat (first | go_big_quiet_step (first | fail))
    refine wpQuiet_nil ?_
    intro _ hw'
    obtain ⟨⟨dq, osq⟩, hw''⟩ := hw'
    subst hw''
    have hBq := below_regrown w3 dq osq
    clear kq0 kq1 kq2
    generalize grow (redrawn w3 dq) osq = w4 at *
    have HBq := Lib.hid hBq
    clear hBq
    go_wp2_with fail
    go_meet
    exact ⟨rfl, HBq.out⟩
  case rest =>
    obtain ⟨rfl, hBc⟩ := hcut
    clear xl x0
    obtain ⟨w4, rfl⟩ : ∃ w4 : World, w4 = wc := ⟨_, rfl⟩
    have hB4 := hBc.out
    clear hBc
    have HB4 := Lib.hid (below_up HB3.out hB4)
    have KC4 := Lib.hid (KC3.out.below hB4 KC3.out.lt)
    have KL4 := Lib.hid (KL3.out.below hB4 KL3.out.lt)
    have KJ4 := Lib.hid (KJ3.out.below hB4 KJ3.out.lt)
    have KR4 := Lib.hid (KR3.out.below hB4 KR3.out.lt)
    have KE4 := Lib.hid (KE3.out.below hB4 KE3.out.lt)
    clear hB4 HB3 KC3 KL3 KJ3 KR3 KE3 
    have cR : w4.cell? ⟨w.heap.size + 1 + 1 + 1, 0, none⟩ = some (.slice none 0 0) := KR4.out.cell 0
    have fR : w4.frozen? ⟨w.heap.size + 1 + 1 + 1, 0, none⟩ = false := KR4.out.frozen 0
    have cE : w4.cell? ⟨w.heap.size + 1 + 1 + 1 + 1, 0, none⟩ = some (.int .i64 0) := KE4.out.cell 0
    have fE : w4.frozen? ⟨w.heap.size + 1 + 1 + 1 + 1, 0, none⟩ = false := KE4.out.frozen 0
    go_wp2_with fail
    refine bodyPost_ret (v := .tuple #[.slice none 0 0, .int .i64 8]) (by simp [results, Try.results19, go_sem, cR, cE]) rfl ⟨rfl, (HB4.out.setCell (p := ⟨w.heap.size + 1 + 1 + 1, 0, none⟩) (by show w.heap.size ≤ w.heap.size + 1 + 1 + 1; omega) _).setCell (p := ⟨w.heap.size + 1 + 1 + 1 + 1, 0, none⟩) (by show w.heap.size ≤ w.heap.size + 1 + 1 + 1 + 1; omega) _⟩

set_option maxRecDepth 100000 in
set_option maxHeartbeats 16000000 in
theorem add_after (d0 d1 d2 bo fr tr ag : Int) (K : Option Addr) (kc : Nat) (ks : List Cls) (hlk : ks.length ≤ 4611686018427387904) (X : Option Addr) (cap : Nat) (l : List JV) (hl : l.length ≤ 1000) (hla : ∀ j ∈ l, j.af.length ≤ 1000) (U : Option Addr) (cu : Nat) (us : List Int) (j : JV) (Y : Option Addr) (cj : Nat) (hja : j.af.length ≤ 1000) (hv : tableV d0 d1 d2 bo fr tr ag ks l = 0) (hc : checkV d0 d1 d2 ks (asked j) = 0) (hlast : ∀ x, l[l.length - 1]? = some x → x.id < j.id) (ht : thereB l j = false) (w : World) (hk : ClsAt w w.heap.size K ks) (hX : JobsAt w X l) (hU : IntsAt w U us) (hY : IntsAt w Y j.af) :
    Calls Try.prog 19 #[.agg #[.int .i64 d0, .int .i64 d1, .int .i64 d2, .int .i64 bo, .int .i64 fr, .int .i64 tr, .int .i64 ag, .slice K ks.length kc], .slice X l.length cap, .slice U us.length cu, .agg #[.int .i64 j.id, .int .i64 j.us, .int .i64 j.cl, .int .i64 j.x.a, .int .i64 j.x.b, .int .i64 j.x.c, .bool j.x.p, .bool j.x.q, .bool j.x.r, .bool j.x.tn, .int .i64 j.wa, .int .i64 j.pr, .bool j.he, .slice Y j.af.length cj, .int .u8 j.st, .int .i64 j.ca]] w fun e w' => e = .returned (.tuple #[.slice none 0 0, .int .i64 182]) ∧ Below w.heap.size w w' := by
  have HT := Lib.hid (fun w hk hX => table_any d0 d1 d2 bo fr tr ag K kc ks hlk X cap l (by omega) (fun j hj => by have := hla j hj; omega) w hk hX)
  have HK := Lib.hid hk
  have HX := Lib.hid hX
  have HY := Lib.hid hY
  have HC := Lib.hid (fun w hk hY => jcheck d0 d1 d2 bo fr tr ag K kc ks (asked j) Y cj hlk (show j.af.length ≤ _ by omega) w hk hY)
  have HN := Lib.hid (fun W cl hX hY => no_there2 (w.heap.size + 1) X cap l (by omega) j Y cj (by omega) W cl hX hY)
  rw [hv] at HT
  rw [hc] at HC
  rw [ht] at HN
  have HL := Lib.hid hlast
  clear hk hX hU hY hv hc ht hlast hla
  go_enter Try.func19, Try.ntmps19
  go_upto_region 1 with fail
  have kC : Blk (((((w.alloc (.cells #[.int .i64 d0, .int .i64 d1, .int .i64 d2, .int .i64 bo, .int .i64 fr, .int .i64 tr, .int .i64 ag, .slice K ks.length kc] 26)).alloc (.cells #[.slice X l.length cap] 27)).alloc (.cells #[.int .i64 j.id, .int .i64 j.us, .int .i64 j.cl, .int .i64 j.x.a, .int .i64 j.x.b, .int .i64 j.x.c, .bool j.x.p, .bool j.x.q, .bool j.x.r, .bool j.x.tn, .int .i64 j.wa, .int .i64 j.pr, .bool j.he, .slice Y j.af.length cj, .int .u8 j.st, .int .i64 j.ca] 33)).alloc (.cells #[.slice none 0 0] 27)).alloc (.cells #[.int .i64 0] 36)) (w.heap.size) 26 #[.int .i64 d0, .int .i64 d1, .int .i64 d2, .int .i64 bo, .int .i64 fr, .int .i64 tr, .int .i64 ag, .slice K ks.length kc] := ((((Blk.new w _ _).alloc _).alloc _).alloc _).alloc _
  have kL : Blk (((((w.alloc (.cells #[.int .i64 d0, .int .i64 d1, .int .i64 d2, .int .i64 bo, .int .i64 fr, .int .i64 tr, .int .i64 ag, .slice K ks.length kc] 26)).alloc (.cells #[.slice X l.length cap] 27)).alloc (.cells #[.int .i64 j.id, .int .i64 j.us, .int .i64 j.cl, .int .i64 j.x.a, .int .i64 j.x.b, .int .i64 j.x.c, .bool j.x.p, .bool j.x.q, .bool j.x.r, .bool j.x.tn, .int .i64 j.wa, .int .i64 j.pr, .bool j.he, .slice Y j.af.length cj, .int .u8 j.st, .int .i64 j.ca] 33)).alloc (.cells #[.slice none 0 0] 27)).alloc (.cells #[.int .i64 0] 36)) (w.heap.size + 1) 27 #[.slice X l.length cap] := (((blk1 w _ _).alloc _).alloc _).alloc _
  have kJ : Blk (((((w.alloc (.cells #[.int .i64 d0, .int .i64 d1, .int .i64 d2, .int .i64 bo, .int .i64 fr, .int .i64 tr, .int .i64 ag, .slice K ks.length kc] 26)).alloc (.cells #[.slice X l.length cap] 27)).alloc (.cells #[.int .i64 j.id, .int .i64 j.us, .int .i64 j.cl, .int .i64 j.x.a, .int .i64 j.x.b, .int .i64 j.x.c, .bool j.x.p, .bool j.x.q, .bool j.x.r, .bool j.x.tn, .int .i64 j.wa, .int .i64 j.pr, .bool j.he, .slice Y j.af.length cj, .int .u8 j.st, .int .i64 j.ca] 33)).alloc (.cells #[.slice none 0 0] 27)).alloc (.cells #[.int .i64 0] 36)) (w.heap.size + 1 + 1) 33 #[.int .i64 j.id, .int .i64 j.us, .int .i64 j.cl, .int .i64 j.x.a, .int .i64 j.x.b, .int .i64 j.x.c, .bool j.x.p, .bool j.x.q, .bool j.x.r, .bool j.x.tn, .int .i64 j.wa, .int .i64 j.pr, .bool j.he, .slice Y j.af.length cj, .int .u8 j.st, .int .i64 j.ca] := ((blk2 w _ _).alloc _).alloc _
  have kR : Blk (((((w.alloc (.cells #[.int .i64 d0, .int .i64 d1, .int .i64 d2, .int .i64 bo, .int .i64 fr, .int .i64 tr, .int .i64 ag, .slice K ks.length kc] 26)).alloc (.cells #[.slice X l.length cap] 27)).alloc (.cells #[.int .i64 j.id, .int .i64 j.us, .int .i64 j.cl, .int .i64 j.x.a, .int .i64 j.x.b, .int .i64 j.x.c, .bool j.x.p, .bool j.x.q, .bool j.x.r, .bool j.x.tn, .int .i64 j.wa, .int .i64 j.pr, .bool j.he, .slice Y j.af.length cj, .int .u8 j.st, .int .i64 j.ca] 33)).alloc (.cells #[.slice none 0 0] 27)).alloc (.cells #[.int .i64 0] 36)) (w.heap.size + 1 + 1 + 1) 27 #[.slice none 0 0] := (JobAdd.blk3 w _ _).alloc _
  have kE : Blk (((((w.alloc (.cells #[.int .i64 d0, .int .i64 d1, .int .i64 d2, .int .i64 bo, .int .i64 fr, .int .i64 tr, .int .i64 ag, .slice K ks.length kc] 26)).alloc (.cells #[.slice X l.length cap] 27)).alloc (.cells #[.int .i64 j.id, .int .i64 j.us, .int .i64 j.cl, .int .i64 j.x.a, .int .i64 j.x.b, .int .i64 j.x.c, .bool j.x.p, .bool j.x.q, .bool j.x.r, .bool j.x.tn, .int .i64 j.wa, .int .i64 j.pr, .bool j.he, .slice Y j.af.length cj, .int .u8 j.st, .int .i64 j.ca] 33)).alloc (.cells #[.slice none 0 0] 27)).alloc (.cells #[.int .i64 0] 36)) (w.heap.size + 1 + 1 + 1 + 1) 36 #[.int .i64 0] := blk4 w _ _
  have hb0 : Below w.heap.size w (((((w.alloc (.cells #[.int .i64 d0, .int .i64 d1, .int .i64 d2, .int .i64 bo, .int .i64 fr, .int .i64 tr, .int .i64 ag, .slice K ks.length kc] 26)).alloc (.cells #[.slice X l.length cap] 27)).alloc (.cells #[.int .i64 j.id, .int .i64 j.us, .int .i64 j.cl, .int .i64 j.x.a, .int .i64 j.x.b, .int .i64 j.x.c, .bool j.x.p, .bool j.x.q, .bool j.x.r, .bool j.x.tn, .int .i64 j.wa, .int .i64 j.pr, .bool j.he, .slice Y j.af.length cj, .int .u8 j.st, .int .i64 j.ca] 33)).alloc (.cells #[.slice none 0 0] 27)).alloc (.cells #[.int .i64 0] 36)) := below_alloc (below_alloc (below_alloc (below_alloc (below_alloc (Below.refl _ _)))))
  generalize (((((w.alloc (.cells #[.int .i64 d0, .int .i64 d1, .int .i64 d2, .int .i64 bo, .int .i64 fr, .int .i64 tr, .int .i64 ag, .slice K ks.length kc] 26)).alloc (.cells #[.slice X l.length cap] 27)).alloc (.cells #[.int .i64 j.id, .int .i64 j.us, .int .i64 j.cl, .int .i64 j.x.a, .int .i64 j.x.b, .int .i64 j.x.c, .bool j.x.p, .bool j.x.q, .bool j.x.r, .bool j.x.tn, .int .i64 j.wa, .int .i64 j.pr, .bool j.he, .slice Y j.af.length cj, .int .u8 j.st, .int .i64 j.ca] 33)).alloc (.cells #[.slice none 0 0] 27)).alloc (.cells #[.int .i64 0] 36)) = w0 at *
  have HB0 := Lib.hid hb0
  have KC0 := Lib.hid kC
  have KL0 := Lib.hid kL
  have KJ0 := Lib.hid kJ
  have KR0 := Lib.hid kR
  have KE0 := Lib.hid kE
  have xl : w0.cell? ⟨w.heap.size + 1, 0, none⟩ = some (.slice X l.length cap) := kL.cell 0
  clear hb0 kC kL kJ kR kE
  go_wp2_with (first | (refine wpList_load_row rfl 26 _ rfl _ rfl 26 #[.int .i64 d0, .int .i64 d1, .int .i64 d2, .int .i64 bo, .int .i64 fr, .int .i64 tr, .int .i64 ag, .slice K ks.length kc] (0, 0) _ KC0.out Try.underlying26 rfl (by kernel_rfl) ?_))
  refine (HT.out _ (HK.out.up HB0.out) (HX.out.up HB0.out)).mono ?_
  rintro e w1 ⟨rfl, hB1⟩
  have HB1 := Lib.hid (below_up HB0.out hB1)
  have KC1 := Lib.hid (KC0.out.below hB1 KC0.out.lt)
  have KL1 := Lib.hid (KL0.out.below hB1 KL0.out.lt)
  have KJ1 := Lib.hid (KJ0.out.below hB1 KJ0.out.lt)
  have KR1 := Lib.hid (KR0.out.below hB1 KR0.out.lt)
  have KE1 := Lib.hid (KE0.out.below hB1 KE0.out.lt)
  clear hB1 HB0 KC0 KL0 KJ0 KR0 KE0 xl HT
  have y14 : w1.cell? ⟨w.heap.size + 1 + 1, 14, none⟩ = some (.int .u8 j.st) := KJ1.out.cell 14
  have f14 : w1.frozen? ⟨w.heap.size + 1 + 1, 14, none⟩ = false := KJ1.out.frozen 14
  go_upto_region 5 with fail
  have kj : Blk (w1.setCell ⟨w.heap.size + 1 + 1, 14, none⟩ (.int .u8 1)) (w.heap.size + 1 + 1) 33 #[.int .i64 j.id, .int .i64 j.us, .int .i64 j.cl, .int .i64 j.x.a, .int .i64 j.x.b, .int .i64 j.x.c, .bool j.x.p, .bool j.x.q, .bool j.x.r, .bool j.x.tn, .int .i64 j.wa, .int .i64 j.pr, .bool j.he, .slice Y j.af.length cj, .int .u8 1, .int .i64 j.ca] := KJ1.out.set_ 14 (.int .u8 1)
  have kC := KC1.out.far (p := ⟨w.heap.size + 1 + 1, 14, none⟩) (by show w.heap.size ≠ w.heap.size + 1 + 1; omega) (.int .u8 1)
  have kL := KL1.out.far (p := ⟨w.heap.size + 1 + 1, 14, none⟩) (by show w.heap.size + 1 ≠ w.heap.size + 1 + 1; omega) (.int .u8 1)
  have kR := KR1.out.far (p := ⟨w.heap.size + 1 + 1, 14, none⟩) (by show w.heap.size + 1 + 1 + 1 ≠ w.heap.size + 1 + 1; omega) (.int .u8 1)
  have kE := KE1.out.far (p := ⟨w.heap.size + 1 + 1, 14, none⟩) (by show w.heap.size + 1 + 1 + 1 + 1 ≠ w.heap.size + 1 + 1; omega) (.int .u8 1)
  have hb2 := HB1.out.setCell (p := ⟨w.heap.size + 1 + 1, 14, none⟩) (by show w.heap.size ≤ w.heap.size + 1 + 1; omega) (.int .u8 1)
  clear y14 f14
  generalize (w1.setCell ⟨w.heap.size + 1 + 1, 14, none⟩ (.int .u8 1)) = w2 at *
  have HB2 := Lib.hid hb2
  have KJ2 := Lib.hid kj
  have KC2 := Lib.hid kC
  have KL2 := Lib.hid kL
  have KR2 := Lib.hid kR
  have KE2 := Lib.hid kE
  clear hb2 kj kC kL kR kE HB1 KC1 KL1 KJ1 KR1 KE1
  go_wp2_with (first | (refine wpList_load_row rfl 26 _ rfl _ rfl 26 #[.int .i64 d0, .int .i64 d1, .int .i64 d2, .int .i64 bo, .int .i64 fr, .int .i64 tr, .int .i64 ag, .slice K ks.length kc] (0, 0) _ KC2.out Try.underlying26 rfl (by kernel_rfl) ?_) | (refine wpList_load_row rfl 33 _ rfl _ rfl 33 #[.int .i64 j.id, .int .i64 j.us, .int .i64 j.cl, .int .i64 j.x.a, .int .i64 j.x.b, .int .i64 j.x.c, .bool j.x.p, .bool j.x.q, .bool j.x.r, .bool j.x.tn, .int .i64 j.wa, .int .i64 j.pr, .bool j.he, .slice Y j.af.length cj, .int .u8 1, .int .i64 j.ca] (0, 0) _ KJ2.out Try.underlying33 rfl (by kernel_rfl) ?_))
  refine (HC.out _ (HK.out.up HB2.out) (HY.out.up HB2.out)).mono ?_
  rintro e w3 ⟨rfl, hB3⟩
  have HB3 := Lib.hid (below_up HB2.out hB3)
  have KC3 := Lib.hid (KC2.out.below hB3 KC2.out.lt)
  have KL3 := Lib.hid (KL2.out.below hB3 KL2.out.lt)
  have KJ3 := Lib.hid (KJ2.out.below hB3 KJ2.out.lt)
  have KR3 := Lib.hid (KR2.out.below hB3 KR2.out.lt)
  have KE3 := Lib.hid (KE2.out.below hB3 KE2.out.lt)
  clear hB3 HB2 KC2 KL2 KJ2 KR2 KE2 HC
  have xl : w3.cell? ⟨w.heap.size + 1, 0, none⟩ = some (.slice X l.length cap) := KL3.out.cell 0
  have x0 : w3.cell? ⟨w.heap.size + 1 + 1, 0, none⟩ = some (.int .i64 j.id) := KJ3.out.cell 0
  go_upto_region 9 with fail
  go_cut [30] (fun s wx => s = .bool false ∧ Hid (Below w3.heap.size w3 wx))
  case first =>
    by_cases hz : l.length = 0
    · have d1 : decide (0 < l.length) = false := decide_eq_false (by omega)
      have d2 : ¬ ((0 : Int) < (l.length : Int)) := by omega
      clear hz
      have kq0 := cell_regrown xl
      have kq1 := cell_regrown x0
      refine wp_region_quiet_below (by kernel_rfl) (by kernel_rfl) ?_
      repeat (first | go_big_quiet_step (first | fail))
      refine wpQuiet_nil ?_
      intro _ hw'
      obtain ⟨⟨dq, osq⟩, hw''⟩ := hw'
      subst hw''
      have hBq := below_regrown w3 dq osq
      clear kq0 kq1
      generalize grow (redrawn w3 dq) osq = w4 at *
      have HBq := Lib.hid hBq
      clear hBq
      go_wp2_with fail
      go_meet
      exact ⟨rfl, HBq.out⟩
    · obtain ⟨m, hm⟩ : ∃ m, l.length = m + 1 := ⟨l.length - 1, by omega⟩
      have hg : l[m]? = some (l[m]'(by omega)) := List.getElem?_eq_getElem (by omega)
      generalize l[m]'(by omega) = q at hg
      have hlq := HL.out q (by rw [show l.length - 1 = m by omega]; exact hg)
      obtain ⟨b, o, Y2, c2, hXe, hb, hJ2, _⟩ := HX.out.up HB3.out m q hg
      subst hXe
      have z0 : w3.cell? ⟨b, o + m * 16, none⟩ = some (.int .i64 q.id) := hJ2.1
      have d1 : decide (0 < l.length) = true := decide_eq_true (by omega)
      have d2 : (0 : Int) < (l.length : Int) := by omega
      have hsub : IntKind.i64.wrap ((l.length : Int) - 1) = (m : Int) := by rw [IntWalk.i64_in _ (by omega)]; omega
      have hm0 : (0 : Int) ≤ (m : Int) := by omega
      have hm1 : (m : Int) < (l.length : Int) := by omega
      have hge : ¬ (j.id ≤ q.id) := by omega
      clear hz hg hlq hJ2 hb hm
      have kq0 := cell_regrown xl
      have kq1 := cell_regrown x0
      have kq2 := cell_regrown z0
      refine wp_region_quiet_below (by kernel_rfl) (by kernel_rfl) ?_
      repeat (first | go_big_quiet_step (first | fail))
      refine wpQuiet_nil ?_
      intro _ hw'
      obtain ⟨⟨dq, osq⟩, hw''⟩ := hw'
      subst hw''
      have hBq := below_regrown w3 dq osq
      clear kq0 kq1 kq2
      generalize grow (redrawn w3 dq) osq = w4 at *
      have HBq := Lib.hid hBq
      clear hBq
      go_wp2_with fail
      go_meet
      exact ⟨rfl, HBq.out⟩
  case rest =>
    obtain ⟨rfl, hBc⟩ := hcut
    clear xl x0
    obtain ⟨w4, rfl⟩ : ∃ w4 : World, w4 = wc := ⟨_, rfl⟩
    have hB4 := hBc.out
    clear hBc
    have HB4 := Lib.hid (below_up HB3.out hB4)
    have KC4 := Lib.hid (KC3.out.below hB4 KC3.out.lt)
    have KL4 := Lib.hid (KL3.out.below hB4 KL3.out.lt)
    have KJ4 := Lib.hid (KJ3.out.below hB4 KJ3.out.lt)
    have KR4 := Lib.hid (KR3.out.below hB4 KR3.out.lt)
    have KE4 := Lib.hid (KE3.out.below hB4 KE3.out.lt)
    clear hB4 HB3 KC3 KL3 KJ3 KR3 KE3 
    have x13 : w4.cell? ⟨w.heap.size + 1 + 1, 13, none⟩ = some (.slice Y j.af.length cj) := KJ4.out.cell 13
    go_wp2_with fail
    refine (HN.out _ (KL4.out.cell 0) (HX.out.up HB4.out) (HY.out.up HB4.out)).mono ?_
    rintro e w5 ⟨rfl, hB5⟩
    have HB5 := Lib.hid (below_up HB4.out hB5)
    have KC5 := Lib.hid (KC4.out.below hB5 KC4.out.lt)
    have KL5 := Lib.hid (KL4.out.below hB5 KL4.out.lt)
    have KJ5 := Lib.hid (KJ4.out.below hB5 KJ4.out.lt)
    have KR5 := Lib.hid (KR4.out.below hB5 KR4.out.lt)
    have KE5 := Lib.hid (KE4.out.below hB5 KE4.out.lt)
    clear hB5 HB4 KC4 KL4 KJ4 KR4 KE4 x13 HN
    have cR : w5.cell? ⟨w.heap.size + 1 + 1 + 1, 0, none⟩ = some (.slice none 0 0) := KR5.out.cell 0
    have fR : w5.frozen? ⟨w.heap.size + 1 + 1 + 1, 0, none⟩ = false := KR5.out.frozen 0
    have cE : w5.cell? ⟨w.heap.size + 1 + 1 + 1 + 1, 0, none⟩ = some (.int .i64 0) := KE5.out.cell 0
    have fE : w5.frozen? ⟨w.heap.size + 1 + 1 + 1 + 1, 0, none⟩ = false := KE5.out.frozen 0
    go_wp2_with fail
    refine bodyPost_ret (v := .tuple #[.slice none 0 0, .int .i64 182]) (by simp [results, Try.results19, go_sem, cR, cE]) rfl ⟨rfl, (HB5.out.setCell (p := ⟨w.heap.size + 1 + 1 + 1, 0, none⟩) (by show w.heap.size ≤ w.heap.size + 1 + 1 + 1; omega) _).setCell (p := ⟨w.heap.size + 1 + 1 + 1 + 1, 0, none⟩) (by show w.heap.size ≤ w.heap.size + 1 + 1 + 1 + 1; omega) _⟩

end Go.Proofs.Ytaldgmmmcbikgaa.AddErr
