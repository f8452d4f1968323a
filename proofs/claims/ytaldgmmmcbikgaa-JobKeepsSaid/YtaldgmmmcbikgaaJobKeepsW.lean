/- JobKeeps: the walk. No conditions but those named. -/
import Derived.BigRegion
import Derived.BigQuiet
import Derived.Lib.QuietBelow
import Derived.Deep.QuietTactic
import Derived.Deep.DeepCutAuto
import Derived.Deep.MidRow
import Derived.IntWalk
import Derived.Test.YtaldgmmmcbikgaaOpenJob
import Derived.Test.YtaldgmmmcbikgaaJobGreat
import Derived.Test.YtaldgmmmcbikgaaJobAlive
import Derived.Test.YtaldgmmmcbikgaaJobSame
import Derived.Test.YtaldgmmmcbikgaaQuietRow
import Derived.Test.YtaldgmmmcbikgaaAddAny
namespace Go.Proofs.Ytaldgmmmcbikgaa.JobKeepsW
open Go.Sort (grow)
open Go.RowKit Mem PosMath PartMath TurnMath TurnMap TurnFitsV JobMath JobCheck JobIndex JobFind JobMem JobTable JobTwin JobSame JobRSame JobGreat JobAdd JobAlive QuietRow AddMath AddAny Lay
set_option linter.unusedVariables false
set_option linter.unusedSimpArgs false

/-- Two jobs compared as tables of one. -/
theorem same_two (y z : JV) (g1 g2 : Nat) (Y Z : Option Addr) (cy cz : Nat) (hy : WWf y.x ∧ y.af.length ≤ 1000) (hz : WWf z.x ∧ z.af.length ≤ 1000) (W : World) (k1 : Blk W g1 33 (y.arr Y cy)) (k2 : Blk W g2 33 (z.arr Z cz)) (h1 : IntsAt W Y y.af) (h2 : IntsAt W Z z.af) :
    Calls Try.prog 17 #[.slice (some ⟨g1, 0, none⟩) 1 1, .slice (some ⟨g2, 0, none⟩) 1 1] W fun e w' => e = .returned (.bool (decide (y = z))) ∧ Below W.heap.size W w' := by
  have one : ∀ (x : JV) (g : Nat) (V : Option Addr) (c : Nat), Blk W g 33 (x.arr V c) → IntsAt W V x.af → JobsAt W (some ⟨g, 0, none⟩) [x] := fun x g V c k h i q hi => by
    cases i with
    | succ i => simp at hi
    | zero =>
      simp at hi
      subst hi
      exact ⟨g, 0, V, c, rfl, k.lt, job_of_cells fun t u ht hu => by rw [k.cell]; simpa using hu, h⟩
  have h := jSame (some ⟨g1, 0, none⟩) (some ⟨g2, 0, none⟩) 1 1 [y] [z] (by simp) (by simp) (by simpa using hy) (by simpa using hz) W (one y g1 Y cy k1 h1) (one z g2 Z cz k2 h2)
  have e : decide ([y] = [z]) = decide (y = z) := by simp
  rw [e] at h
  exact h
theorem addV_mem {d0 d1 d2 bo fr tr ag : Int} {ks : List Cls} {l : List JV} {us : List Int} {j x : JV} {m : List JV} {e : Nat} (h : KE l us j m e) (hx : x ∈ m) : x ∈ l ∨ x = asked j := by
  rw [h.eq] at hx
  have := (List.eraseIdx_sublist (l ++ [asked j]) e).subset hx
  simpa using this
set_option maxRecDepth 100000 in
set_option maxHeartbeats 16000000 in
theorem jk_cls (d0 d1 d2 bo fr tr ag : Int) (K : Option Addr) (kc : Nat) (ks : List Cls) (hlk : ks.length ≤ maxLen) (X : Option Addr) (cX : Nat) (l : List JV) (hlc : l.length ≤ cX) (hl : l.length ≤ maxLen) (hla : ∀ j ∈ l, JWf j ∧ j.af.length ≤ maxLen) (U : Option Addr) (cu : Nat) (us : List Int) (hlu : us.length ≤ maxLen) (j : JV) (Y : Option Addr) (cj : Nat) (hjl : j.af.length ≤ maxLen) (hjw : JWf j) (h0 : (100 : Int) < (ks.length : Int)) (w : World) (hk : ClsAt w w.heap.size K ks) (hX : JobsAt w X l) (hU : IntsAt w U us) (hY : IntsAt w Y j.af) :
    Calls Try.prog 7 #[.agg #[.int .i64 d0, .int .i64 d1, .int .i64 d2, .int .i64 bo, .int .i64 fr, .int .i64 tr, .int .i64 ag, .slice K ks.length kc], .slice X l.length cX, .slice U us.length cu, .agg #[.int .i64 j.id, .int .i64 j.us, .int .i64 j.cl, .int .i64 j.x.a, .int .i64 j.x.b, .int .i64 j.x.c, .bool j.x.p, .bool j.x.q, .bool j.x.r, .bool j.x.tn, .int .i64 j.wa, .int .i64 j.pr, .bool j.he, .slice Y j.af.length cj, .int .u8 j.st, .int .i64 j.ca]] w fun e w' => e = .returned (.bool true) ∧ Below w.heap.size w w' := by
  unfold maxLen at hlk hl hlu hjl
  clear hk hX hU hY
  go_enter Try.func7, Try.ntmps7
  go_upto_region 1 with fail
  have kc0 : Blk ((w.alloc (.cells #[.int .i64 d0, .int .i64 d1, .int .i64 d2, .int .i64 bo, .int .i64 fr, .int .i64 tr, .int .i64 ag, .slice K ks.length kc] 26)).alloc (.cells #[.int .i64 j.id, .int .i64 j.us, .int .i64 j.cl, .int .i64 j.x.a, .int .i64 j.x.b, .int .i64 j.x.c, .bool j.x.p, .bool j.x.q, .bool j.x.r, .bool j.x.tn, .int .i64 j.wa, .int .i64 j.pr, .bool j.he, .slice Y j.af.length cj, .int .u8 j.st, .int .i64 j.ca] 33)) w.heap.size 26 #[.int .i64 d0, .int .i64 d1, .int .i64 d2, .int .i64 bo, .int .i64 fr, .int .i64 tr, .int .i64 ag, .slice K ks.length kc] := (Blk.new w _ _).alloc _
  have kj0 : Blk ((w.alloc (.cells #[.int .i64 d0, .int .i64 d1, .int .i64 d2, .int .i64 bo, .int .i64 fr, .int .i64 tr, .int .i64 ag, .slice K ks.length kc] 26)).alloc (.cells #[.int .i64 j.id, .int .i64 j.us, .int .i64 j.cl, .int .i64 j.x.a, .int .i64 j.x.b, .int .i64 j.x.c, .bool j.x.p, .bool j.x.q, .bool j.x.r, .bool j.x.tn, .int .i64 j.wa, .int .i64 j.pr, .bool j.he, .slice Y j.af.length cj, .int .u8 j.st, .int .i64 j.ca] 33)) (w.heap.size + 1) 33 #[.int .i64 j.id, .int .i64 j.us, .int .i64 j.cl, .int .i64 j.x.a, .int .i64 j.x.b, .int .i64 j.x.c, .bool j.x.p, .bool j.x.q, .bool j.x.r, .bool j.x.tn, .int .i64 j.wa, .int .i64 j.pr, .bool j.he, .slice Y j.af.length cj, .int .u8 j.st, .int .i64 j.ca] := blk1 w _ _
  have hb0 : Below w.heap.size w ((w.alloc (.cells #[.int .i64 d0, .int .i64 d1, .int .i64 d2, .int .i64 bo, .int .i64 fr, .int .i64 tr, .int .i64 ag, .slice K ks.length kc] 26)).alloc (.cells #[.int .i64 j.id, .int .i64 j.us, .int .i64 j.cl, .int .i64 j.x.a, .int .i64 j.x.b, .int .i64 j.x.c, .bool j.x.p, .bool j.x.q, .bool j.x.r, .bool j.x.tn, .int .i64 j.wa, .int .i64 j.pr, .bool j.he, .slice Y j.af.length cj, .int .u8 j.st, .int .i64 j.ca] 33)) := below_alloc (below_alloc (Below.refl _ _))
  generalize ((w.alloc (.cells #[.int .i64 d0, .int .i64 d1, .int .i64 d2, .int .i64 bo, .int .i64 fr, .int .i64 tr, .int .i64 ag, .slice K ks.length kc] 26)).alloc (.cells #[.int .i64 j.id, .int .i64 j.us, .int .i64 j.cl, .int .i64 j.x.a, .int .i64 j.x.b, .int .i64 j.x.c, .bool j.x.p, .bool j.x.q, .bool j.x.r, .bool j.x.tn, .int .i64 j.wa, .int .i64 j.pr, .bool j.he, .slice Y j.af.length cj, .int .u8 j.st, .int .i64 j.ca] 33)) = w0 at *
  have HB0 := Lib.hid hb0
  have KC0 := Lib.hid kc0
  have KJ0 := Lib.hid kj0
  clear hb0 kc0 kj0
  go_wp2_with fail
  refine (jalive _).mono ?_
  rintro e w1 ⟨rfl, hB1⟩
  have HB1 := Lib.hid (below_up HB0.out hB1)
  have KC1 := Lib.hid (KC0.out.below hB1 KC0.out.lt)
  have KJ1 := Lib.hid (KJ0.out.below hB1 KJ0.out.lt)
  have xk : w1.cell? ⟨w.heap.size, 7, none⟩ = some (.slice K ks.length kc) := KC1.out.cell 7
  clear hB1 KC0 KJ0 HB0
  go_wp2_with fail
  go_ret
  exact ⟨rfl, HB1.out⟩
set_option maxRecDepth 100000 in
set_option maxHeartbeats 16000000 in
theorem jk_great (d0 d1 d2 bo fr tr ag : Int) (K : Option Addr) (kc : Nat) (ks : List Cls) (hlk : ks.length ≤ maxLen) (X : Option Addr) (cX : Nat) (l : List JV) (hlc : l.length ≤ cX) (hl : l.length ≤ maxLen) (hla : ∀ j ∈ l, JWf j ∧ j.af.length ≤ maxLen) (U : Option Addr) (cu : Nat) (us : List Int) (hlu : us.length ≤ maxLen) (j : JV) (Y : Option Addr) (cj : Nat) (hjl : j.af.length ≤ maxLen) (hjw : JWf j) (h0 : ¬ (100 : Int) < (ks.length : Int)) (h1 : greatB l = true) (w : World) (hk : ClsAt w w.heap.size K ks) (hX : JobsAt w X l) (hU : IntsAt w U us) (hY : IntsAt w Y j.af) :
    Calls Try.prog 7 #[.agg #[.int .i64 d0, .int .i64 d1, .int .i64 d2, .int .i64 bo, .int .i64 fr, .int .i64 tr, .int .i64 ag, .slice K ks.length kc], .slice X l.length cX, .slice U us.length cu, .agg #[.int .i64 j.id, .int .i64 j.us, .int .i64 j.cl, .int .i64 j.x.a, .int .i64 j.x.b, .int .i64 j.x.c, .bool j.x.p, .bool j.x.q, .bool j.x.r, .bool j.x.tn, .int .i64 j.wa, .int .i64 j.pr, .bool j.he, .slice Y j.af.length cj, .int .u8 j.st, .int .i64 j.ca]] w fun e w' => e = .returned (.bool true) ∧ Below w.heap.size w w' := by
  unfold maxLen at hlk hl hlu hjl
  have HG1 := Lib.hid (fun w h => great_big X cX l (by omega) (fun j hj => by have := (hla j hj).2; unfold maxLen at this; omega) w h)
  rw [h1] at HG1
  have HX := Lib.hid hX
  clear hk hX hU hY h1
  go_enter Try.func7, Try.ntmps7
  go_upto_region 1 with fail
  have kc0 : Blk ((w.alloc (.cells #[.int .i64 d0, .int .i64 d1, .int .i64 d2, .int .i64 bo, .int .i64 fr, .int .i64 tr, .int .i64 ag, .slice K ks.length kc] 26)).alloc (.cells #[.int .i64 j.id, .int .i64 j.us, .int .i64 j.cl, .int .i64 j.x.a, .int .i64 j.x.b, .int .i64 j.x.c, .bool j.x.p, .bool j.x.q, .bool j.x.r, .bool j.x.tn, .int .i64 j.wa, .int .i64 j.pr, .bool j.he, .slice Y j.af.length cj, .int .u8 j.st, .int .i64 j.ca] 33)) w.heap.size 26 #[.int .i64 d0, .int .i64 d1, .int .i64 d2, .int .i64 bo, .int .i64 fr, .int .i64 tr, .int .i64 ag, .slice K ks.length kc] := (Blk.new w _ _).alloc _
  have kj0 : Blk ((w.alloc (.cells #[.int .i64 d0, .int .i64 d1, .int .i64 d2, .int .i64 bo, .int .i64 fr, .int .i64 tr, .int .i64 ag, .slice K ks.length kc] 26)).alloc (.cells #[.int .i64 j.id, .int .i64 j.us, .int .i64 j.cl, .int .i64 j.x.a, .int .i64 j.x.b, .int .i64 j.x.c, .bool j.x.p, .bool j.x.q, .bool j.x.r, .bool j.x.tn, .int .i64 j.wa, .int .i64 j.pr, .bool j.he, .slice Y j.af.length cj, .int .u8 j.st, .int .i64 j.ca] 33)) (w.heap.size + 1) 33 #[.int .i64 j.id, .int .i64 j.us, .int .i64 j.cl, .int .i64 j.x.a, .int .i64 j.x.b, .int .i64 j.x.c, .bool j.x.p, .bool j.x.q, .bool j.x.r, .bool j.x.tn, .int .i64 j.wa, .int .i64 j.pr, .bool j.he, .slice Y j.af.length cj, .int .u8 j.st, .int .i64 j.ca] := blk1 w _ _
  have hb0 : Below w.heap.size w ((w.alloc (.cells #[.int .i64 d0, .int .i64 d1, .int .i64 d2, .int .i64 bo, .int .i64 fr, .int .i64 tr, .int .i64 ag, .slice K ks.length kc] 26)).alloc (.cells #[.int .i64 j.id, .int .i64 j.us, .int .i64 j.cl, .int .i64 j.x.a, .int .i64 j.x.b, .int .i64 j.x.c, .bool j.x.p, .bool j.x.q, .bool j.x.r, .bool j.x.tn, .int .i64 j.wa, .int .i64 j.pr, .bool j.he, .slice Y j.af.length cj, .int .u8 j.st, .int .i64 j.ca] 33)) := below_alloc (below_alloc (Below.refl _ _))
  generalize ((w.alloc (.cells #[.int .i64 d0, .int .i64 d1, .int .i64 d2, .int .i64 bo, .int .i64 fr, .int .i64 tr, .int .i64 ag, .slice K ks.length kc] 26)).alloc (.cells #[.int .i64 j.id, .int .i64 j.us, .int .i64 j.cl, .int .i64 j.x.a, .int .i64 j.x.b, .int .i64 j.x.c, .bool j.x.p, .bool j.x.q, .bool j.x.r, .bool j.x.tn, .int .i64 j.wa, .int .i64 j.pr, .bool j.he, .slice Y j.af.length cj, .int .u8 j.st, .int .i64 j.ca] 33)) = w0 at *
  have HB0 := Lib.hid hb0
  have KC0 := Lib.hid kc0
  have KJ0 := Lib.hid kj0
  clear hb0 kc0 kj0
  go_wp2_with fail
  refine (jalive _).mono ?_
  rintro e w1 ⟨rfl, hB1⟩
  have HB1 := Lib.hid (below_up HB0.out hB1)
  have KC1 := Lib.hid (KC0.out.below hB1 KC0.out.lt)
  have KJ1 := Lib.hid (KJ0.out.below hB1 KJ0.out.lt)
  have xk : w1.cell? ⟨w.heap.size, 7, none⟩ = some (.slice K ks.length kc) := KC1.out.cell 7
  clear hB1 KC0 KJ0 HB0
  go_wp2_with fail
  refine (HG1.out _ (HX.out.up HB1.out)).mono ?_
  rintro e w2 ⟨rfl, hB2⟩
  have HB2 := Lib.hid (below_up HB1.out hB2)
  have KC2 := Lib.hid (KC1.out.below hB2 KC1.out.lt)
  have KJ2 := Lib.hid (KJ1.out.below hB2 KJ1.out.lt)
  have x13 : w2.cell? ⟨w.heap.size + 1, 13, none⟩ = some (.slice Y j.af.length cj) := KJ2.out.cell 13
  clear hB2 KC1 KJ1 xk HB1 HG1
  go_wp2_with fail
  go_ret
  exact ⟨rfl, HB2.out⟩
set_option maxRecDepth 100000 in
set_option maxHeartbeats 16000000 in
theorem jk_busy (d0 d1 d2 bo fr tr ag : Int) (K : Option Addr) (kc : Nat) (ks : List Cls) (hlk : ks.length ≤ maxLen) (X : Option Addr) (cX : Nat) (l : List JV) (hlc : l.length ≤ cX) (hl : l.length ≤ maxLen) (hla : ∀ j ∈ l, JWf j ∧ j.af.length ≤ maxLen) (U : Option Addr) (cu : Nat) (us : List Int) (hlu : us.length ≤ maxLen) (j : JV) (Y : Option Addr) (cj : Nat) (hjl : j.af.length ≤ maxLen) (hjw : JWf j) (h0 : ¬ (100 : Int) < (ks.length : Int)) (h1 : greatB l = false) (h2 : (100 : Int) < (us.length : Int)) (w : World) (hk : ClsAt w w.heap.size K ks) (hX : JobsAt w X l) (hU : IntsAt w U us) (hY : IntsAt w Y j.af) :
    Calls Try.prog 7 #[.agg #[.int .i64 d0, .int .i64 d1, .int .i64 d2, .int .i64 bo, .int .i64 fr, .int .i64 tr, .int .i64 ag, .slice K ks.length kc], .slice X l.length cX, .slice U us.length cu, .agg #[.int .i64 j.id, .int .i64 j.us, .int .i64 j.cl, .int .i64 j.x.a, .int .i64 j.x.b, .int .i64 j.x.c, .bool j.x.p, .bool j.x.q, .bool j.x.r, .bool j.x.tn, .int .i64 j.wa, .int .i64 j.pr, .bool j.he, .slice Y j.af.length cj, .int .u8 j.st, .int .i64 j.ca]] w fun e w' => e = .returned (.bool true) ∧ Below w.heap.size w w' := by
  unfold maxLen at hlk hl hlu hjl
  have HG1 := Lib.hid (fun w h => great_big X cX l (by omega) (fun j hj => by have := (hla j hj).2; unfold maxLen at this; omega) w h)
  rw [h1] at HG1
  have HX := Lib.hid hX
  clear hk hX hU hY h1
  go_enter Try.func7, Try.ntmps7
  go_upto_region 1 with fail
  have kc0 : Blk ((w.alloc (.cells #[.int .i64 d0, .int .i64 d1, .int .i64 d2, .int .i64 bo, .int .i64 fr, .int .i64 tr, .int .i64 ag, .slice K ks.length kc] 26)).alloc (.cells #[.int .i64 j.id, .int .i64 j.us, .int .i64 j.cl, .int .i64 j.x.a, .int .i64 j.x.b, .int .i64 j.x.c, .bool j.x.p, .bool j.x.q, .bool j.x.r, .bool j.x.tn, .int .i64 j.wa, .int .i64 j.pr, .bool j.he, .slice Y j.af.length cj, .int .u8 j.st, .int .i64 j.ca] 33)) w.heap.size 26 #[.int .i64 d0, .int .i64 d1, .int .i64 d2, .int .i64 bo, .int .i64 fr, .int .i64 tr, .int .i64 ag, .slice K ks.length kc] := (Blk.new w _ _).alloc _
  have kj0 : Blk ((w.alloc (.cells #[.int .i64 d0, .int .i64 d1, .int .i64 d2, .int .i64 bo, .int .i64 fr, .int .i64 tr, .int .i64 ag, .slice K ks.length kc] 26)).alloc (.cells #[.int .i64 j.id, .int .i64 j.us, .int .i64 j.cl, .int .i64 j.x.a, .int .i64 j.x.b, .int .i64 j.x.c, .bool j.x.p, .bool j.x.q, .bool j.x.r, .bool j.x.tn, .int .i64 j.wa, .int .i64 j.pr, .bool j.he, .slice Y j.af.length cj, .int .u8 j.st, .int .i64 j.ca] 33)) (w.heap.size + 1) 33 #[.int .i64 j.id, .int .i64 j.us, .int .i64 j.cl, .int .i64 j.x.a, .int .i64 j.x.b, .int .i64 j.x.c, .bool j.x.p, .bool j.x.q, .bool j.x.r, .bool j.x.tn, .int .i64 j.wa, .int .i64 j.pr, .bool j.he, .slice Y j.af.length cj, .int .u8 j.st, .int .i64 j.ca] := blk1 w _ _
  have hb0 : Below w.heap.size w ((w.alloc (.cells #[.int .i64 d0, .int .i64 d1, .int .i64 d2, .int .i64 bo, .int .i64 fr, .int .i64 tr, .int .i64 ag, .slice K ks.length kc] 26)).alloc (.cells #[.int .i64 j.id, .int .i64 j.us, .int .i64 j.cl, .int .i64 j.x.a, .int .i64 j.x.b, .int .i64 j.x.c, .bool j.x.p, .bool j.x.q, .bool j.x.r, .bool j.x.tn, .int .i64 j.wa, .int .i64 j.pr, .bool j.he, .slice Y j.af.length cj, .int .u8 j.st, .int .i64 j.ca] 33)) := below_alloc (below_alloc (Below.refl _ _))
  generalize ((w.alloc (.cells #[.int .i64 d0, .int .i64 d1, .int .i64 d2, .int .i64 bo, .int .i64 fr, .int .i64 tr, .int .i64 ag, .slice K ks.length kc] 26)).alloc (.cells #[.int .i64 j.id, .int .i64 j.us, .int .i64 j.cl, .int .i64 j.x.a, .int .i64 j.x.b, .int .i64 j.x.c, .bool j.x.p, .bool j.x.q, .bool j.x.r, .bool j.x.tn, .int .i64 j.wa, .int .i64 j.pr, .bool j.he, .slice Y j.af.length cj, .int .u8 j.st, .int .i64 j.ca] 33)) = w0 at *
  have HB0 := Lib.hid hb0
  have KC0 := Lib.hid kc0
  have KJ0 := Lib.hid kj0
  clear hb0 kc0 kj0
  go_wp2_with fail
  refine (jalive _).mono ?_
  rintro e w1 ⟨rfl, hB1⟩
  have HB1 := Lib.hid (below_up HB0.out hB1)
  have KC1 := Lib.hid (KC0.out.below hB1 KC0.out.lt)
  have KJ1 := Lib.hid (KJ0.out.below hB1 KJ0.out.lt)
  have xk : w1.cell? ⟨w.heap.size, 7, none⟩ = some (.slice K ks.length kc) := KC1.out.cell 7
  clear hB1 KC0 KJ0 HB0
  go_wp2_with fail
  refine (HG1.out _ (HX.out.up HB1.out)).mono ?_
  rintro e w2 ⟨rfl, hB2⟩
  have HB2 := Lib.hid (below_up HB1.out hB2)
  have KC2 := Lib.hid (KC1.out.below hB2 KC1.out.lt)
  have KJ2 := Lib.hid (KJ1.out.below hB2 KJ1.out.lt)
  have x13 : w2.cell? ⟨w.heap.size + 1, 13, none⟩ = some (.slice Y j.af.length cj) := KJ2.out.cell 13
  clear hB2 KC1 KJ1 xk HB1 HG1
  go_wp2_with fail
  go_ret
  exact ⟨rfl, HB2.out⟩
set_option maxRecDepth 100000 in
set_option maxHeartbeats 16000000 in
theorem jk_after (d0 d1 d2 bo fr tr ag : Int) (K : Option Addr) (kc : Nat) (ks : List Cls) (hlk : ks.length ≤ maxLen) (X : Option Addr) (cX : Nat) (l : List JV) (hlc : l.length ≤ cX) (hl : l.length ≤ maxLen) (hla : ∀ j ∈ l, JWf j ∧ j.af.length ≤ maxLen) (U : Option Addr) (cu : Nat) (us : List Int) (hlu : us.length ≤ maxLen) (j : JV) (Y : Option Addr) (cj : Nat) (hjl : j.af.length ≤ maxLen) (hjw : JWf j) (h0 : ¬ (100 : Int) < (ks.length : Int)) (h1 : greatB l = false) (h2 : ¬ (100 : Int) < (us.length : Int)) (h3 : (100 : Int) < (j.af.length : Int)) (w : World) (hk : ClsAt w w.heap.size K ks) (hX : JobsAt w X l) (hU : IntsAt w U us) (hY : IntsAt w Y j.af) :
    Calls Try.prog 7 #[.agg #[.int .i64 d0, .int .i64 d1, .int .i64 d2, .int .i64 bo, .int .i64 fr, .int .i64 tr, .int .i64 ag, .slice K ks.length kc], .slice X l.length cX, .slice U us.length cu, .agg #[.int .i64 j.id, .int .i64 j.us, .int .i64 j.cl, .int .i64 j.x.a, .int .i64 j.x.b, .int .i64 j.x.c, .bool j.x.p, .bool j.x.q, .bool j.x.r, .bool j.x.tn, .int .i64 j.wa, .int .i64 j.pr, .bool j.he, .slice Y j.af.length cj, .int .u8 j.st, .int .i64 j.ca]] w fun e w' => e = .returned (.bool true) ∧ Below w.heap.size w w' := by
  unfold maxLen at hlk hl hlu hjl
  have HG1 := Lib.hid (fun w h => great_big X cX l (by omega) (fun j hj => by have := (hla j hj).2; unfold maxLen at this; omega) w h)
  rw [h1] at HG1
  have HX := Lib.hid hX
  clear hk hX hU hY h1
  go_enter Try.func7, Try.ntmps7
  go_upto_region 1 with fail
  have kc0 : Blk ((w.alloc (.cells #[.int .i64 d0, .int .i64 d1, .int .i64 d2, .int .i64 bo, .int .i64 fr, .int .i64 tr, .int .i64 ag, .slice K ks.length kc] 26)).alloc (.cells #[.int .i64 j.id, .int .i64 j.us, .int .i64 j.cl, .int .i64 j.x.a, .int .i64 j.x.b, .int .i64 j.x.c, .bool j.x.p, .bool j.x.q, .bool j.x.r, .bool j.x.tn, .int .i64 j.wa, .int .i64 j.pr, .bool j.he, .slice Y j.af.length cj, .int .u8 j.st, .int .i64 j.ca] 33)) w.heap.size 26 #[.int .i64 d0, .int .i64 d1, .int .i64 d2, .int .i64 bo, .int .i64 fr, .int .i64 tr, .int .i64 ag, .slice K ks.length kc] := (Blk.new w _ _).alloc _
  have kj0 : Blk ((w.alloc (.cells #[.int .i64 d0, .int .i64 d1, .int .i64 d2, .int .i64 bo, .int .i64 fr, .int .i64 tr, .int .i64 ag, .slice K ks.length kc] 26)).alloc (.cells #[.int .i64 j.id, .int .i64 j.us, .int .i64 j.cl, .int .i64 j.x.a, .int .i64 j.x.b, .int .i64 j.x.c, .bool j.x.p, .bool j.x.q, .bool j.x.r, .bool j.x.tn, .int .i64 j.wa, .int .i64 j.pr, .bool j.he, .slice Y j.af.length cj, .int .u8 j.st, .int .i64 j.ca] 33)) (w.heap.size + 1) 33 #[.int .i64 j.id, .int .i64 j.us, .int .i64 j.cl, .int .i64 j.x.a, .int .i64 j.x.b, .int .i64 j.x.c, .bool j.x.p, .bool j.x.q, .bool j.x.r, .bool j.x.tn, .int .i64 j.wa, .int .i64 j.pr, .bool j.he, .slice Y j.af.length cj, .int .u8 j.st, .int .i64 j.ca] := blk1 w _ _
  have hb0 : Below w.heap.size w ((w.alloc (.cells #[.int .i64 d0, .int .i64 d1, .int .i64 d2, .int .i64 bo, .int .i64 fr, .int .i64 tr, .int .i64 ag, .slice K ks.length kc] 26)).alloc (.cells #[.int .i64 j.id, .int .i64 j.us, .int .i64 j.cl, .int .i64 j.x.a, .int .i64 j.x.b, .int .i64 j.x.c, .bool j.x.p, .bool j.x.q, .bool j.x.r, .bool j.x.tn, .int .i64 j.wa, .int .i64 j.pr, .bool j.he, .slice Y j.af.length cj, .int .u8 j.st, .int .i64 j.ca] 33)) := below_alloc (below_alloc (Below.refl _ _))
  generalize ((w.alloc (.cells #[.int .i64 d0, .int .i64 d1, .int .i64 d2, .int .i64 bo, .int .i64 fr, .int .i64 tr, .int .i64 ag, .slice K ks.length kc] 26)).alloc (.cells #[.int .i64 j.id, .int .i64 j.us, .int .i64 j.cl, .int .i64 j.x.a, .int .i64 j.x.b, .int .i64 j.x.c, .bool j.x.p, .bool j.x.q, .bool j.x.r, .bool j.x.tn, .int .i64 j.wa, .int .i64 j.pr, .bool j.he, .slice Y j.af.length cj, .int .u8 j.st, .int .i64 j.ca] 33)) = w0 at *
  have HB0 := Lib.hid hb0
  have KC0 := Lib.hid kc0
  have KJ0 := Lib.hid kj0
  clear hb0 kc0 kj0
  go_wp2_with fail
  refine (jalive _).mono ?_
  rintro e w1 ⟨rfl, hB1⟩
  have HB1 := Lib.hid (below_up HB0.out hB1)
  have KC1 := Lib.hid (KC0.out.below hB1 KC0.out.lt)
  have KJ1 := Lib.hid (KJ0.out.below hB1 KJ0.out.lt)
  have xk : w1.cell? ⟨w.heap.size, 7, none⟩ = some (.slice K ks.length kc) := KC1.out.cell 7
  clear hB1 KC0 KJ0 HB0
  go_wp2_with fail
  refine (HG1.out _ (HX.out.up HB1.out)).mono ?_
  rintro e w2 ⟨rfl, hB2⟩
  have HB2 := Lib.hid (below_up HB1.out hB2)
  have KC2 := Lib.hid (KC1.out.below hB2 KC1.out.lt)
  have KJ2 := Lib.hid (KJ1.out.below hB2 KJ1.out.lt)
  have x13 : w2.cell? ⟨w.heap.size + 1, 13, none⟩ = some (.slice Y j.af.length cj) := KJ2.out.cell 13
  clear hB2 KC1 KJ1 xk HB1 HG1
  go_wp2_with fail
  go_ret
  exact ⟨rfl, HB2.out⟩
set_option maxRecDepth 100000 in
set_option maxHeartbeats 16000000 in
theorem jk_main (d0 d1 d2 bo fr tr ag : Int) (K : Option Addr) (kc : Nat) (ks : List Cls) (hlk : ks.length ≤ maxLen) (X : Option Addr) (cX : Nat) (l : List JV) (hlc : l.length ≤ cX) (hl : l.length ≤ maxLen) (hla : ∀ j ∈ l, JWf j ∧ j.af.length ≤ maxLen) (U : Option Addr) (cu : Nat) (us : List Int) (hlu : us.length ≤ maxLen) (j : JV) (Y : Option Addr) (cj : Nat) (hjl : j.af.length ≤ maxLen) (hjw : JWf j) (h0 : ¬ (100 : Int) < (ks.length : Int)) (h1 : greatB l = false) (h2 : ¬ (100 : Int) < (us.length : Int)) (h3 : ¬ (100 : Int) < (j.af.length : Int)) (w : World) (hk : ClsAt w w.heap.size K ks) (hX : JobsAt w X l) (hU : IntsAt w U us) (hY : IntsAt w Y j.af) :
    Calls Try.prog 7 #[.agg #[.int .i64 d0, .int .i64 d1, .int .i64 d2, .int .i64 bo, .int .i64 fr, .int .i64 tr, .int .i64 ag, .slice K ks.length kc], .slice X l.length cX, .slice U us.length cu, .agg #[.int .i64 j.id, .int .i64 j.us, .int .i64 j.cl, .int .i64 j.x.a, .int .i64 j.x.b, .int .i64 j.x.c, .bool j.x.p, .bool j.x.q, .bool j.x.r, .bool j.x.tn, .int .i64 j.wa, .int .i64 j.pr, .bool j.he, .slice Y j.af.length cj, .int .u8 j.st, .int .i64 j.ca]] w fun e w' => e = .returned (.bool true) ∧ Below w.heap.size w w' := by
  unfold maxLen at hlk hl hlu hjl
  have HG1 := Lib.hid (fun w h => great_big X cX l (by omega) (fun j hj => by have := (hla j hj).2; unfold maxLen at this; omega) w h)
  rw [h1] at HG1
  obtain ⟨hl1, hl2⟩ := great_not h1
  have hl4 : ∀ j ∈ l, j.af.length ≤ 1000 := fun j hj => by have := hl2 j hj; omega
  have HX := Lib.hid hX
  have HK := Lib.hid hk
  have HY := Lib.hid hY
  have HU := Lib.hid hU
  have HA := Lib.hid (fun (W : World) (hB : Below w.heap.size w W) => add_any d0 d1 d2 bo fr tr ag K kc ks (by omega) X cX l (by omega) hl4 U cu us j Y cj (by omega) (by omega) W (hk.up hB) (hX.up hB) (hU.up hB) (hY.up hB))
  obtain ⟨x, hx⟩ : ∃ x, x = (addV d0 d1 d2 bo fr tr ag ks l us j).1 := ⟨_, rfl⟩
  obtain ⟨v, hv⟩ : ∃ v, v = (addV d0 d1 d2 bo fr tr ag ks l us j).2 := ⟨_, rfl⟩
  have HV := Lib.hid (show (v = 0 → tableV d0 d1 d2 bo fr tr ag ks x = 0 ∧ ∃ e, KE l us j x e) ∧ (v ≠ 0 → x = []) by rw [hx, hv]; exact ⟨addV_ok, addV_bad⟩)
  rw [← hx, ← hv] at HA
  have HL4 := Lib.hid (show (∀ q ∈ l, WWf q.x ∧ q.af.length ≤ 1000) ∧ WWf j.x ∧ j.af.length ≤ 1000 from ⟨fun q hq => ⟨(hla q hq).1.2.2.2.1, hl4 q hq⟩, hjw.2.2.2.1, by omega⟩)
  have HBD := Lib.hid (And.intro hl1 hlk)
  clear hk hX hU hY h1 hl4 hl2 hx hv hla hjw
  go_enter Try.func7, Try.ntmps7
  go_upto_region 1 with fail
  have kc0 : Blk ((w.alloc (.cells #[.int .i64 d0, .int .i64 d1, .int .i64 d2, .int .i64 bo, .int .i64 fr, .int .i64 tr, .int .i64 ag, .slice K ks.length kc] 26)).alloc (.cells #[.int .i64 j.id, .int .i64 j.us, .int .i64 j.cl, .int .i64 j.x.a, .int .i64 j.x.b, .int .i64 j.x.c, .bool j.x.p, .bool j.x.q, .bool j.x.r, .bool j.x.tn, .int .i64 j.wa, .int .i64 j.pr, .bool j.he, .slice Y j.af.length cj, .int .u8 j.st, .int .i64 j.ca] 33)) w.heap.size 26 #[.int .i64 d0, .int .i64 d1, .int .i64 d2, .int .i64 bo, .int .i64 fr, .int .i64 tr, .int .i64 ag, .slice K ks.length kc] := (Blk.new w _ _).alloc _
  have kj0 : Blk ((w.alloc (.cells #[.int .i64 d0, .int .i64 d1, .int .i64 d2, .int .i64 bo, .int .i64 fr, .int .i64 tr, .int .i64 ag, .slice K ks.length kc] 26)).alloc (.cells #[.int .i64 j.id, .int .i64 j.us, .int .i64 j.cl, .int .i64 j.x.a, .int .i64 j.x.b, .int .i64 j.x.c, .bool j.x.p, .bool j.x.q, .bool j.x.r, .bool j.x.tn, .int .i64 j.wa, .int .i64 j.pr, .bool j.he, .slice Y j.af.length cj, .int .u8 j.st, .int .i64 j.ca] 33)) (w.heap.size + 1) 33 #[.int .i64 j.id, .int .i64 j.us, .int .i64 j.cl, .int .i64 j.x.a, .int .i64 j.x.b, .int .i64 j.x.c, .bool j.x.p, .bool j.x.q, .bool j.x.r, .bool j.x.tn, .int .i64 j.wa, .int .i64 j.pr, .bool j.he, .slice Y j.af.length cj, .int .u8 j.st, .int .i64 j.ca] := blk1 w _ _
  have hb0 : Below w.heap.size w ((w.alloc (.cells #[.int .i64 d0, .int .i64 d1, .int .i64 d2, .int .i64 bo, .int .i64 fr, .int .i64 tr, .int .i64 ag, .slice K ks.length kc] 26)).alloc (.cells #[.int .i64 j.id, .int .i64 j.us, .int .i64 j.cl, .int .i64 j.x.a, .int .i64 j.x.b, .int .i64 j.x.c, .bool j.x.p, .bool j.x.q, .bool j.x.r, .bool j.x.tn, .int .i64 j.wa, .int .i64 j.pr, .bool j.he, .slice Y j.af.length cj, .int .u8 j.st, .int .i64 j.ca] 33)) := below_alloc (below_alloc (Below.refl _ _))
  generalize ((w.alloc (.cells #[.int .i64 d0, .int .i64 d1, .int .i64 d2, .int .i64 bo, .int .i64 fr, .int .i64 tr, .int .i64 ag, .slice K ks.length kc] 26)).alloc (.cells #[.int .i64 j.id, .int .i64 j.us, .int .i64 j.cl, .int .i64 j.x.a, .int .i64 j.x.b, .int .i64 j.x.c, .bool j.x.p, .bool j.x.q, .bool j.x.r, .bool j.x.tn, .int .i64 j.wa, .int .i64 j.pr, .bool j.he, .slice Y j.af.length cj, .int .u8 j.st, .int .i64 j.ca] 33)) = w0 at *
  have HB0 := Lib.hid hb0
  have KC0 := Lib.hid kc0
  have KJ0 := Lib.hid kj0
  clear hb0 kc0 kj0
  go_wp2_with fail
  refine (jalive _).mono ?_
  rintro e w1 ⟨rfl, hB1⟩
  have HB1 := Lib.hid (below_up HB0.out hB1)
  have KC1 := Lib.hid (KC0.out.below hB1 KC0.out.lt)
  have KJ1 := Lib.hid (KJ0.out.below hB1 KJ0.out.lt)
  have xk : w1.cell? ⟨w.heap.size, 7, none⟩ = some (.slice K ks.length kc) := KC1.out.cell 7
  clear hB1 KC0 KJ0 HB0
  go_wp2_with fail
  refine (HG1.out _ (HX.out.up HB1.out)).mono ?_
  rintro e w2 ⟨rfl, hB2⟩
  have HB2 := Lib.hid (below_up HB1.out hB2)
  have KC2 := Lib.hid (KC1.out.below hB2 KC1.out.lt)
  have KJ2 := Lib.hid (KJ1.out.below hB2 KJ1.out.lt)
  have x13 : w2.cell? ⟨w.heap.size + 1, 13, none⟩ = some (.slice Y j.af.length cj) := KJ2.out.cell 13
  clear hB2 KC1 KJ1 xk HB1 HG1
  go_wp2_with (first | (refine wpList_load_row rfl 26 _ rfl _ rfl 26 #[.int .i64 d0, .int .i64 d1, .int .i64 d2, .int .i64 bo, .int .i64 fr, .int .i64 tr, .int .i64 ag, .slice K ks.length kc] (0, 0) _ KC2.out Try.underlying26 rfl (by kernel_rfl) ?_) | (refine wpList_load_row rfl 33 _ rfl _ rfl 33 #[.int .i64 j.id, .int .i64 j.us, .int .i64 j.cl, .int .i64 j.x.a, .int .i64 j.x.b, .int .i64 j.x.c, .bool j.x.p, .bool j.x.q, .bool j.x.r, .bool j.x.tn, .int .i64 j.wa, .int .i64 j.pr, .bool j.he, .slice Y j.af.length cj, .int .u8 j.st, .int .i64 j.ca] (0, 0) _ KJ2.out Try.underlying33 rfl (by kernel_rfl) ?_))
  refine (HA.out _ HB2.out).mono ?_
  rintro e w3 ⟨X3, c3, rfl, hO, hB3⟩
  have HB3 := Lib.hid (below_up HB2.out hB3)
  have KC3 := Lib.hid (KC2.out.below hB3 KC2.out.lt)
  have KJ3 := Lib.hid (KJ2.out.below hB3 KJ2.out.lt)
  have HO3 := Lib.hid hO
  clear hB3 hO KC2 KJ2 x13 HA HB2
  by_cases hv0 : v = 0
  rotate_left
  · have hv1 : (v != 0) = true := by simpa using hv0
    have hx0 := HV.out.2 hv0
    clear hv0
    subst hx0
    go_wp2_with fail
    go_ret
    exact ⟨rfl, HB3.out⟩
  obtain ⟨htv, e, hke⟩ := HV.out.1 hv0
  have hv1 : (v != 0) = false := by simpa using hv0
  have HE := Lib.hid hke
  obtain ⟨m, hm⟩ : ∃ m, x.length = m + 1 := ⟨x.length - 1, by have := hke.len; split at this <;> omega⟩
  have hlast := hke.last
  rw [hm, Nat.add_sub_cancel] at hlast
  have hxl : x.length ≤ 1000 := by have h5 := hke.len; have := hke.top; split at h5 <;> omega
  have HXW := Lib.hid (show ∀ q ∈ x, WWf q.x ∧ q.af.length ≤ 1000 from fun q hq => by
    rcases addV_mem (d0 := d0) (d1 := d1) (d2 := d2) (bo := bo) (fr := fr) (tr := tr) (ag := ag) (ks := ks) hke hq with h | rfl
    · exact HL4.out.1 q h
    · exact HL4.out.2)
  have HT := Lib.hid (fun (W : World) (hk : ClsAt W W.heap.size K ks) (hX : JobsAt W X3 x) =>
    (show Calls Try.prog 15 #[.agg #[.int .i64 d0, .int .i64 d1, .int .i64 d2, .int .i64 bo, .int .i64 fr, .int .i64 tr, .int .i64 ag, .slice K ks.length kc], .slice X3 x.length c3] W (fun e w' => e = .returned (.int .i64 0) ∧ Below W.heap.size W w') from by
      have h2 := table_any d0 d1 d2 bo fr tr ag K kc ks (by have := HBD.out.2; omega) X3 c3 x (by omega) (fun q hq => by have := (HXW.out q hq).2; omega) W hk hX
      rw [htv] at h2
      exact h2))
  have HM := Lib.hid hm
  have hlm : l.length = m ∨ l.length = m + 1 := by have := hke.len; split at this <;> omega
  have hl24 : l.length ≤ 24 := hke.top
  have hl24m : l.length < 24 → l.length = m := fun h => by
    have h1 := hke.len
    by_cases he : e < l.length
    · have := (hke.loose he).1; omega
    · rw [if_neg he] at h1; omega
  obtain ⟨g3, Y3, cj3, hX3, hg3, hg3s, hJ3, _, _, _⟩ := HO3.out m (asked j) hlast
  have z0 : w3.cell? ⟨g3, m * 16, none⟩ = some (.int .i64 j.id) := hJ3.1
  have z14 : w3.cell? ⟨g3, m * 16 + 14, none⟩ = some (.int .u8 1) := hJ3.2.2.2.2.2.2.2.2.2.2.2.2.2.2.1
  have xj0 : w3.cell? ⟨w.heap.size + 1, 0, none⟩ = some (.int .i64 j.id) := KJ3.out.cell 0
  subst hX3
  have hsub : IntKind.i64.wrap ((x.length : Int) - 1) = (m : Int) := by rw [IntWalk.i64_in _ (by omega)]; omega
  have hmx : (m : Int) < (x.length : Int) := by omega
  have hm0 : ¬ (m : Int) < 0 := by omega
  have hm0' : (0 : Int) ≤ (m : Int) := by omega
  have hsub2 : IntKind.i64.wrap ((l.length : Int) - (m : Int)) = (l.length : Int) - (m : Int) := IntWalk.i64_in _ (by omega)
  have hd1 : ¬ (1 : Int) < (l.length : Int) - (m : Int) := by omega
  have hmd : decide ((m : Int) < 0) = false := decide_eq_false hm0
  have hid : (j.id != j.id) = false := by simp
  have hd2 : decide ((1 : Int) < (l.length : Int) - (m : Int)) = false := decide_eq_false hd1
  clear hJ3 hg3 hg3s hlast hke htv hv0 hm
  go_upto_region 8 with fail
  go_cut [103] from 16 to 103 (fun s wx => s = .bool false ∧ Hid (Below w3.heap.size w3 wx))
  case first =>
    by_cases h24 : l.length < 24
    · have h24i : (l.length : Int) < 24 := by omega
      have h24d : decide ((l.length : Int) < 24) = true := decide_eq_true h24i
      have h24n : decide (l.length < 24) = true := decide_eq_true h24
      have hml := hl24m h24
      have hmi : ((m : Int) != (l.length : Int)) = false := by simp; omega
      clear hl24m hlm hml
      have kq0 := cell_regrown xj0
      have kq1 := cell_regrown z0
      have kq2 := cell_regrown z14
      refine wp_region_quiet_below (by kernel_rfl) (by kernel_rfl) ?_
      repeat (first | go_big_quiet_step (first | fail | exact Calls.regrown_of (HT.out _ ((HK.out.up HB3.out).up (below_regrown _ _ _)) (HO3.out.jobs.up (below_regrown _ _ _)))))
      (refine quiet_load_row (by rfl) 26 _ rfl _ rfl 26 #[.int .i64 d0, .int .i64 d1, .int .i64 d2, .int .i64 bo, .int .i64 fr, .int .i64 tr, .int .i64 ag, .slice K ks.length kc] KC3.out _ Try.underlying26 rfl (by kernel_rfl) ?_; simp only [Act.put, List.setIfInBounds_toArray, List.set_cons_zero, List.set_cons_succ])
      repeat (first | go_big_quiet_step (first | fail | exact Calls.regrown_of (HT.out _ ((HK.out.up HB3.out).up (below_regrown _ _ _)) (HO3.out.jobs.up (below_regrown _ _ _)))))
      refine wpQuiet_nil ?_
      intro _ hw'
      obtain ⟨⟨dq, osq⟩, hw''⟩ := hw'
      subst hw''
      have hBq := below_regrown w3 dq osq
      clear kq0 kq1 kq2
      generalize grow (redrawn w3 dq) osq = w4 at *
      have HBq := Lib.hid hBq
      clear hBq
      go_wp2_with fail
      go_meet
      exact ⟨rfl, HBq.out⟩
    · have h24i : ¬ (l.length : Int) < 24 := by omega
      have h24d : decide ((l.length : Int) < 24) = false := decide_eq_false h24i
      clear h24 hl24m hlm
      have kq0 := cell_regrown xj0
      have kq1 := cell_regrown z0
      have kq2 := cell_regrown z14
      refine wp_region_quiet_below (by kernel_rfl) (by kernel_rfl) ?_
      repeat (first | go_big_quiet_step (first | fail | exact Calls.regrown_of (HT.out _ ((HK.out.up HB3.out).up (below_regrown _ _ _)) (HO3.out.jobs.up (below_regrown _ _ _)))))
      (refine quiet_load_row (by rfl) 26 _ rfl _ rfl 26 #[.int .i64 d0, .int .i64 d1, .int .i64 d2, .int .i64 bo, .int .i64 fr, .int .i64 tr, .int .i64 ag, .slice K ks.length kc] KC3.out _ Try.underlying26 rfl (by kernel_rfl) ?_; simp only [Act.put, List.setIfInBounds_toArray, List.set_cons_zero, List.set_cons_succ])
      repeat (first | go_big_quiet_step (first | fail | exact Calls.regrown_of (HT.out _ ((HK.out.up HB3.out).up (below_regrown _ _ _)) (HO3.out.jobs.up (below_regrown _ _ _)))))
      refine wpQuiet_nil ?_
      intro _ hw'
      obtain ⟨⟨dq, osq⟩, hw''⟩ := hw'
      subst hw''
      have hBq := below_regrown w3 dq osq
      clear kq0 kq1 kq2
      generalize grow (redrawn w3 dq) osq = w4 at *
      have HBq := Lib.hid hBq
      clear hBq
      go_wp2_with fail
      go_meet
      exact ⟨rfl, HBq.out⟩
  case rest =>
    obtain ⟨rfl, hBc⟩ := hcut
    obtain ⟨w4, rfl⟩ : ∃ w4 : World, w4 = wc := ⟨_, rfl⟩
    have HB4 := Lib.hid (below_up HB3.out hBc.out)
    have HO4 := Lib.hid (HO3.out.up hBc.out)
    have HLM := Lib.hid (And.intro hlm hl24m)
    clear hBc z0 z14 xj0 HB3 HO3 KC3 KJ3 HT hlm hl24m hmd hid hd1 hd2
    have HEND := Lib.hid (show atK e l.length = m by
      have h1 := HE.out.len
      have h2 := HM.out
      unfold atK
      rcases HE.out.le with h | h
      · rw [if_pos h] at h1; rw [if_pos h]; omega
      · rw [if_neg (by omega)] at h1; rw [if_neg (by omega)]; omega)
    go_wp2_with fail
    go_loopw [13, 14] (fun a i wr => ∃ k : Nat, k ≤ l.length ∧ a = .int .i64 ((atK e k : Nat) : Int) ∧ i = .int .i64 (k : Int) ∧ Hid (Below w4.heap.size w4 wr)) (fun _ i _ => l.length - (intOf i).toNat)
    case atStart => exact ⟨0, Nat.zero_le _, by simp [atK], rfl, Below.refl _ _⟩
    case round =>
      obtain ⟨k, hk, rfl, rfl, hB⟩ := hrel
      by_cases hlt : k < l.length
      rotate_left
      · obtain rfl : k = l.length := by omega
        have hen : (((atK e l.length : Nat) : Int) == (m : Int)) = true := by rw [HEND.out]; simp
        have HBf := Lib.hid (below_up HB4.out hB.out)
        go_wp2_with fail
        go_ret
        exact ⟨rfl, HBf.out⟩
      have hg : l[k]? = some l[k] := List.getElem?_eq_getElem hlt
      generalize l[k] = y at hg
      have hki : (k : Int) < (l.length : Int) := by omega
      have hki0 : (0 : Int) ≤ (k : Int) := by omega
      have hkt := List.mem_of_getElem? hg
      obtain ⟨by_, oy, Yy, cy, hXe, hby, hJy, hYy⟩ := HX.out.up (below_up HB4.out hB.out) k y hg
      have HJ := Lib.hid (And.intro hJy hYy)
      have HG := Lib.hid (And.intro hg hkt)
      obtain ⟨at', hat⟩ : ∃ a, a = atK e k := ⟨_, rfl⟩
      rw [← hat]
      have hatle : at' ≤ k := by rw [hat]; unfold atK; split <;> omega
      have HAT := Lib.hid hat
      subst hXe
      clear hg hkt hJy hYy hby hat
      go_upto_region 14 with fail
      go_cut [125] from 104 to 154 (fun s wx => s = .bool (!decide (k = e)) ∧ Hid (Below wr.heap.size wr wx))
      case first =>
        by_cases hlast : at' < m
        · have hli : (at' : Int) < (m : Int) := by omega
          have hlid : decide ((at' : Int) < (m : Int)) = true := decide_eq_true hli
          obtain ⟨z, hz, hcmp⟩ : ∃ z, x[at']? = some z ∧ decide (y = z) = !decide (k = e) := by
            by_cases hke2 : k = e
            · subst hke2
              have e2 : at' = k := by rw [HAT.out]; unfold atK; rw [if_neg (by omega)]
              have hz : x[k]? = some (x[k]'(by have := HM.out; omega)) := List.getElem?_eq_getElem _
              rw [e2]
              refine ⟨_, hz, ?_⟩
              rw [decide_eq_true (rfl : k = k), decide_eq_false (HE.out.gone HG.out.1 hz (by have := HM.out; omega))]
              rfl
            · refine ⟨y, by rw [HAT.out]; exact (HE.out.at_ HG.out.1 hke2).1, ?_⟩
              rw [decide_eq_true (rfl : y = y), decide_eq_false hke2]
              rfl
          have hzx : (at' : Int) < (x.length : Int) := by have := HM.out; omega
          have hz0 : (0 : Int) ≤ (at' : Int) := by omega
          obtain ⟨gz, Yz, cz, hXz, _, hgzs, hJz, _, haz, _⟩ := (HO4.out.up hB.out) at' z hz
          have HZ := Lib.hid (And.intro hJz (haz (List.getElem?_eq_some_iff.1 hz).1).ints)
          have e3 : gz = g3 := by simp at hXz; exact hXz.symm
          subst e3
          have RY := Lib.hid (show wr.rangeAt by_ (oy + k * 16) [.int .i64 y.id, .int .i64 y.us, .int .i64 y.cl, .int .i64 y.x.a, .int .i64 y.x.b, .int .i64 y.x.c, .bool y.x.p, .bool y.x.q, .bool y.x.r, .bool y.x.tn, .int .i64 y.wa, .int .i64 y.pr, .bool y.he, .slice Yy y.af.length cy, .int .u8 y.st, .int .i64 y.ca] from HJ.out.1.range)
          have RZ := Lib.hid (show wr.rangeAt gz (at' * 16) [.int .i64 z.id, .int .i64 z.us, .int .i64 z.cl, .int .i64 z.x.a, .int .i64 z.x.b, .int .i64 z.x.c, .bool z.x.p, .bool z.x.q, .bool z.x.r, .bool z.x.tn, .int .i64 z.wa, .int .i64 z.pr, .bool z.he, .slice Yz z.af.length cz, .int .u8 z.st, .int .i64 z.ca] from HZ.out.1.range)
          have HSM := Lib.hid (fun (W : World) (a b : Nat) (hB : Below wr.heap.size wr W) (k1 : Blk W a 33 #[.int .i64 y.id, .int .i64 y.us, .int .i64 y.cl, .int .i64 y.x.a, .int .i64 y.x.b, .int .i64 y.x.c, .bool y.x.p, .bool y.x.q, .bool y.x.r, .bool y.x.tn, .int .i64 y.wa, .int .i64 y.pr, .bool y.he, .slice Yy y.af.length cy, .int .u8 y.st, .int .i64 y.ca]) (k2 : Blk W b 33 #[.int .i64 z.id, .int .i64 z.us, .int .i64 z.cl, .int .i64 z.x.a, .int .i64 z.x.b, .int .i64 z.x.c, .bool z.x.p, .bool z.x.q, .bool z.x.r, .bool z.x.tn, .int .i64 z.wa, .int .i64 z.pr, .bool z.he, .slice Yz z.af.length cz, .int .u8 z.st, .int .i64 z.ca]) => same_two y z a b Yy Yz cy cz (HL4.out.1 y HG.out.2) (HXW.out z (List.mem_of_getElem? hz)) W k1 k2 (HJ.out.2.up hB) (HZ.out.2.up hB))
          rw [hcmp] at HSM
          clear hJz haz hXz hgzs hz hcmp hlast
          refine wp_region_noPanic ?_
          refine wp_region_held_drew (S := (fun W => Below wr.heap.size wr W)) (by kernel_rfl) ?_ (fun hHeld => ?_)
          · exact (Below.refl _ _).drew
          refine' wpAnyH_take (i := 0) (v := ?v1) rfl (by kernel_rfl) (by kernel_rfl) (by kernel_rfl) (fun _ _ _ h => h) (Or.inl ⟨by rfl, ?y1⟩) (by assumption) ?r1
          case y1 => (intro W hSw; (try dsimp only at hSw); go_simp; try with_reducible rfl)
          (try simp only [Act.put, List.getElem_toArray, List.getElem_cons_zero, List.getElem_cons_succ, List.setIfInBounds_toArray, List.set_cons_zero, List.set_cons_succ])
          refine' wpAnyH_take (i := 1) (v := ?v2) rfl (by kernel_rfl) (by kernel_rfl) (by kernel_rfl) (fun _ _ _ h => h) (Or.inl ⟨by rfl, ?y2⟩) (by assumption) ?r2
          case y2 => (intro W hSw; (try dsimp only at hSw); go_simp; try with_reducible rfl)
          (try simp only [Act.put, List.getElem_toArray, List.getElem_cons_zero, List.getElem_cons_succ, List.setIfInBounds_toArray, List.set_cons_zero, List.set_cons_succ])
          refine' wpAnyH_take (i := 2) (v := ?v3) rfl (by kernel_rfl) (by kernel_rfl) (by kernel_rfl) (fun _ _ _ h => h) (Or.inl ⟨by rfl, ?y3⟩) (by assumption) ?r3
          case y3 => (intro W hSw; (try dsimp only at hSw); go_simp; try with_reducible rfl)
          (try simp only [Act.put, List.getElem_toArray, List.getElem_cons_zero, List.getElem_cons_succ, List.setIfInBounds_toArray, List.set_cons_zero, List.set_cons_succ])
          refine' wpAnyH_take (i := 3) (v := ?v4) rfl (by kernel_rfl) (by kernel_rfl) (by kernel_rfl) (fun _ _ _ h => h) (Or.inl ⟨by rfl, ?y4⟩) (by assumption) ?r4
          case y4 => (intro W hSw; (try dsimp only at hSw); go_simp; try with_reducible rfl)
          (try simp only [Act.put, List.getElem_toArray, List.getElem_cons_zero, List.getElem_cons_succ, List.setIfInBounds_toArray, List.set_cons_zero, List.set_cons_succ])
          refine' wpAnyH_take (i := 4) (v := ?v5) rfl (by kernel_rfl) (by kernel_rfl) (by kernel_rfl) (fun _ _ _ h => h) (Or.inl ⟨by rfl, ?y5⟩) (by assumption) ?r5
          case y5 => (intro W hSw; (try dsimp only at hSw); go_simp; try with_reducible rfl)
          (try simp only [Act.put, List.getElem_toArray, List.getElem_cons_zero, List.getElem_cons_succ, List.setIfInBounds_toArray, List.set_cons_zero, List.set_cons_succ])
          refine' wpAnyH_take (i := 5) (v := ?v6) rfl (by kernel_rfl) (by kernel_rfl) (by kernel_rfl) (fun _ _ _ h => h) (Or.inl ⟨by rfl, ?y6⟩) (by assumption) ?r6
          case y6 => (intro W hSw; (try dsimp only at hSw); go_simp; try with_reducible rfl)
          (try simp only [Act.put, List.getElem_toArray, List.getElem_cons_zero, List.getElem_cons_succ, List.setIfInBounds_toArray, List.set_cons_zero, List.set_cons_succ])
          refine' wpAnyH_take (i := 6) (v := ?v7) rfl (by kernel_rfl) (by kernel_rfl) (by kernel_rfl) (fun _ _ _ h => h) (Or.inl ⟨by rfl, ?y7⟩) (by assumption) ?r7
          case y7 => (intro W hSw; (try dsimp only at hSw); go_simp; try with_reducible rfl)
          (try simp only [Act.put, List.getElem_toArray, List.getElem_cons_zero, List.getElem_cons_succ, List.setIfInBounds_toArray, List.set_cons_zero, List.set_cons_succ])
          refine' wpAnyH_take (i := 7) (v := _) rfl (by kernel_rfl) (by kernel_rfl) (by kernel_rfl) (fun _ _ _ h => h) (yieldsIf_load_mid (by rfl) _ _ rfl _ _ rfl [.int .i64 y.id, .int .i64 y.us, .int .i64 y.cl, .int .i64 y.x.a, .int .i64 y.x.b, .int .i64 y.x.c, .bool y.x.p, .bool y.x.q, .bool y.x.r, .bool y.x.tn, .int .i64 y.wa, .int .i64 y.pr, .bool y.he, .slice Yy y.af.length cy, .int .u8 y.st, .int .i64 y.ca] _ (fun W hW => range_up RY.out hW) Try.underlying33 rfl (by kernel_rfl)) (by assumption) ?r8
          (try simp only [Act.put, List.getElem_toArray, List.getElem_cons_zero, List.getElem_cons_succ, List.setIfInBounds_toArray, List.set_cons_zero, List.set_cons_succ])
          refine' wpAnyH_take (i := 9) (v := ?v9) rfl (by kernel_rfl) (by kernel_rfl) (by kernel_rfl) (fun _ _ _ h => h) (Or.inl ⟨by rfl, ?y9⟩) (by assumption) ?r9
          case y9 => (intro W hSw; (try dsimp only at hSw); go_simp; try with_reducible rfl)
          (try simp only [Act.put, List.getElem_toArray, List.getElem_cons_zero, List.getElem_cons_succ, List.setIfInBounds_toArray, List.set_cons_zero, List.set_cons_succ])
          refine' wpAnyH_take (i := 10) (v := ?v10) rfl (by kernel_rfl) (by kernel_rfl) (by kernel_rfl) (fun _ _ _ h => h) (Or.inl ⟨by rfl, ?y10⟩) (by assumption) ?r10
          case y10 => (intro W hSw; (try dsimp only at hSw); go_simp; try with_reducible rfl)
          (try simp only [Act.put, List.getElem_toArray, List.getElem_cons_zero, List.getElem_cons_succ, List.setIfInBounds_toArray, List.set_cons_zero, List.set_cons_succ])
          refine' wpAnyH_take (i := 11) (v := ?v11) rfl (by kernel_rfl) (by kernel_rfl) (by kernel_rfl) (fun _ _ _ h => h) (Or.inl ⟨by rfl, ?y11⟩) (by assumption) ?r11
          case y11 => (intro W hSw; (try dsimp only at hSw); go_simp; try with_reducible rfl)
          (try simp only [Act.put, List.getElem_toArray, List.getElem_cons_zero, List.getElem_cons_succ, List.setIfInBounds_toArray, List.set_cons_zero, List.set_cons_succ])
          refine' wpAnyH_take (i := 12) (v := _) rfl (by kernel_rfl) (by kernel_rfl) (by kernel_rfl) (fun _ _ _ h => h) (yieldsIf_load_mid (by rfl) _ _ rfl _ _ rfl [.int .i64 z.id, .int .i64 z.us, .int .i64 z.cl, .int .i64 z.x.a, .int .i64 z.x.b, .int .i64 z.x.c, .bool z.x.p, .bool z.x.q, .bool z.x.r, .bool z.x.tn, .int .i64 z.wa, .int .i64 z.pr, .bool z.he, .slice Yz z.af.length cz, .int .u8 z.st, .int .i64 z.ca] _ (fun W hW => range_up RZ.out hW) Try.underlying33 rfl (by kernel_rfl)) (by assumption) ?r12
          (try simp only [Act.put, List.getElem_toArray, List.getElem_cons_zero, List.getElem_cons_succ, List.setIfInBounds_toArray, List.set_cons_zero, List.set_cons_succ])
          refine wpAnyH_ready (rs := [8, 13]) (by kernel_rfl) (by simp) ?_
          refine AllReadyH.cons (i := 8) rfl (fun K hK => ?_) ?_
          · go_simp
            refine hK.out _ _ ?_ (fun hHeld => ?_)
            · exact (below_alloc (Below.refl _ _)).drew
            clear hK K
            (try simp only [Act.put, List.getElem_toArray, List.getElem_cons_zero, List.getElem_cons_succ, List.setIfInBounds_toArray, List.set_cons_zero, List.set_cons_succ])
            refine wpAnyH_ready (rs := [13]) (by kernel_rfl) (by simp) ?_
            refine AllReadyH.cons (i := 13) rfl (fun K hK => ?_) ?_
            · go_simp
              refine hK.out _ _ ?_ (fun hHeld => ?_)
              · exact (below_alloc (below_alloc (Below.refl _ _))).drew
              clear hK K
              (try simp only [Act.put, List.getElem_toArray, List.getElem_cons_zero, List.getElem_cons_succ, List.setIfInBounds_toArray, List.set_cons_zero, List.set_cons_succ])
              refine wpAnyH_ready (rs := [14]) (by kernel_rfl) (by simp) ?_
              refine AllReadyH.cons (i := 14) rfl (fun K hK => ?_) ?_
              · go_simp
                refine (HSM.out (World.drew (World.alloc (World.alloc wr (.cells #[.int .i64 y.id, .int .i64 y.us, .int .i64 y.cl, .int .i64 y.x.a, .int .i64 y.x.b, .int .i64 y.x.c, .bool y.x.p, .bool y.x.q, .bool y.x.r, .bool y.x.tn, .int .i64 y.wa, .int .i64 y.pr, .bool y.he, .slice Yy y.af.length cy, .int .u8 y.st, .int .i64 y.ca] 33)) (.cells #[.int .i64 z.id, .int .i64 z.us, .int .i64 z.cl, .int .i64 z.x.a, .int .i64 z.x.b, .int .i64 z.x.c, .bool z.x.p, .bool z.x.q, .bool z.x.r, .bool z.x.tn, .int .i64 z.wa, .int .i64 z.pr, .bool z.he, .slice Yz z.af.length cz, .int .u8 z.st, .int .i64 z.ca] 33))) wr.heap.size (wr.heap.size + 1) (below_alloc (below_alloc (Below.refl _ _))).drew (((Blk.new wr _ _).alloc _).drew) ((blk1 wr _ _).drew)).mono ?_
                rintro e w7 ⟨rfl, hB7⟩
                have HB7 := Lib.hid (below_up (below_alloc (below_alloc (Below.refl _ _))).drew hB7)
                clear hB7
                (try dsimp only)
                refine hK.out _ _ ?_ (fun hHeld => ?_)
                · exact HB7.out
                clear hK K
                (try simp only [Act.put, List.getElem_toArray, List.getElem_cons_zero, List.getElem_cons_succ, List.setIfInBounds_toArray, List.set_cons_zero, List.set_cons_succ])
                refine' wpAnyH_take (i := 15) (v := ?v13) rfl (by kernel_rfl) (by kernel_rfl) (by kernel_rfl) (fun _ _ _ h => h) (Or.inl ⟨by rfl, ?y13⟩) (by assumption) ?r13
                case y13 => (intro W hSw; (try dsimp only at hSw); go_simp; try with_reducible rfl)
                (try simp only [Act.put, List.getElem_toArray, List.getElem_cons_zero, List.getElem_cons_succ, List.setIfInBounds_toArray, List.set_cons_zero, List.set_cons_succ])
                refine wpAnyH_done (by kernel_rfl) ?_ _
                refine NoPanic.normal ?_
                go_wp2_with fail
                go_meet
                exact ⟨rfl, HB7.out⟩
              exact AllReadyH.nil
            exact AllReadyH.nil
          refine AllReadyH.cons (i := 13) rfl (fun K hK => ?_) ?_
          · go_simp
            refine hK.out _ _ ?_ (fun hHeld => ?_)
            · exact (below_alloc (Below.refl _ _)).drew
            clear hK K
            (try simp only [Act.put, List.getElem_toArray, List.getElem_cons_zero, List.getElem_cons_succ, List.setIfInBounds_toArray, List.set_cons_zero, List.set_cons_succ])
            refine wpAnyH_ready (rs := [8]) (by kernel_rfl) (by simp) ?_
            refine AllReadyH.cons (i := 8) rfl (fun K hK => ?_) ?_
            · go_simp
              refine hK.out _ _ ?_ (fun hHeld => ?_)
              · exact (below_alloc (below_alloc (Below.refl _ _))).drew
              clear hK K
              (try simp only [Act.put, List.getElem_toArray, List.getElem_cons_zero, List.getElem_cons_succ, List.setIfInBounds_toArray, List.set_cons_zero, List.set_cons_succ])
              refine wpAnyH_ready (rs := [14]) (by kernel_rfl) (by simp) ?_
              refine AllReadyH.cons (i := 14) rfl (fun K hK => ?_) ?_
              · go_simp
                refine (HSM.out (World.drew (World.alloc (World.alloc wr (.cells #[.int .i64 z.id, .int .i64 z.us, .int .i64 z.cl, .int .i64 z.x.a, .int .i64 z.x.b, .int .i64 z.x.c, .bool z.x.p, .bool z.x.q, .bool z.x.r, .bool z.x.tn, .int .i64 z.wa, .int .i64 z.pr, .bool z.he, .slice Yz z.af.length cz, .int .u8 z.st, .int .i64 z.ca] 33)) (.cells #[.int .i64 y.id, .int .i64 y.us, .int .i64 y.cl, .int .i64 y.x.a, .int .i64 y.x.b, .int .i64 y.x.c, .bool y.x.p, .bool y.x.q, .bool y.x.r, .bool y.x.tn, .int .i64 y.wa, .int .i64 y.pr, .bool y.he, .slice Yy y.af.length cy, .int .u8 y.st, .int .i64 y.ca] 33))) (wr.heap.size + 1) wr.heap.size (below_alloc (below_alloc (Below.refl _ _))).drew ((blk1 wr _ _).drew) (((Blk.new wr _ _).alloc _).drew)).mono ?_
                rintro e w7 ⟨rfl, hB7⟩
                have HB7 := Lib.hid (below_up (below_alloc (below_alloc (Below.refl _ _))).drew hB7)
                clear hB7
                (try dsimp only)
                refine hK.out _ _ ?_ (fun hHeld => ?_)
                · exact HB7.out
                clear hK K
                (try simp only [Act.put, List.getElem_toArray, List.getElem_cons_zero, List.getElem_cons_succ, List.setIfInBounds_toArray, List.set_cons_zero, List.set_cons_succ])
                refine' wpAnyH_take (i := 15) (v := ?v14) rfl (by kernel_rfl) (by kernel_rfl) (by kernel_rfl) (fun _ _ _ h => h) (Or.inl ⟨by rfl, ?y14⟩) (by assumption) ?r14
                case y14 => (intro W hSw; (try dsimp only at hSw); go_simp; try with_reducible rfl)
                (try simp only [Act.put, List.getElem_toArray, List.getElem_cons_zero, List.getElem_cons_succ, List.setIfInBounds_toArray, List.set_cons_zero, List.set_cons_succ])
                refine wpAnyH_done (by kernel_rfl) ?_ _
                refine NoPanic.normal ?_
                go_wp2_with fail
                go_meet
                exact ⟨rfl, HB7.out⟩
              exact AllReadyH.nil
            exact AllReadyH.nil
          exact AllReadyH.nil
        · have hli : ¬ (at' : Int) < (m : Int) := by omega
          have hlid : decide ((at' : Int) < (m : Int)) = false := decide_eq_false hli
          have hke2 : k = e := by
            by_cases hke2 : k = e
            · exact hke2
            · have h1 := (HE.out.at_ HG.out.1 hke2).2
              have h2 := HAT.out; have h3 := HM.out
              omega
          have hdd : decide (k = e) = true := decide_eq_true hke2
          clear hlast hke2
          refine wp_region_quiet_below (by kernel_rfl) (by kernel_rfl) ?_
          repeat (first | go_big_quiet_step (first | fail))
          refine wpQuiet_nil ?_
          intro _ hw'
          obtain ⟨⟨dq, osq⟩, hw''⟩ := hw'
          subst hw''
          have hBq := below_regrown wr dq osq
          generalize grow (redrawn wr dq) osq = wq at *
          have HBq := Lib.hid hBq
          clear hBq
          go_wp2_with fail
          go_meet
          exact ⟨by rw [hdd]; rfl, HBq.out⟩
      case rest =>
        obtain ⟨rfl, hBc⟩ := hcut
        have HBr := Lib.hid (below_up hB.out hBc.out)
        have HJ5 := Lib.hid (HJ.out.1.up hBc.out)
        clear hBc HJ
        by_cases hke2 : k = e
        rotate_left
        · have hdd : decide (k = e) = false := decide_eq_false hke2
          have hnx : IntKind.i64.wrap ((at' : Int) + 1) = ((at' + 1 : Nat) : Int) := (IntWalk.i64_in ((at' : Int) + 1) (by omega)).trans (by omega)
          have HNX := Lib.hid (show at' + 1 = atK e (k + 1) by rw [HAT.out]; unfold atK; split <;> split <;> omega)
          simp only [hdd, Bool.not_false]
          clear hke2
          go_wp2_with fail
          go_roundw
          case rel => exact ⟨k + 1, by omega, by rw [← HNX.out]; first | rfl | go_num, by go_num, HBr.out⟩
          case measure => simp [intOf]; omega
        · have hdd : decide (k = e) = true := decide_eq_true hke2
          obtain ⟨hl24', hfacts⟩ := HE.out.loose (by omega)
          obtain ⟨f1, f2, _, _⟩ := hfacts y (by rw [← hke2]; exact HG.out.1)
          have HF2 := Lib.hid f2
          have q14 : wc.cell? ⟨by_, oy + k * 16 + 14, none⟩ = some (.int .u8 y.st) := HJ5.out.2.2.2.2.2.2.2.2.2.2.2.2.2.2.1
          have hst : ¬ y.st < 3 := by omega
          have h24i : ¬ (l.length : Int) < 24 := by omega
          have HNX := Lib.hid (show at' = atK e (k + 1) by rw [HAT.out]; unfold atK; split <;> split <;> omega)
          simp only [hdd, Bool.not_true]
          clear hke2 f1 f2 hfacts hl24'
          go_wp2_with fail
          go_loopw [15] (fun q wq => ∃ n : Nat, n ≤ us.length ∧ q = .int .i64 (n : Int) ∧ Hid (Below wc.heap.size wc wq)) (fun q _ => us.length - (intOf q).toNat)
          case atStart => exact ⟨0, Nat.zero_le _, rfl, Below.refl _ _⟩
          case round =>
            obtain ⟨n, hn, rfl, hBn⟩ := hrel
            by_cases hnl : n < us.length
            · have hgn : us[n]? = some us[n] := List.getElem?_eq_getElem hnl
              generalize us[n] = b at hgn
              have hni : (n : Int) < (us.length : Int) := by omega
              have hni0 : (0 : Int) ≤ (n : Int) := by omega
              obtain ⟨bu, ou, hUe, hbu, hcu⟩ := HU.out.up (below_up HB4.out (below_up HBr.out hBn.out)) n b hgn
              have hne : (b == y.id) = false := by
                have : b ≠ y.id := fun h => HF2.out (by rw [← h]; exact List.mem_of_getElem? hgn)
                simpa using this
              have q0 : wr.cell? ⟨by_, oy + k * 16, none⟩ = some (.int .i64 y.id) := (HJ5.out.up hBn.out).1
              subst hUe
              clear hgn hbu
              go_upto_region 21 with fail
              have kq0 := cell_regrown hcu
              have kq1 := cell_regrown q0
              refine wp_region_quiet_below (by kernel_rfl) (by kernel_rfl) ?_
              repeat (first | go_big_quiet_step (first | fail))
              refine wpQuiet_nil ?_
              intro _ hw'
              obtain ⟨⟨dq, osq⟩, hw''⟩ := hw'
              subst hw''
              have hBq := below_regrown wr dq osq
              clear kq0 kq1
              generalize grow (redrawn wr dq) osq = wq2 at *
              have HBq := Lib.hid (below_up hBn.out hBq)
              clear hBq
              go_wp2_with fail
              go_roundw
              case rel => exact ⟨n + 1, by omega, by go_num, HBq.out⟩
              case measure => simp [intOf]; omega
            · obtain rfl : n = us.length := by omega
              have HBz := Lib.hid (below_up HBr.out hBn.out)
              go_wp2_with fail
              go_roundw
              case rel => exact ⟨k + 1, by omega, by rw [← HNX.out], by go_num, HBz.out⟩
              case measure => simp [intOf]; omega
  
end Go.Proofs.Ytaldgmmmcbikgaa.JobKeepsW
