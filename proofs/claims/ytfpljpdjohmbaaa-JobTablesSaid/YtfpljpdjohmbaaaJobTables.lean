/- JobTables: the walk. -/
import Derived.BigRegion
import Derived.BigQuiet
import Derived.Lib.QuietBelow
import Derived.Deep.QuietTactic
import Derived.Deep.DeepCutAuto
import Derived.Test.YtfpljpdjohmbaaaOpenJob
import Derived.Test.YtfpljpdjohmbaaaJobShape
import Derived.Test.YtfpljpdjohmbaaaJobTable
import Derived.Test.YtfpljpdjohmbaaaJobRef3
import Derived.Test.YtfpljpdjohmbaaaJobRTwin
import Derived.Test.YtfpljpdjohmbaaaJobGreat
import Derived.Test.YtfpljpdjohmbaaaQuietRow
namespace Go.Proofs.Ytfpljpdjohmbaaa.JobTables
open Go.Sort (grow)
open Go.RowKit Mem PosMath PartMath PartClass PartCheck TurnMath TurnWalks TurnFitsV JobMath JobIndex JobPlain JobAfter JobCheck JobFind TurnMap JobTable JobMem JobShape JobTwin JobSame JobRef1 JobRef2 JobRef3 JobRTwin JobRSame JobGreat QuietRow Lay
set_option linter.unusedVariables false
set_option linter.unusedSimpArgs false

set_option maxRecDepth 100000 in
set_option maxHeartbeats 16000000 in
theorem jt_cls (d0 d1 d2 bo fr tr ag : Int) (K : Option Addr) (kc : Nat) (ks : List Cls) (hlk : ks.length ≤ maxLen) (X : Option Addr) (cX : Nat) (l : List JV) (hl : l.length ≤ maxLen) (hla : ∀ j ∈ l, JWf j ∧ j.af.length ≤ maxLen) (O : Option Addr) (cO : Nat) (m : List JV) (hm : m.length ≤ maxLen) (hma : ∀ j ∈ m, JWf j ∧ j.af.length ≤ maxLen) (j : JV) (Y : Option Addr) (cj : Nat) (hj : j.af.length ≤ maxLen) (id : Int) (h0 : (100 : Int) < (ks.length : Int)) (w : World) (hk : ClsAt w w.heap.size K ks) (hX : JobsAt w X l) (hO : JobsAt w O m) (hY : IntsAt w Y j.af) :
    Calls Try.prog 3 #[.agg #[.int .i64 d0, .int .i64 d1, .int .i64 d2, .int .i64 bo, .int .i64 fr, .int .i64 tr, .int .i64 ag, .slice K ks.length kc], .slice X l.length cX, .slice O m.length cO, .agg #[.int .i64 j.id, .int .i64 j.us, .int .i64 j.cl, .int .i64 j.x.a, .int .i64 j.x.b, .int .i64 j.x.c, .bool j.x.p, .bool j.x.q, .bool j.x.r, .bool j.x.tn, .int .i64 j.wa, .int .i64 j.pr, .bool j.he, .slice Y j.af.length cj, .int .u8 j.st, .int .i64 j.ca], .int .i64 id] w fun e w' => e = .returned (.bool true) ∧ Below w.heap.size w w' := by
  unfold maxLen at hlk hl hm hj
  clear hk hX hO hY
  go_enter Try.func3, Try.ntmps3
  go_upto_region 1 with fail
  have kc0 : Blk ((w.alloc (.cells #[.int .i64 d0, .int .i64 d1, .int .i64 d2, .int .i64 bo, .int .i64 fr, .int .i64 tr, .int .i64 ag, .slice K ks.length kc] 26)).alloc (.cells #[.int .i64 j.id, .int .i64 j.us, .int .i64 j.cl, .int .i64 j.x.a, .int .i64 j.x.b, .int .i64 j.x.c, .bool j.x.p, .bool j.x.q, .bool j.x.r, .bool j.x.tn, .int .i64 j.wa, .int .i64 j.pr, .bool j.he, .slice Y j.af.length cj, .int .u8 j.st, .int .i64 j.ca] 33)) w.heap.size 26 #[.int .i64 d0, .int .i64 d1, .int .i64 d2, .int .i64 bo, .int .i64 fr, .int .i64 tr, .int .i64 ag, .slice K ks.length kc] := (Blk.new w _ _).alloc _
  have kj0 : Blk ((w.alloc (.cells #[.int .i64 d0, .int .i64 d1, .int .i64 d2, .int .i64 bo, .int .i64 fr, .int .i64 tr, .int .i64 ag, .slice K ks.length kc] 26)).alloc (.cells #[.int .i64 j.id, .int .i64 j.us, .int .i64 j.cl, .int .i64 j.x.a, .int .i64 j.x.b, .int .i64 j.x.c, .bool j.x.p, .bool j.x.q, .bool j.x.r, .bool j.x.tn, .int .i64 j.wa, .int .i64 j.pr, .bool j.he, .slice Y j.af.length cj, .int .u8 j.st, .int .i64 j.ca] 33)) (w.heap.size + 1) 33 #[.int .i64 j.id, .int .i64 j.us, .int .i64 j.cl, .int .i64 j.x.a, .int .i64 j.x.b, .int .i64 j.x.c, .bool j.x.p, .bool j.x.q, .bool j.x.r, .bool j.x.tn, .int .i64 j.wa, .int .i64 j.pr, .bool j.he, .slice Y j.af.length cj, .int .u8 j.st, .int .i64 j.ca] := blk1 w _ _
  have hb0 : Below w.heap.size w ((w.alloc (.cells #[.int .i64 d0, .int .i64 d1, .int .i64 d2, .int .i64 bo, .int .i64 fr, .int .i64 tr, .int .i64 ag, .slice K ks.length kc] 26)).alloc (.cells #[.int .i64 j.id, .int .i64 j.us, .int .i64 j.cl, .int .i64 j.x.a, .int .i64 j.x.b, .int .i64 j.x.c, .bool j.x.p, .bool j.x.q, .bool j.x.r, .bool j.x.tn, .int .i64 j.wa, .int .i64 j.pr, .bool j.he, .slice Y j.af.length cj, .int .u8 j.st, .int .i64 j.ca] 33)) := below_alloc (below_alloc (Below.refl _ _))
  generalize ((w.alloc (.cells #[.int .i64 d0, .int .i64 d1, .int .i64 d2, .int .i64 bo, .int .i64 fr, .int .i64 tr, .int .i64 ag, .slice K ks.length kc] 26)).alloc (.cells #[.int .i64 j.id, .int .i64 j.us, .int .i64 j.cl, .int .i64 j.x.a, .int .i64 j.x.b, .int .i64 j.x.c, .bool j.x.p, .bool j.x.q, .bool j.x.r, .bool j.x.tn, .int .i64 j.wa, .int .i64 j.pr, .bool j.he, .slice Y j.af.length cj, .int .u8 j.st, .int .i64 j.ca] 33)) = w0 at *
  have HB0 := Lib.hid hb0
  have KC0 := Lib.hid kc0
  have KJ0 := Lib.hid kj0
  have xk : w0.cell? ⟨w.heap.size, 7, none⟩ = some (.slice K ks.length kc) := kc0.cell 7
  clear hb0 kc0 kj0
  go_wp2_with fail
  go_ret
  exact ⟨rfl, HB0.out⟩
set_option maxRecDepth 100000 in
set_option maxHeartbeats 16000000 in
theorem jt_great1 (d0 d1 d2 bo fr tr ag : Int) (K : Option Addr) (kc : Nat) (ks : List Cls) (hlk : ks.length ≤ maxLen) (X : Option Addr) (cX : Nat) (l : List JV) (hl : l.length ≤ maxLen) (hla : ∀ j ∈ l, JWf j ∧ j.af.length ≤ maxLen) (O : Option Addr) (cO : Nat) (m : List JV) (hm : m.length ≤ maxLen) (hma : ∀ j ∈ m, JWf j ∧ j.af.length ≤ maxLen) (j : JV) (Y : Option Addr) (cj : Nat) (hj : j.af.length ≤ maxLen) (id : Int) (h0 : ¬ (100 : Int) < (ks.length : Int)) (h1 : greatB l = true) (w : World) (hk : ClsAt w w.heap.size K ks) (hX : JobsAt w X l) (hO : JobsAt w O m) (hY : IntsAt w Y j.af) :
    Calls Try.prog 3 #[.agg #[.int .i64 d0, .int .i64 d1, .int .i64 d2, .int .i64 bo, .int .i64 fr, .int .i64 tr, .int .i64 ag, .slice K ks.length kc], .slice X l.length cX, .slice O m.length cO, .agg #[.int .i64 j.id, .int .i64 j.us, .int .i64 j.cl, .int .i64 j.x.a, .int .i64 j.x.b, .int .i64 j.x.c, .bool j.x.p, .bool j.x.q, .bool j.x.r, .bool j.x.tn, .int .i64 j.wa, .int .i64 j.pr, .bool j.he, .slice Y j.af.length cj, .int .u8 j.st, .int .i64 j.ca], .int .i64 id] w fun e w' => e = .returned (.bool true) ∧ Below w.heap.size w w' := by
  unfold maxLen at hlk hl hm hj
  have HG1 := Lib.hid (fun w h => great_big X cX l (by omega) (fun j hj => by have := (hla j hj).2; unfold maxLen at this; omega) w h)
  rw [h1] at HG1
  have HX := Lib.hid hX
  clear hk hX hO hY h1
  go_enter Try.func3, Try.ntmps3
  go_upto_region 1 with fail
  have kc0 : Blk ((w.alloc (.cells #[.int .i64 d0, .int .i64 d1, .int .i64 d2, .int .i64 bo, .int .i64 fr, .int .i64 tr, .int .i64 ag, .slice K ks.length kc] 26)).alloc (.cells #[.int .i64 j.id, .int .i64 j.us, .int .i64 j.cl, .int .i64 j.x.a, .int .i64 j.x.b, .int .i64 j.x.c, .bool j.x.p, .bool j.x.q, .bool j.x.r, .bool j.x.tn, .int .i64 j.wa, .int .i64 j.pr, .bool j.he, .slice Y j.af.length cj, .int .u8 j.st, .int .i64 j.ca] 33)) w.heap.size 26 #[.int .i64 d0, .int .i64 d1, .int .i64 d2, .int .i64 bo, .int .i64 fr, .int .i64 tr, .int .i64 ag, .slice K ks.length kc] := (Blk.new w _ _).alloc _
  have kj0 : Blk ((w.alloc (.cells #[.int .i64 d0, .int .i64 d1, .int .i64 d2, .int .i64 bo, .int .i64 fr, .int .i64 tr, .int .i64 ag, .slice K ks.length kc] 26)).alloc (.cells #[.int .i64 j.id, .int .i64 j.us, .int .i64 j.cl, .int .i64 j.x.a, .int .i64 j.x.b, .int .i64 j.x.c, .bool j.x.p, .bool j.x.q, .bool j.x.r, .bool j.x.tn, .int .i64 j.wa, .int .i64 j.pr, .bool j.he, .slice Y j.af.length cj, .int .u8 j.st, .int .i64 j.ca] 33)) (w.heap.size + 1) 33 #[.int .i64 j.id, .int .i64 j.us, .int .i64 j.cl, .int .i64 j.x.a, .int .i64 j.x.b, .int .i64 j.x.c, .bool j.x.p, .bool j.x.q, .bool j.x.r, .bool j.x.tn, .int .i64 j.wa, .int .i64 j.pr, .bool j.he, .slice Y j.af.length cj, .int .u8 j.st, .int .i64 j.ca] := blk1 w _ _
  have hb0 : Below w.heap.size w ((w.alloc (.cells #[.int .i64 d0, .int .i64 d1, .int .i64 d2, .int .i64 bo, .int .i64 fr, .int .i64 tr, .int .i64 ag, .slice K ks.length kc] 26)).alloc (.cells #[.int .i64 j.id, .int .i64 j.us, .int .i64 j.cl, .int .i64 j.x.a, .int .i64 j.x.b, .int .i64 j.x.c, .bool j.x.p, .bool j.x.q, .bool j.x.r, .bool j.x.tn, .int .i64 j.wa, .int .i64 j.pr, .bool j.he, .slice Y j.af.length cj, .int .u8 j.st, .int .i64 j.ca] 33)) := below_alloc (below_alloc (Below.refl _ _))
  generalize ((w.alloc (.cells #[.int .i64 d0, .int .i64 d1, .int .i64 d2, .int .i64 bo, .int .i64 fr, .int .i64 tr, .int .i64 ag, .slice K ks.length kc] 26)).alloc (.cells #[.int .i64 j.id, .int .i64 j.us, .int .i64 j.cl, .int .i64 j.x.a, .int .i64 j.x.b, .int .i64 j.x.c, .bool j.x.p, .bool j.x.q, .bool j.x.r, .bool j.x.tn, .int .i64 j.wa, .int .i64 j.pr, .bool j.he, .slice Y j.af.length cj, .int .u8 j.st, .int .i64 j.ca] 33)) = w0 at *
  have HB0 := Lib.hid hb0
  have KC0 := Lib.hid kc0
  have KJ0 := Lib.hid kj0
  have xk : w0.cell? ⟨w.heap.size, 7, none⟩ = some (.slice K ks.length kc) := kc0.cell 7
  clear hb0 kc0 kj0
  go_wp2_with fail
  refine (HG1.out _ (HX.out.up HB0.out)).mono ?_
  rintro e w1 ⟨rfl, hB1⟩
  have HB1 := Lib.hid (below_up HB0.out hB1)
  have KC1 := Lib.hid (KC0.out.below hB1 KC0.out.lt)
  have KJ1 := Lib.hid (KJ0.out.below hB1 KJ0.out.lt)
  clear hB1 KC0 KJ0
  go_wp2_with fail
  go_ret
  exact ⟨rfl, HB1.out⟩
set_option maxRecDepth 100000 in
set_option maxHeartbeats 16000000 in
theorem jt_great2 (d0 d1 d2 bo fr tr ag : Int) (K : Option Addr) (kc : Nat) (ks : List Cls) (hlk : ks.length ≤ maxLen) (X : Option Addr) (cX : Nat) (l : List JV) (hl : l.length ≤ maxLen) (hla : ∀ j ∈ l, JWf j ∧ j.af.length ≤ maxLen) (O : Option Addr) (cO : Nat) (m : List JV) (hm : m.length ≤ maxLen) (hma : ∀ j ∈ m, JWf j ∧ j.af.length ≤ maxLen) (j : JV) (Y : Option Addr) (cj : Nat) (hj : j.af.length ≤ maxLen) (id : Int) (h0 : ¬ (100 : Int) < (ks.length : Int)) (h1 : greatB l = false) (h2 : greatB m = true) (w : World) (hk : ClsAt w w.heap.size K ks) (hX : JobsAt w X l) (hO : JobsAt w O m) (hY : IntsAt w Y j.af) :
    Calls Try.prog 3 #[.agg #[.int .i64 d0, .int .i64 d1, .int .i64 d2, .int .i64 bo, .int .i64 fr, .int .i64 tr, .int .i64 ag, .slice K ks.length kc], .slice X l.length cX, .slice O m.length cO, .agg #[.int .i64 j.id, .int .i64 j.us, .int .i64 j.cl, .int .i64 j.x.a, .int .i64 j.x.b, .int .i64 j.x.c, .bool j.x.p, .bool j.x.q, .bool j.x.r, .bool j.x.tn, .int .i64 j.wa, .int .i64 j.pr, .bool j.he, .slice Y j.af.length cj, .int .u8 j.st, .int .i64 j.ca], .int .i64 id] w fun e w' => e = .returned (.bool true) ∧ Below w.heap.size w w' := by
  unfold maxLen at hlk hl hm hj
  have HG1 := Lib.hid (fun w h => great_big X cX l (by omega) (fun j hj => by have := (hla j hj).2; unfold maxLen at this; omega) w h)
  have HG2 := Lib.hid (fun w h => great_big O cO m (by omega) (fun j hj => by have := (hma j hj).2; unfold maxLen at this; omega) w h)
  rw [h1] at HG1
  rw [h2] at HG2
  have HX := Lib.hid hX
  have HO := Lib.hid hO
  clear hk hX hO hY h1 h2
  go_enter Try.func3, Try.ntmps3
  go_upto_region 1 with fail
  have kc0 : Blk ((w.alloc (.cells #[.int .i64 d0, .int .i64 d1, .int .i64 d2, .int .i64 bo, .int .i64 fr, .int .i64 tr, .int .i64 ag, .slice K ks.length kc] 26)).alloc (.cells #[.int .i64 j.id, .int .i64 j.us, .int .i64 j.cl, .int .i64 j.x.a, .int .i64 j.x.b, .int .i64 j.x.c, .bool j.x.p, .bool j.x.q, .bool j.x.r, .bool j.x.tn, .int .i64 j.wa, .int .i64 j.pr, .bool j.he, .slice Y j.af.length cj, .int .u8 j.st, .int .i64 j.ca] 33)) w.heap.size 26 #[.int .i64 d0, .int .i64 d1, .int .i64 d2, .int .i64 bo, .int .i64 fr, .int .i64 tr, .int .i64 ag, .slice K ks.length kc] := (Blk.new w _ _).alloc _
  have kj0 : Blk ((w.alloc (.cells #[.int .i64 d0, .int .i64 d1, .int .i64 d2, .int .i64 bo, .int .i64 fr, .int .i64 tr, .int .i64 ag, .slice K ks.length kc] 26)).alloc (.cells #[.int .i64 j.id, .int .i64 j.us, .int .i64 j.cl, .int .i64 j.x.a, .int .i64 j.x.b, .int .i64 j.x.c, .bool j.x.p, .bool j.x.q, .bool j.x.r, .bool j.x.tn, .int .i64 j.wa, .int .i64 j.pr, .bool j.he, .slice Y j.af.length cj, .int .u8 j.st, .int .i64 j.ca] 33)) (w.heap.size + 1) 33 #[.int .i64 j.id, .int .i64 j.us, .int .i64 j.cl, .int .i64 j.x.a, .int .i64 j.x.b, .int .i64 j.x.c, .bool j.x.p, .bool j.x.q, .bool j.x.r, .bool j.x.tn, .int .i64 j.wa, .int .i64 j.pr, .bool j.he, .slice Y j.af.length cj, .int .u8 j.st, .int .i64 j.ca] := blk1 w _ _
  have hb0 : Below w.heap.size w ((w.alloc (.cells #[.int .i64 d0, .int .i64 d1, .int .i64 d2, .int .i64 bo, .int .i64 fr, .int .i64 tr, .int .i64 ag, .slice K ks.length kc] 26)).alloc (.cells #[.int .i64 j.id, .int .i64 j.us, .int .i64 j.cl, .int .i64 j.x.a, .int .i64 j.x.b, .int .i64 j.x.c, .bool j.x.p, .bool j.x.q, .bool j.x.r, .bool j.x.tn, .int .i64 j.wa, .int .i64 j.pr, .bool j.he, .slice Y j.af.length cj, .int .u8 j.st, .int .i64 j.ca] 33)) := below_alloc (below_alloc (Below.refl _ _))
  generalize ((w.alloc (.cells #[.int .i64 d0, .int .i64 d1, .int .i64 d2, .int .i64 bo, .int .i64 fr, .int .i64 tr, .int .i64 ag, .slice K ks.length kc] 26)).alloc (.cells #[.int .i64 j.id, .int .i64 j.us, .int .i64 j.cl, .int .i64 j.x.a, .int .i64 j.x.b, .int .i64 j.x.c, .bool j.x.p, .bool j.x.q, .bool j.x.r, .bool j.x.tn, .int .i64 j.wa, .int .i64 j.pr, .bool j.he, .slice Y j.af.length cj, .int .u8 j.st, .int .i64 j.ca] 33)) = w0 at *
  have HB0 := Lib.hid hb0
  have KC0 := Lib.hid kc0
  have KJ0 := Lib.hid kj0
  have xk : w0.cell? ⟨w.heap.size, 7, none⟩ = some (.slice K ks.length kc) := kc0.cell 7
  clear hb0 kc0 kj0
  go_wp2_with fail
  refine (HG1.out _ (HX.out.up HB0.out)).mono ?_
  rintro e w1 ⟨rfl, hB1⟩
  have HB1 := Lib.hid (below_up HB0.out hB1)
  have KC1 := Lib.hid (KC0.out.below hB1 KC0.out.lt)
  have KJ1 := Lib.hid (KJ0.out.below hB1 KJ0.out.lt)
  clear hB1 KC0 KJ0
  go_wp2_with fail
  refine (HG2.out _ (HO.out.up HB1.out)).mono ?_
  rintro e w2 ⟨rfl, hB2⟩
  have HB2 := Lib.hid (below_up HB1.out hB2)
  have KC2 := Lib.hid (KC1.out.below hB2 KC1.out.lt)
  have KJ2 := Lib.hid (KJ1.out.below hB2 KJ1.out.lt)
  clear hB2 KC1 KJ1
  go_wp2_with fail
  go_ret
  exact ⟨rfl, HB2.out⟩
set_option maxRecDepth 100000 in
set_option maxHeartbeats 16000000 in
theorem jt_after (d0 d1 d2 bo fr tr ag : Int) (K : Option Addr) (kc : Nat) (ks : List Cls) (hlk : ks.length ≤ maxLen) (X : Option Addr) (cX : Nat) (l : List JV) (hl : l.length ≤ maxLen) (hla : ∀ j ∈ l, JWf j ∧ j.af.length ≤ maxLen) (O : Option Addr) (cO : Nat) (m : List JV) (hm : m.length ≤ maxLen) (hma : ∀ j ∈ m, JWf j ∧ j.af.length ≤ maxLen) (j : JV) (Y : Option Addr) (cj : Nat) (hj : j.af.length ≤ maxLen) (id : Int) (h0 : ¬ (100 : Int) < (ks.length : Int)) (h1 : greatB l = false) (h2 : greatB m = false) (h3 : (100 : Int) < (j.af.length : Int)) (w : World) (hk : ClsAt w w.heap.size K ks) (hX : JobsAt w X l) (hO : JobsAt w O m) (hY : IntsAt w Y j.af) :
    Calls Try.prog 3 #[.agg #[.int .i64 d0, .int .i64 d1, .int .i64 d2, .int .i64 bo, .int .i64 fr, .int .i64 tr, .int .i64 ag, .slice K ks.length kc], .slice X l.length cX, .slice O m.length cO, .agg #[.int .i64 j.id, .int .i64 j.us, .int .i64 j.cl, .int .i64 j.x.a, .int .i64 j.x.b, .int .i64 j.x.c, .bool j.x.p, .bool j.x.q, .bool j.x.r, .bool j.x.tn, .int .i64 j.wa, .int .i64 j.pr, .bool j.he, .slice Y j.af.length cj, .int .u8 j.st, .int .i64 j.ca], .int .i64 id] w fun e w' => e = .returned (.bool true) ∧ Below w.heap.size w w' := by
  unfold maxLen at hlk hl hm hj
  have HG1 := Lib.hid (fun w h => great_big X cX l (by omega) (fun j hj => by have := (hla j hj).2; unfold maxLen at this; omega) w h)
  have HG2 := Lib.hid (fun w h => great_big O cO m (by omega) (fun j hj => by have := (hma j hj).2; unfold maxLen at this; omega) w h)
  rw [h1] at HG1
  rw [h2] at HG2
  have HX := Lib.hid hX
  have HO := Lib.hid hO
  clear hk hX hO hY h1 h2
  go_enter Try.func3, Try.ntmps3
  go_upto_region 1 with fail
  have kc0 : Blk ((w.alloc (.cells #[.int .i64 d0, .int .i64 d1, .int .i64 d2, .int .i64 bo, .int .i64 fr, .int .i64 tr, .int .i64 ag, .slice K ks.length kc] 26)).alloc (.cells #[.int .i64 j.id, .int .i64 j.us, .int .i64 j.cl, .int .i64 j.x.a, .int .i64 j.x.b, .int .i64 j.x.c, .bool j.x.p, .bool j.x.q, .bool j.x.r, .bool j.x.tn, .int .i64 j.wa, .int .i64 j.pr, .bool j.he, .slice Y j.af.length cj, .int .u8 j.st, .int .i64 j.ca] 33)) w.heap.size 26 #[.int .i64 d0, .int .i64 d1, .int .i64 d2, .int .i64 bo, .int .i64 fr, .int .i64 tr, .int .i64 ag, .slice K ks.length kc] := (Blk.new w _ _).alloc _
  have kj0 : Blk ((w.alloc (.cells #[.int .i64 d0, .int .i64 d1, .int .i64 d2, .int .i64 bo, .int .i64 fr, .int .i64 tr, .int .i64 ag, .slice K ks.length kc] 26)).alloc (.cells #[.int .i64 j.id, .int .i64 j.us, .int .i64 j.cl, .int .i64 j.x.a, .int .i64 j.x.b, .int .i64 j.x.c, .bool j.x.p, .bool j.x.q, .bool j.x.r, .bool j.x.tn, .int .i64 j.wa, .int .i64 j.pr, .bool j.he, .slice Y j.af.length cj, .int .u8 j.st, .int .i64 j.ca] 33)) (w.heap.size + 1) 33 #[.int .i64 j.id, .int .i64 j.us, .int .i64 j.cl, .int .i64 j.x.a, .int .i64 j.x.b, .int .i64 j.x.c, .bool j.x.p, .bool j.x.q, .bool j.x.r, .bool j.x.tn, .int .i64 j.wa, .int .i64 j.pr, .bool j.he, .slice Y j.af.length cj, .int .u8 j.st, .int .i64 j.ca] := blk1 w _ _
  have hb0 : Below w.heap.size w ((w.alloc (.cells #[.int .i64 d0, .int .i64 d1, .int .i64 d2, .int .i64 bo, .int .i64 fr, .int .i64 tr, .int .i64 ag, .slice K ks.length kc] 26)).alloc (.cells #[.int .i64 j.id, .int .i64 j.us, .int .i64 j.cl, .int .i64 j.x.a, .int .i64 j.x.b, .int .i64 j.x.c, .bool j.x.p, .bool j.x.q, .bool j.x.r, .bool j.x.tn, .int .i64 j.wa, .int .i64 j.pr, .bool j.he, .slice Y j.af.length cj, .int .u8 j.st, .int .i64 j.ca] 33)) := below_alloc (below_alloc (Below.refl _ _))
  generalize ((w.alloc (.cells #[.int .i64 d0, .int .i64 d1, .int .i64 d2, .int .i64 bo, .int .i64 fr, .int .i64 tr, .int .i64 ag, .slice K ks.length kc] 26)).alloc (.cells #[.int .i64 j.id, .int .i64 j.us, .int .i64 j.cl, .int .i64 j.x.a, .int .i64 j.x.b, .int .i64 j.x.c, .bool j.x.p, .bool j.x.q, .bool j.x.r, .bool j.x.tn, .int .i64 j.wa, .int .i64 j.pr, .bool j.he, .slice Y j.af.length cj, .int .u8 j.st, .int .i64 j.ca] 33)) = w0 at *
  have HB0 := Lib.hid hb0
  have KC0 := Lib.hid kc0
  have KJ0 := Lib.hid kj0
  have xk : w0.cell? ⟨w.heap.size, 7, none⟩ = some (.slice K ks.length kc) := kc0.cell 7
  clear hb0 kc0 kj0
  go_wp2_with fail
  refine (HG1.out _ (HX.out.up HB0.out)).mono ?_
  rintro e w1 ⟨rfl, hB1⟩
  have HB1 := Lib.hid (below_up HB0.out hB1)
  have KC1 := Lib.hid (KC0.out.below hB1 KC0.out.lt)
  have KJ1 := Lib.hid (KJ0.out.below hB1 KJ0.out.lt)
  clear hB1 KC0 KJ0
  go_wp2_with fail
  refine (HG2.out _ (HO.out.up HB1.out)).mono ?_
  rintro e w2 ⟨rfl, hB2⟩
  have HB2 := Lib.hid (below_up HB1.out hB2)
  have KC2 := Lib.hid (KC1.out.below hB2 KC1.out.lt)
  have KJ2 := Lib.hid (KJ1.out.below hB2 KJ1.out.lt)
  clear hB2 KC1 KJ1
  have x13 : w2.cell? ⟨w.heap.size + 1, 13, none⟩ = some (.slice Y j.af.length cj) := KJ2.out.cell 13
  go_wp2_with fail
  go_ret
  exact ⟨rfl, HB2.out⟩
set_option maxRecDepth 100000 in
set_option maxHeartbeats 16000000 in
theorem jt_main (d0 d1 d2 bo fr tr ag : Int) (K : Option Addr) (kc : Nat) (ks : List Cls) (hlk : ks.length ≤ maxLen) (X : Option Addr) (cX : Nat) (l : List JV) (hl : l.length ≤ maxLen) (hla : ∀ j ∈ l, JWf j ∧ j.af.length ≤ maxLen) (O : Option Addr) (cO : Nat) (m : List JV) (hm : m.length ≤ maxLen) (hma : ∀ j ∈ m, JWf j ∧ j.af.length ≤ maxLen) (j : JV) (Y : Option Addr) (cj : Nat) (hj : j.af.length ≤ maxLen) (id : Int) (h0 : ¬ (100 : Int) < (ks.length : Int)) (h1 : greatB l = false) (h2 : greatB m = false) (h3 : ¬ (100 : Int) < (j.af.length : Int)) (w : World) (hk : ClsAt w w.heap.size K ks) (hX : JobsAt w X l) (hO : JobsAt w O m) (hY : IntsAt w Y j.af) :
    Calls Try.prog 3 #[.agg #[.int .i64 d0, .int .i64 d1, .int .i64 d2, .int .i64 bo, .int .i64 fr, .int .i64 tr, .int .i64 ag, .slice K ks.length kc], .slice X l.length cX, .slice O m.length cO, .agg #[.int .i64 j.id, .int .i64 j.us, .int .i64 j.cl, .int .i64 j.x.a, .int .i64 j.x.b, .int .i64 j.x.c, .bool j.x.p, .bool j.x.q, .bool j.x.r, .bool j.x.tn, .int .i64 j.wa, .int .i64 j.pr, .bool j.he, .slice Y j.af.length cj, .int .u8 j.st, .int .i64 j.ca], .int .i64 id] w fun e w' => e = .returned (.bool true) ∧ Below w.heap.size w w' := by
  unfold maxLen at hlk hl hm hj
  have HG1 := Lib.hid (fun w h => great_big X cX l (by omega) (fun j hj => by have := (hla j hj).2; unfold maxLen at this; omega) w h)
  have HG2 := Lib.hid (fun w h => great_big O cO m (by omega) (fun j hj => by have := (hma j hj).2; unfold maxLen at this; omega) w h)
  rw [h1] at HG1
  rw [h2] at HG2
  obtain ⟨hl1, hl2⟩ := great_not h1
  obtain ⟨hm1, hm2⟩ := great_not h2
  have hlw : ∀ j ∈ l, WWf j.x ∧ j.af.length ≤ 1000 := fun j hj => ⟨(hla j hj).1.2.2.2.1, by have := hl2 j hj; omega⟩
  have hmw : ∀ j ∈ m, WWf j.x ∧ j.af.length ≤ 1000 := fun j hj => ⟨(hma j hj).1.2.2.2.1, by have := hm2 j hj; omega⟩
  have hl4 : ∀ j ∈ l, j.af.length ≤ 4611686018427387904 := fun j hj => by have := hl2 j hj; omega
  have HX := Lib.hid hX
  have HO := Lib.hid hO
  have HK := Lib.hid hk
  have HY := Lib.hid hY
  have HT1 := Lib.hid (fun w h => rtwin X cX l (by omega) (fun j hj => (hlw j hj).2) w h)
  have HT2 := Lib.hid (fun X1 c1 w h => twin_any X1 c1 l (by omega) (fun j hj => (hlw j hj).2) w h)
  have HF1 := Lib.hid (fun X1 c1 w h => find_any X1 c1 l id (by omega) w h)
  have HF2 := Lib.hid (fun w h => rfind X cX l id (by omega) w h)
  have HCa := Lib.hid (fun w hk hY => jCheck d0 d1 d2 bo fr tr ag K kc ks j Y cj (by omega) (by omega) w hk hY)
  have HCb := Lib.hid (fun w hk hY => rCheck d0 d1 d2 bo fr tr ag K kc ks j Y cj (by omega) (by omega) w hk hY)
  have HTa := Lib.hid (fun X1 c1 w hk hX => table_any d0 d1 d2 bo fr tr ag K kc ks (by omega) X1 c1 l (by omega) hl4 w hk hX)
  have HTb := Lib.hid (fun w hk hX => rtable_any d0 d1 d2 bo fr tr ag K kc ks (by omega) X cX l (by omega) hl4 w hk hX)
  have HSa := Lib.hid (fun X1 c1 w hX hO => jSame X1 O c1 cO l m (by omega) (by omega) hlw hmw w hX hO)
  have HSb := Lib.hid (fun w hX hO => rSame X O cX cO l m (by omega) (by omega) hlw hmw w hX hO)
  have HSc := Lib.hid (fun X1 c1 w hX hO => rSame X1 X c1 cX l l (by omega) (by omega) hlw hlw w hX hO)
  rw [decide_eq_true (rfl : l = l)] at HSc
  generalize CheckV d0 d1 d2 bo fr tr ag ks j = VC at *
  generalize tableV d0 d1 d2 bo fr tr ag ks l = VT at *
  generalize findV l id = VF at *
  generalize decide (l = m) = VS at *
  clear hk hX hO hY h1 h2 hla hma hlw hmw hl4 hm2
  go_enter Try.func3, Try.ntmps3
  go_upto_region 1 with fail
  have kc0 : Blk ((w.alloc (.cells #[.int .i64 d0, .int .i64 d1, .int .i64 d2, .int .i64 bo, .int .i64 fr, .int .i64 tr, .int .i64 ag, .slice K ks.length kc] 26)).alloc (.cells #[.int .i64 j.id, .int .i64 j.us, .int .i64 j.cl, .int .i64 j.x.a, .int .i64 j.x.b, .int .i64 j.x.c, .bool j.x.p, .bool j.x.q, .bool j.x.r, .bool j.x.tn, .int .i64 j.wa, .int .i64 j.pr, .bool j.he, .slice Y j.af.length cj, .int .u8 j.st, .int .i64 j.ca] 33)) w.heap.size 26 #[.int .i64 d0, .int .i64 d1, .int .i64 d2, .int .i64 bo, .int .i64 fr, .int .i64 tr, .int .i64 ag, .slice K ks.length kc] := (Blk.new w _ _).alloc _
  have kj0 : Blk ((w.alloc (.cells #[.int .i64 d0, .int .i64 d1, .int .i64 d2, .int .i64 bo, .int .i64 fr, .int .i64 tr, .int .i64 ag, .slice K ks.length kc] 26)).alloc (.cells #[.int .i64 j.id, .int .i64 j.us, .int .i64 j.cl, .int .i64 j.x.a, .int .i64 j.x.b, .int .i64 j.x.c, .bool j.x.p, .bool j.x.q, .bool j.x.r, .bool j.x.tn, .int .i64 j.wa, .int .i64 j.pr, .bool j.he, .slice Y j.af.length cj, .int .u8 j.st, .int .i64 j.ca] 33)) (w.heap.size + 1) 33 #[.int .i64 j.id, .int .i64 j.us, .int .i64 j.cl, .int .i64 j.x.a, .int .i64 j.x.b, .int .i64 j.x.c, .bool j.x.p, .bool j.x.q, .bool j.x.r, .bool j.x.tn, .int .i64 j.wa, .int .i64 j.pr, .bool j.he, .slice Y j.af.length cj, .int .u8 j.st, .int .i64 j.ca] := blk1 w _ _
  have hb0 : Below w.heap.size w ((w.alloc (.cells #[.int .i64 d0, .int .i64 d1, .int .i64 d2, .int .i64 bo, .int .i64 fr, .int .i64 tr, .int .i64 ag, .slice K ks.length kc] 26)).alloc (.cells #[.int .i64 j.id, .int .i64 j.us, .int .i64 j.cl, .int .i64 j.x.a, .int .i64 j.x.b, .int .i64 j.x.c, .bool j.x.p, .bool j.x.q, .bool j.x.r, .bool j.x.tn, .int .i64 j.wa, .int .i64 j.pr, .bool j.he, .slice Y j.af.length cj, .int .u8 j.st, .int .i64 j.ca] 33)) := below_alloc (below_alloc (Below.refl _ _))
  generalize ((w.alloc (.cells #[.int .i64 d0, .int .i64 d1, .int .i64 d2, .int .i64 bo, .int .i64 fr, .int .i64 tr, .int .i64 ag, .slice K ks.length kc] 26)).alloc (.cells #[.int .i64 j.id, .int .i64 j.us, .int .i64 j.cl, .int .i64 j.x.a, .int .i64 j.x.b, .int .i64 j.x.c, .bool j.x.p, .bool j.x.q, .bool j.x.r, .bool j.x.tn, .int .i64 j.wa, .int .i64 j.pr, .bool j.he, .slice Y j.af.length cj, .int .u8 j.st, .int .i64 j.ca] 33)) = w0 at *
  have HB0 := Lib.hid hb0
  have KC0 := Lib.hid kc0
  have KJ0 := Lib.hid kj0
  have xk : w0.cell? ⟨w.heap.size, 7, none⟩ = some (.slice K ks.length kc) := kc0.cell 7
  clear hb0 kc0 kj0
  go_wp2_with fail
  refine (HG1.out _ (HX.out.up HB0.out)).mono ?_
  rintro e w1 ⟨rfl, hB1⟩
  have HB1 := Lib.hid (below_up HB0.out hB1)
  have KC1 := Lib.hid (KC0.out.below hB1 KC0.out.lt)
  have KJ1 := Lib.hid (KJ0.out.below hB1 KJ0.out.lt)
  clear hB1 KC0 KJ0
  go_wp2_with fail
  refine (HG2.out _ (HO.out.up HB1.out)).mono ?_
  rintro e w2 ⟨rfl, hB2⟩
  have HB2 := Lib.hid (below_up HB1.out hB2)
  have KC2 := Lib.hid (KC1.out.below hB2 KC1.out.lt)
  have KJ2 := Lib.hid (KJ1.out.below hB2 KJ1.out.lt)
  clear hB2 KC1 KJ1
  have x13 : w2.cell? ⟨w.heap.size + 1, 13, none⟩ = some (.slice Y j.af.length cj) := KJ2.out.cell 13
  clear xk
  go_wp2_with fail
  clear x13
  refine (HT1.out _ (HX.out.up HB2.out)).mono ?_
  rintro e w3 ⟨X1, q1, rfl, hO1, hB3⟩
  have HB3 := Lib.hid (below_up HB2.out hB3)
  have KC3 := Lib.hid (KC2.out.below hB3 KC2.out.lt)
  have KJ3 := Lib.hid (KJ2.out.below hB3 KJ2.out.lt)
  have HO1 := Lib.hid hO1.jobs
  clear hO1
  clear hB3 KC2 KJ2
  go_wp2_with fail
  refine (HF1.out X1 q1 _ HO1.out).mono ?_
  rintro e w4 ⟨rfl, hB4⟩
  have HB4 := Lib.hid (below_up HB3.out hB4)
  have KC4 := Lib.hid (KC3.out.below hB4 KC3.out.lt)
  have KJ4 := Lib.hid (KJ3.out.below hB4 KJ3.out.lt)
  have HO2 := Lib.hid (HO1.out.up hB4)
  clear HO1
  clear hB4 KC3 KJ3
  go_wp2_with fail
  refine (HF2.out _ (HX.out.up HB4.out)).mono ?_
  rintro e w5 ⟨rfl, hB5⟩
  have HB5 := Lib.hid (below_up HB4.out hB5)
  have KC5 := Lib.hid (KC4.out.below hB5 KC4.out.lt)
  have KJ5 := Lib.hid (KJ4.out.below hB5 KJ4.out.lt)
  have HO3 := Lib.hid (HO2.out.up hB5)
  clear HO2
  clear hB5 KC4 KJ4
  go_wp2_with fail
  refine (HT2.out X1 q1 _ HO3.out).mono ?_
  rintro e w6 ⟨X2, q2, rfl, hO2, hB6⟩
  have HB6 := Lib.hid (below_up HB5.out hB6)
  have KC6 := Lib.hid (KC5.out.below hB6 KC5.out.lt)
  have KJ6 := Lib.hid (KJ5.out.below hB6 KJ5.out.lt)
  have HB56 := Lib.hid hB6
  have HN := Lib.hid hO2
  clear hO2
  clear hB6 KC5 KJ5
  have HSbc := Lib.hid (fun (A : Option Addr) (cA : Nat) (a : List JV) (B : Option Addr) (cB : Nat) (b : List JV) (r : Bool) (h : (A = X ∧ cA = cX ∧ a = l ∧ B = O ∧ cB = cO ∧ b = m ∧ r = VS) ∨ (A = X2 ∧ cA = q2 ∧ a = l ∧ B = X ∧ cB = cX ∧ b = l ∧ r = true)) (w' : World) (hB : Below w6.heap.size w6 w') =>
    (show Calls Try.prog 27 #[.slice A a.length cA, .slice B b.length cB] w' (fun e w'' => e = .returned (.bool r) ∧ Below w'.heap.size w' w'') from by
      rcases h with ⟨e1, e2, e3, e4, e5, e6, e7⟩ | ⟨e1, e2, e3, e4, e5, e6, e7⟩
      · rw [e1, e2, e3, e4, e5, e6, e7]
        exact HSb.out w' ((HX.out.up HB6.out).up hB) ((HO.out.up HB6.out).up hB)
      · rw [e1, e2, e3, e4, e5, e6, e7]
        exact HSc.out X2 q2 w' ((JobsOwn.jobs HN.out).up hB) ((HX.out.up HB6.out).up hB)))
  go_wp2_with fail
  refine wp_region_quiet_below (by kernel_rfl) (by kernel_rfl) ?_
  repeat (first | (refine quiet_load_row (by rfl) 26 _ rfl _ rfl 26 #[.int .i64 d0, .int .i64 d1, .int .i64 d2, .int .i64 bo, .int .i64 fr, .int .i64 tr, .int .i64 ag, .slice K ks.length kc] KC6.out _ Try.underlying26 rfl (by kernel_rfl) ?_; simp only [Act.put, List.setIfInBounds_toArray, List.set_cons_zero, List.set_cons_succ]) | (refine quiet_load_row (by rfl) 33 _ rfl _ rfl 33 #[.int .i64 j.id, .int .i64 j.us, .int .i64 j.cl, .int .i64 j.x.a, .int .i64 j.x.b, .int .i64 j.x.c, .bool j.x.p, .bool j.x.q, .bool j.x.r, .bool j.x.tn, .int .i64 j.wa, .int .i64 j.pr, .bool j.he, .slice Y j.af.length cj, .int .u8 j.st, .int .i64 j.ca] KJ6.out _ Try.underlying33 rfl (by kernel_rfl) ?_; simp only [Act.put, List.setIfInBounds_toArray, List.set_cons_zero, List.set_cons_succ]) | go_big_quiet_step (first | fail | exact Calls.regrown_of (HCa.out _ ((HK.out.up HB6.out).up (below_regrown _ _ _)) ((HY.out.up HB6.out).up (below_regrown _ _ _))) | exact Calls.regrown_of (HCb.out _ ((HK.out.up HB6.out).up (below_regrown _ _ _)) ((HY.out.up HB6.out).up (below_regrown _ _ _))) | exact Calls.regrown_of (HTa.out X1 q1 _ ((HK.out.up HB6.out).up (below_regrown _ _ _)) ((HO3.out.up HB56.out).up (below_regrown _ _ _))) | exact Calls.regrown_of (HTb.out _ ((HK.out.up HB6.out).up (below_regrown _ _ _)) ((HX.out.up HB6.out).up (below_regrown _ _ _))) | exact Calls.regrown_of (HSa.out X1 q1 _ ((HO3.out.up HB56.out).up (below_regrown _ _ _)) ((HO.out.up HB6.out).up (below_regrown _ _ _))) | exact Calls.regrown_of (HSbc.out _ _ _ _ _ _ _ (by first | exact Or.inl ⟨rfl, rfl, rfl, rfl, rfl, rfl, rfl⟩ | exact Or.inr ⟨rfl, rfl, rfl, rfl, rfl, rfl, rfl⟩) _ (below_regrown _ _ _))))
  refine wpQuiet_nil ?_
  intro _ hw'
  obtain ⟨⟨dq, osq⟩, hw''⟩ := hw'
  subst hw''
  have hBq := below_regrown w6 dq osq
  generalize grow (redrawn w6 dq) osq = w7 at *
  have HB7 := Lib.hid (HB56.out.trans (hBq.mono HB56.out.size))
  have HS7 := Lib.hid ((JobsOwn.shape HN.out).up hBq)
  have HBw := Lib.hid (below_up HB6.out hBq)
  clear hBq KC6 KJ6 
  go_wp2_with fail
  have hns : (lens l).length = l.length := by simp [lens]
  go_loopw [17] (fun i wr => ∃ k : Nat, k ≤ l.length ∧ i = .int .i64 k ∧ Hid (Below w5.heap.size w5 wr) ∧ Hid (Shape wr w5.heap.size X2 (lens l)))
    (fun i _ => l.length - (intOf i).toNat)
  case atStart => exact ⟨0, Nat.zero_le _, rfl, HB7.out, HS7.out⟩
  case round =>
    obtain ⟨k, hk, rfl, hB, hS⟩ := hrel
    clear HB7 HS7
    by_cases hlt : k < l.length
    · have hg : (lens l)[k]? = some (lens l)[k] := List.getElem?_eq_getElem (by omega)
      have hnm : (lens l)[k]'(by omega) ≤ 100 := by
        have : (lens l)[k]'(by omega) = (l[k]'hlt).af.length := by simp [lens]
        rw [this]
        exact hl2 _ (List.getElem_mem hlt)
      generalize (lens l)[k]'(by omega) = n at hg hnm
      have hki : (k : Int) < (l.length : Int) := by omega
      have hki0 : (0 : Int) ≤ (k : Int) := by omega
      obtain ⟨g, Ya, ca, rfl, hgB, hc13, _, _, hel⟩ := hS.out k n hg
      have HG := Lib.hid (And.intro hg hgB)
      clear hg hc13 hel
      go_wp2_with fail
      go_loopw [18] (fun i wi => ∃ q : Nat, q ≤ n ∧ i = .int .i64 q ∧ Hid (Below w5.heap.size w5 wi) ∧ Hid (Shape wi w5.heap.size (some ⟨g, 0, none⟩) (lens l)))
        (fun i _ => n - (intOf i).toNat)
      case atStart => exact ⟨0, Nat.zero_le _, rfl, hB.out, hS.out⟩
      case round =>
        clear hB hS
        obtain ⟨q, hq, rfl, hB, hS⟩ := hrel
        obtain ⟨g', Yb, cb, e1, _, hc13, _, _, hel⟩ := hS.out k n HG.out.1
        have e2 : g' = g := by simp at e1; exact e1.symm
        rw [e2] at hc13 hel
        clear e1 e2
        by_cases hqn : q < n
        · obtain ⟨b, o, rfl, hbB, hbg, ⟨u, hu⟩, hf⟩ := hel q hqn
          have hqi : (q : Int) < (n : Int) := by omega
          have hqi0 : (0 : Int) ≤ (q : Int) := by omega
          have HH := Lib.hid (And.intro hbB hbg)
          clear hel hbB hbg
          go_wp2_with fail
          go_roundw
          case rel => exact ⟨q + 1, by omega, by go_num, hB.out.setCell HH.out.1 _, hS.out.set_ HH.out.2 _⟩
          case measure => simp [intOf]; omega
        · obtain rfl : q = n := by omega
          have hqi : ¬ (q : Int) < (q : Int) := by omega
          clear hel
          go_wp2_with fail
          go_roundw
          case rel => exact ⟨k + 1, by omega, by go_num, hB.out, hS.out⟩
          case measure => simp [intOf]; omega
    · obtain rfl : k = l.length := by omega
      go_wp2_with fail
      refine (HSc.out X1 q1 _ (HO3.out.up hB.out) (HX.out.up (below_up HB5.out hB.out))).mono ?_
      rintro e w9 ⟨rfl, hB9⟩
      have HB9 := Lib.hid (below_up (below_up HB5.out hB.out) hB9)
      clear hB9
      go_wp2_with fail
      go_ret
      exact ⟨rfl, HB9.out⟩
theorem tablesLaw (w : World) (d0 d1 d2 bo fr tr ag : Int) (K : Option Addr) (kc : Nat) (ks : List Cls) (hkc : ks.length ≤ kc) (hkm : kc ≤ maxLen) (hk : ClsAt w w.heap.size K ks)
    (X : Option Addr) (cX : Nat) (l : List JV) (hlc : l.length ≤ cX) (hlm : cX ≤ maxLen) (hX : JobsAt w X l) (hla : ∀ j ∈ l, JWf j ∧ j.af.length ≤ maxLen)
    (O : Option Addr) (cO : Nat) (m : List JV) (hmc : m.length ≤ cO) (hmm : cO ≤ maxLen) (hO : JobsAt w O m) (hma : ∀ j ∈ m, JWf j ∧ j.af.length ≤ maxLen)
    (j : JV) (Y : Option Addr) (cj : Nat) (hjc : j.af.length ≤ cj) (hjm : cj ≤ maxLen) (hY : IntsAt w Y j.af) (hjw : JWf j) (id : Int) (wid : (Lit.int .i64 id).wf = true) :
    Calls Try.prog 3 #[.agg #[.int .i64 d0, .int .i64 d1, .int .i64 d2, .int .i64 bo, .int .i64 fr, .int .i64 tr, .int .i64 ag, .slice K ks.length kc], .slice X l.length cX, .slice O m.length cO, .agg #[.int .i64 j.id, .int .i64 j.us, .int .i64 j.cl, .int .i64 j.x.a, .int .i64 j.x.b, .int .i64 j.x.c, .bool j.x.p, .bool j.x.q, .bool j.x.r, .bool j.x.tn, .int .i64 j.wa, .int .i64 j.pr, .bool j.he, .slice Y j.af.length cj, .int .u8 j.st, .int .i64 j.ca], .int .i64 id] w fun e w' => e = .returned (.bool true) ∧ Below w.heap.size w w' := by
  have hlk : ks.length ≤ maxLen := Nat.le_trans hkc hkm
  have hl : l.length ≤ maxLen := Nat.le_trans hlc hlm
  have hm : m.length ≤ maxLen := Nat.le_trans hmc hmm
  have hj : j.af.length ≤ maxLen := Nat.le_trans hjc hjm
  by_cases h0 : (100 : Int) < (ks.length : Int)
  · exact jt_cls d0 d1 d2 bo fr tr ag K kc ks hlk X cX l hl hla O cO m hm hma j Y cj hj id h0 w hk hX hO hY
  · cases h1 : greatB l
    · cases h2 : greatB m
      · by_cases h3 : (100 : Int) < (j.af.length : Int)
        · exact jt_after d0 d1 d2 bo fr tr ag K kc ks hlk X cX l hl hla O cO m hm hma j Y cj hj id h0 h1 h2 h3 w hk hX hO hY
        · exact jt_main d0 d1 d2 bo fr tr ag K kc ks hlk X cX l hl hla O cO m hm hma j Y cj hj id h0 h1 h2 h3 w hk hX hO hY
      · exact jt_great2 d0 d1 d2 bo fr tr ag K kc ks hlk X cX l hl hla O cO m hm hma j Y cj hj id h0 h1 h2 w hk hX hO hY
    · exact jt_great1 d0 d1 d2 bo fr tr ag K kc ks hlk X cX l hl hla O cO m hm hma j Y cj hj id h0 h1 w hk hX hO hY
end Go.Proofs.Ytfpljpdjohmbaaa.JobTables
