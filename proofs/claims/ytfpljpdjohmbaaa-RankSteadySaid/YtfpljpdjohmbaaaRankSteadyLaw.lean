/- RankSteady: the walk. -/
import Derived.BigRegion
import Derived.BigQuiet
import Derived.Lib.QuietBelow
import Derived.Deep.QuietTactic
import Derived.Deep.DeepCutAuto
import Derived.Deep.MidRow
import Derived.Test.YtfpljpdjohmbaaaOpenJob
import Derived.Test.YtfpljpdjohmbaaaJobGreat
import Derived.Test.YtfpljpdjohmbaaaRankAlive
import Derived.Test.YtfpljpdjohmbaaaDepsWant
import Derived.Test.YtfpljpdjohmbaaaRankMem
import Derived.Test.YtfpljpdjohmbaaaQuietRow
namespace Go.Proofs.Ytfpljpdjohmbaaa.RankSteadyLaw
open Go.Sort (grow)
open Go.RowKit Mem PosMath PartMath TurnMath TurnMap TurnFitsV JobMath JobCheck JobIndex JobFind JobMem JobTable JobTwin JobSame JobRSame JobGreat DepsMath DepsWant RankMath RankMem SetList RankKey RankSort RankOrd RankAlive QuietRow Lay
set_option linter.unusedVariables false
set_option linter.unusedSimpArgs false

set_option maxRecDepth 100000 in
set_option maxHeartbeats 16000000 in
theorem rt_cls (d0 d1 d2 bo fr tr ag : Int) (K : Option Addr) (kc : Nat) (ks : List Cls) (hlk : ks.length ≤ maxLen) (X : Option Addr) (cX : Nat) (l : List JV) (hl : l.length ≤ maxLen) (hla : ∀ j ∈ l, JWf j ∧ j.af.length ≤ maxLen) (n : Int) (h0 : (100 : Int) < (ks.length : Int)) (w : World) (hk : ClsAt w w.heap.size K ks) (hX : JobsAt w X l) :
    Calls Try.prog 11 #[.agg #[.int .i64 d0, .int .i64 d1, .int .i64 d2, .int .i64 bo, .int .i64 fr, .int .i64 tr, .int .i64 ag, .slice K ks.length kc], .slice X l.length cX, .int .i64 n] w fun e w' => e = .returned (.bool true) ∧ Below w.heap.size w w' := by
  unfold maxLen at hlk hl
  clear hk hX
  go_enter Try.func11, Try.ntmps11
  go_upto_region 1 with fail
  have kc0 : Blk (w.alloc (.cells #[.int .i64 d0, .int .i64 d1, .int .i64 d2, .int .i64 bo, .int .i64 fr, .int .i64 tr, .int .i64 ag, .slice K ks.length kc] 26)) w.heap.size 26 #[.int .i64 d0, .int .i64 d1, .int .i64 d2, .int .i64 bo, .int .i64 fr, .int .i64 tr, .int .i64 ag, .slice K ks.length kc] := Blk.new w _ _
  have hb0 : Below w.heap.size w (w.alloc (.cells #[.int .i64 d0, .int .i64 d1, .int .i64 d2, .int .i64 bo, .int .i64 fr, .int .i64 tr, .int .i64 ag, .slice K ks.length kc] 26)) := below_alloc (Below.refl _ _)
  generalize (w.alloc (.cells #[.int .i64 d0, .int .i64 d1, .int .i64 d2, .int .i64 bo, .int .i64 fr, .int .i64 tr, .int .i64 ag, .slice K ks.length kc] 26)) = w0 at *
  have HB0 := Lib.hid hb0
  have KC0 := Lib.hid kc0
  clear hb0 kc0
  go_wp2_with fail
  refine (ralive _).mono ?_
  rintro e w1 ⟨rfl, hB1⟩
  have HB1 := Lib.hid (below_up HB0.out hB1)
  have KC1 := Lib.hid (KC0.out.below hB1 KC0.out.lt)
  have xk : w1.cell? ⟨w.heap.size, 7, none⟩ = some (.slice K ks.length kc) := KC1.out.cell 7
  clear hB1 KC0 HB0
  go_wp2_with fail
  go_ret
  exact ⟨rfl, HB1.out⟩
set_option maxRecDepth 100000 in
set_option maxHeartbeats 16000000 in
theorem rt_great (d0 d1 d2 bo fr tr ag : Int) (K : Option Addr) (kc : Nat) (ks : List Cls) (hlk : ks.length ≤ maxLen) (X : Option Addr) (cX : Nat) (l : List JV) (hl : l.length ≤ maxLen) (hla : ∀ j ∈ l, JWf j ∧ j.af.length ≤ maxLen) (n : Int) (h0 : ¬ (100 : Int) < (ks.length : Int)) (h1 : greatB l = true) (w : World) (hk : ClsAt w w.heap.size K ks) (hX : JobsAt w X l) :
    Calls Try.prog 11 #[.agg #[.int .i64 d0, .int .i64 d1, .int .i64 d2, .int .i64 bo, .int .i64 fr, .int .i64 tr, .int .i64 ag, .slice K ks.length kc], .slice X l.length cX, .int .i64 n] w fun e w' => e = .returned (.bool true) ∧ Below w.heap.size w w' := by
  unfold maxLen at hlk hl
  have HG1 := Lib.hid (fun w h => great_big X cX l (by omega) (fun j hj => by have := (hla j hj).2; unfold maxLen at this; omega) w h)
  rw [h1] at HG1
  have HX := Lib.hid hX
  clear hk hX h1
  go_enter Try.func11, Try.ntmps11
  go_upto_region 1 with fail
  have kc0 : Blk (w.alloc (.cells #[.int .i64 d0, .int .i64 d1, .int .i64 d2, .int .i64 bo, .int .i64 fr, .int .i64 tr, .int .i64 ag, .slice K ks.length kc] 26)) w.heap.size 26 #[.int .i64 d0, .int .i64 d1, .int .i64 d2, .int .i64 bo, .int .i64 fr, .int .i64 tr, .int .i64 ag, .slice K ks.length kc] := Blk.new w _ _
  have hb0 : Below w.heap.size w (w.alloc (.cells #[.int .i64 d0, .int .i64 d1, .int .i64 d2, .int .i64 bo, .int .i64 fr, .int .i64 tr, .int .i64 ag, .slice K ks.length kc] 26)) := below_alloc (Below.refl _ _)
  generalize (w.alloc (.cells #[.int .i64 d0, .int .i64 d1, .int .i64 d2, .int .i64 bo, .int .i64 fr, .int .i64 tr, .int .i64 ag, .slice K ks.length kc] 26)) = w0 at *
  have HB0 := Lib.hid hb0
  have KC0 := Lib.hid kc0
  clear hb0 kc0
  go_wp2_with fail
  refine (ralive _).mono ?_
  rintro e w1 ⟨rfl, hB1⟩
  have HB1 := Lib.hid (below_up HB0.out hB1)
  have KC1 := Lib.hid (KC0.out.below hB1 KC0.out.lt)
  have xk : w1.cell? ⟨w.heap.size, 7, none⟩ = some (.slice K ks.length kc) := KC1.out.cell 7
  clear hB1 KC0 HB0
  go_wp2_with fail
  refine (HG1.out _ (HX.out.up HB1.out)).mono ?_
  rintro e w2 ⟨rfl, hB2⟩
  have HB2 := Lib.hid (below_up HB1.out hB2)
  have KC2 := Lib.hid (KC1.out.below hB2 KC1.out.lt)
  clear hB2 KC1 xk HB1 HG1
  go_wp2_with fail
  go_ret
  exact ⟨rfl, HB2.out⟩
set_option maxRecDepth 100000 in
set_option maxHeartbeats 16000000 in
theorem rt_low (d0 d1 d2 bo fr tr ag : Int) (K : Option Addr) (kc : Nat) (ks : List Cls) (hlk : ks.length ≤ maxLen) (X : Option Addr) (cX : Nat) (l : List JV) (hl : l.length ≤ maxLen) (hla : ∀ j ∈ l, JWf j ∧ j.af.length ≤ maxLen) (n : Int) (h0 : ¬ (100 : Int) < (ks.length : Int)) (h1 : greatB l = false) (hn : n < 0) (w : World) (hk : ClsAt w w.heap.size K ks) (hX : JobsAt w X l) :
    Calls Try.prog 11 #[.agg #[.int .i64 d0, .int .i64 d1, .int .i64 d2, .int .i64 bo, .int .i64 fr, .int .i64 tr, .int .i64 ag, .slice K ks.length kc], .slice X l.length cX, .int .i64 n] w fun e w' => e = .returned (.bool true) ∧ Below w.heap.size w w' := by
  unfold maxLen at hlk hl
  have HG1 := Lib.hid (fun w h => great_big X cX l (by omega) (fun j hj => by have := (hla j hj).2; unfold maxLen at this; omega) w h)
  rw [h1] at HG1
  have HX := Lib.hid hX
  clear hk hX h1
  go_enter Try.func11, Try.ntmps11
  go_upto_region 1 with fail
  have kc0 : Blk (w.alloc (.cells #[.int .i64 d0, .int .i64 d1, .int .i64 d2, .int .i64 bo, .int .i64 fr, .int .i64 tr, .int .i64 ag, .slice K ks.length kc] 26)) w.heap.size 26 #[.int .i64 d0, .int .i64 d1, .int .i64 d2, .int .i64 bo, .int .i64 fr, .int .i64 tr, .int .i64 ag, .slice K ks.length kc] := Blk.new w _ _
  have hb0 : Below w.heap.size w (w.alloc (.cells #[.int .i64 d0, .int .i64 d1, .int .i64 d2, .int .i64 bo, .int .i64 fr, .int .i64 tr, .int .i64 ag, .slice K ks.length kc] 26)) := below_alloc (Below.refl _ _)
  generalize (w.alloc (.cells #[.int .i64 d0, .int .i64 d1, .int .i64 d2, .int .i64 bo, .int .i64 fr, .int .i64 tr, .int .i64 ag, .slice K ks.length kc] 26)) = w0 at *
  have HB0 := Lib.hid hb0
  have KC0 := Lib.hid kc0
  clear hb0 kc0
  go_wp2_with fail
  refine (ralive _).mono ?_
  rintro e w1 ⟨rfl, hB1⟩
  have HB1 := Lib.hid (below_up HB0.out hB1)
  have KC1 := Lib.hid (KC0.out.below hB1 KC0.out.lt)
  have xk : w1.cell? ⟨w.heap.size, 7, none⟩ = some (.slice K ks.length kc) := KC1.out.cell 7
  clear hB1 KC0 HB0
  go_wp2_with fail
  refine (HG1.out _ (HX.out.up HB1.out)).mono ?_
  rintro e w2 ⟨rfl, hB2⟩
  have HB2 := Lib.hid (below_up HB1.out hB2)
  have KC2 := Lib.hid (KC1.out.below hB2 KC1.out.lt)
  clear hB2 KC1 xk HB1 HG1
  go_wp2_with fail
  go_ret
  exact ⟨rfl, HB2.out⟩
set_option maxRecDepth 100000 in
set_option maxHeartbeats 16000000 in
theorem rt_high (d0 d1 d2 bo fr tr ag : Int) (K : Option Addr) (kc : Nat) (ks : List Cls) (hlk : ks.length ≤ maxLen) (X : Option Addr) (cX : Nat) (l : List JV) (hl : l.length ≤ maxLen) (hla : ∀ j ∈ l, JWf j ∧ j.af.length ≤ maxLen) (n : Int) (h0 : ¬ (100 : Int) < (ks.length : Int)) (h1 : greatB l = false) (hn0 : ¬ n < 0) (hn : (l.length : Int) ≤ n) (w : World) (hk : ClsAt w w.heap.size K ks) (hX : JobsAt w X l) :
    Calls Try.prog 11 #[.agg #[.int .i64 d0, .int .i64 d1, .int .i64 d2, .int .i64 bo, .int .i64 fr, .int .i64 tr, .int .i64 ag, .slice K ks.length kc], .slice X l.length cX, .int .i64 n] w fun e w' => e = .returned (.bool true) ∧ Below w.heap.size w w' := by
  unfold maxLen at hlk hl
  have HG1 := Lib.hid (fun w h => great_big X cX l (by omega) (fun j hj => by have := (hla j hj).2; unfold maxLen at this; omega) w h)
  rw [h1] at HG1
  have HX := Lib.hid hX
  clear hk hX h1
  go_enter Try.func11, Try.ntmps11
  go_upto_region 1 with fail
  have kc0 : Blk (w.alloc (.cells #[.int .i64 d0, .int .i64 d1, .int .i64 d2, .int .i64 bo, .int .i64 fr, .int .i64 tr, .int .i64 ag, .slice K ks.length kc] 26)) w.heap.size 26 #[.int .i64 d0, .int .i64 d1, .int .i64 d2, .int .i64 bo, .int .i64 fr, .int .i64 tr, .int .i64 ag, .slice K ks.length kc] := Blk.new w _ _
  have hb0 : Below w.heap.size w (w.alloc (.cells #[.int .i64 d0, .int .i64 d1, .int .i64 d2, .int .i64 bo, .int .i64 fr, .int .i64 tr, .int .i64 ag, .slice K ks.length kc] 26)) := below_alloc (Below.refl _ _)
  generalize (w.alloc (.cells #[.int .i64 d0, .int .i64 d1, .int .i64 d2, .int .i64 bo, .int .i64 fr, .int .i64 tr, .int .i64 ag, .slice K ks.length kc] 26)) = w0 at *
  have HB0 := Lib.hid hb0
  have KC0 := Lib.hid kc0
  clear hb0 kc0
  go_wp2_with fail
  refine (ralive _).mono ?_
  rintro e w1 ⟨rfl, hB1⟩
  have HB1 := Lib.hid (below_up HB0.out hB1)
  have KC1 := Lib.hid (KC0.out.below hB1 KC0.out.lt)
  have xk : w1.cell? ⟨w.heap.size, 7, none⟩ = some (.slice K ks.length kc) := KC1.out.cell 7
  clear hB1 KC0 HB0
  go_wp2_with fail
  refine (HG1.out _ (HX.out.up HB1.out)).mono ?_
  rintro e w2 ⟨rfl, hB2⟩
  have HB2 := Lib.hid (below_up HB1.out hB2)
  have KC2 := Lib.hid (KC1.out.below hB2 KC1.out.lt)
  clear hB2 KC1 xk HB1 HG1
  go_wp2_with fail
  go_ret
  exact ⟨rfl, HB2.out⟩
set_option maxRecDepth 100000 in
set_option maxHeartbeats 16000000 in
theorem rt_bad (d0 d1 d2 bo fr tr ag : Int) (K : Option Addr) (kc : Nat) (ks : List Cls) (hlk : ks.length ≤ maxLen) (X : Option Addr) (cX : Nat) (l : List JV) (hl : l.length ≤ maxLen) (hla : ∀ j ∈ l, JWf j ∧ j.af.length ≤ maxLen) (n : Int) (h0 : ¬ (100 : Int) < (ks.length : Int)) (h1 : greatB l = false) (hn0 : ¬ n < 0) (hn1 : ¬ (l.length : Int) ≤ n) (hv : tableV d0 d1 d2 bo fr tr ag ks l ≠ 0) (w : World) (hk : ClsAt w w.heap.size K ks) (hX : JobsAt w X l) :
    Calls Try.prog 11 #[.agg #[.int .i64 d0, .int .i64 d1, .int .i64 d2, .int .i64 bo, .int .i64 fr, .int .i64 tr, .int .i64 ag, .slice K ks.length kc], .slice X l.length cX, .int .i64 n] w fun e w' => e = .returned (.bool true) ∧ Below w.heap.size w w' := by
  unfold maxLen at hlk hl
  have HG1 := Lib.hid (fun w h => great_big X cX l (by omega) (fun j hj => by have := (hla j hj).2; unfold maxLen at this; omega) w h)
  rw [h1] at HG1
  obtain ⟨hl1, hl2⟩ := great_not h1
  have hlj : ∀ j ∈ l, JWf j := fun j hj => (hla j hj).1
  have hl4 : ∀ j ∈ l, j.af.length ≤ 1000 := fun j hj => by have := hl2 j hj; omega
  have HX := Lib.hid hX
  have HK := Lib.hid hk
  have HO1 := Lib.hid (fun w hk hX => order_all d0 d1 d2 bo fr tr ag K kc ks (by omega) X cX l (by omega) hl4 w hk hX)
  have HTW := Lib.hid (fun w hX => twin_any X cX l (by omega) hl4 w hX)
  generalize orderR (tableV d0 d1 d2 bo fr tr ag ks l) ks ag l = os at *
  generalize tableV d0 d1 d2 bo fr tr ag ks l = V at *
  have hv' : (V != 0) = true := by simpa using hv
  clear hk hX h1 hlj hl4 hl2 hv
  go_enter Try.func11, Try.ntmps11
  go_upto_region 1 with fail
  have kc0 : Blk (w.alloc (.cells #[.int .i64 d0, .int .i64 d1, .int .i64 d2, .int .i64 bo, .int .i64 fr, .int .i64 tr, .int .i64 ag, .slice K ks.length kc] 26)) w.heap.size 26 #[.int .i64 d0, .int .i64 d1, .int .i64 d2, .int .i64 bo, .int .i64 fr, .int .i64 tr, .int .i64 ag, .slice K ks.length kc] := Blk.new w _ _
  have hb0 : Below w.heap.size w (w.alloc (.cells #[.int .i64 d0, .int .i64 d1, .int .i64 d2, .int .i64 bo, .int .i64 fr, .int .i64 tr, .int .i64 ag, .slice K ks.length kc] 26)) := below_alloc (Below.refl _ _)
  generalize (w.alloc (.cells #[.int .i64 d0, .int .i64 d1, .int .i64 d2, .int .i64 bo, .int .i64 fr, .int .i64 tr, .int .i64 ag, .slice K ks.length kc] 26)) = w0 at *
  have HB0 := Lib.hid hb0
  have KC0 := Lib.hid kc0
  clear hb0 kc0
  go_wp2_with fail
  refine (ralive _).mono ?_
  rintro e w1 ⟨rfl, hB1⟩
  have HB1 := Lib.hid (below_up HB0.out hB1)
  have KC1 := Lib.hid (KC0.out.below hB1 KC0.out.lt)
  have xk : w1.cell? ⟨w.heap.size, 7, none⟩ = some (.slice K ks.length kc) := KC1.out.cell 7
  clear hB1 KC0 HB0
  go_wp2_with fail
  refine (HG1.out _ (HX.out.up HB1.out)).mono ?_
  rintro e w2 ⟨rfl, hB2⟩
  have HB2 := Lib.hid (below_up HB1.out hB2)
  have KC2 := Lib.hid (KC1.out.below hB2 KC1.out.lt)
  clear hB2 KC1 xk HB1 HG1
  go_wp2_with (first | (refine wpList_load_row rfl 26 _ rfl _ rfl 26 #[.int .i64 d0, .int .i64 d1, .int .i64 d2, .int .i64 bo, .int .i64 fr, .int .i64 tr, .int .i64 ag, .slice K ks.length kc] (0, 0) _ KC2.out Try.underlying26 rfl (by kernel_rfl) ?_))
  refine (HO1.out _ (HK.out.up HB2.out) (HX.out.up HB2.out)).mono ?_
  rintro e w3 ⟨X1, c1, rfl, hI, hB3⟩
  have HB3 := Lib.hid (below_up HB2.out hB3)
  have KC3 := Lib.hid (KC2.out.below hB3 KC2.out.lt)
  have HI3 := Lib.hid hI
  clear hI KC2
  clear hB3
  go_wp2_with fail
  refine (HTW.out _ (HX.out.up HB3.out)).mono ?_
  rintro e w4 ⟨X2, c2, rfl, hO, hB4⟩
  have HB4 := Lib.hid (below_up HB3.out hB4)
  have KC4 := Lib.hid (KC3.out.below hB4 KC3.out.lt)
  have HI4 := Lib.hid (HI3.out.up hB4)
  have HO4 := Lib.hid hO
  have HD4 := Lib.hid hB4
  clear hB4 hO HTW KC3 HI3
  go_wp2_with fail
  go_ret
  exact ⟨rfl, HB4.out⟩
set_option maxRecDepth 100000 in
set_option maxHeartbeats 16000000 in
theorem rt_main (d0 d1 d2 bo fr tr ag : Int) (K : Option Addr) (kc : Nat) (ks : List Cls) (hlk : ks.length ≤ maxLen) (X : Option Addr) (cX : Nat) (l : List JV) (hl : l.length ≤ maxLen) (hla : ∀ j ∈ l, JWf j ∧ j.af.length ≤ maxLen) (k : Nat) (h0 : ¬ (100 : Int) < (ks.length : Int)) (h1 : greatB l = false) (hkl : k < l.length) (hv : tableV d0 d1 d2 bo fr tr ag ks l = 0) (w : World) (hk : ClsAt w w.heap.size K ks) (hX : JobsAt w X l) :
    Calls Try.prog 11 #[.agg #[.int .i64 d0, .int .i64 d1, .int .i64 d2, .int .i64 bo, .int .i64 fr, .int .i64 tr, .int .i64 ag, .slice K ks.length kc], .slice X l.length cX, .int .i64 (k : Int)] w fun e w' => e = .returned (.bool true) ∧ Below w.heap.size w w' := by
  unfold maxLen at hlk hl
  have HG1 := Lib.hid (fun w h => great_big X cX l (by omega) (fun j hj => by have := (hla j hj).2; unfold maxLen at this; omega) w h)
  rw [h1] at HG1
  obtain ⟨hl1, hl2⟩ := great_not h1
  have hlj : ∀ j ∈ l, JWf j := fun j hj => (hla j hj).1
  have hl4 : ∀ j ∈ l, j.af.length ≤ 1000 := fun j hj => by have := hl2 j hj; omega
  have HX := Lib.hid hX
  have HK := Lib.hid hk
  have HO1 := Lib.hid (fun w hk hX => order_all d0 d1 d2 bo fr tr ag K kc ks (by omega) X cX l (by omega) hl4 w hk hX)
  have HTW := Lib.hid (fun w hX => twin_any X cX l (by omega) hl4 w hX)
  have hg : l[k]? = some l[k] := List.getElem?_eq_getElem hkl
  generalize l[k] = x at hg
  have hxm := List.mem_of_getElem? hg
  obtain ⟨hC, hT⟩ := tableV_of hv
  have hU := hT.rise
  have hv2 : tableV d0 d1 d2 bo fr tr ag ks (l.set k (done x)) = 0 := tableV_to hC (tok_done hT hg)
  have er : orderR (tableV d0 d1 d2 bo fr tr ag ks l) ks ag l = orderV ks ag l := if_pos hv
  rw [er, hv] at HO1
  have hsm := key_small hC (hT.each x hxm)
  have hcx : CheckV d0 d1 d2 bo fr tr ag ks x = 0 := CheckV_ok hC (hT.each x hxm)
  have hxa := hl4 x hxm
  have HKX := Lib.hid (fun (Y : Option Addr) (cj : Nat) (w : World) (hk : ClsAt w w.heap.size K ks) (hY : IntsAt w Y x.af) =>
    (show Calls Try.prog 33 #[.agg #[.int .i64 d0, .int .i64 d1, .int .i64 d2, .int .i64 bo, .int .i64 fr, .int .i64 tr, .int .i64 ag, .slice K ks.length kc], .agg #[.int .i64 x.id, .int .i64 x.us, .int .i64 x.cl, .int .i64 x.x.a, .int .i64 x.x.b, .int .i64 x.x.c, .bool x.x.p, .bool x.x.q, .bool x.x.r, .bool x.x.tn, .int .i64 x.wa, .int .i64 x.pr, .bool x.he, .slice Y x.af.length cj, .int .u8 x.st, .int .i64 x.ca]] w (fun e w' => e = .returned (.tuple #[.int .i64 (keyV ks ag x), .int .i64 0]) ∧ Below w.heap.size w w') from by
      have h := rKey_any d0 d1 d2 bo fr tr ag K kc ks x Y cj (by omega) (by omega) w hk hY
      rw [hcx, if_pos rfl] at h
      exact h))
  obtain ⟨KH, CH, hCH, hKA⟩ : ∃ KH CH : Int, (CH = 0 → KH = keyV ks ag x + ag) ∧ ∀ (Y : Option Addr) (cj : Nat) (w : World) (hk : ClsAt w w.heap.size K ks) (hY : IntsAt w Y x.af), Calls Try.prog 33 #[.agg #[.int .i64 d0, .int .i64 d1, .int .i64 d2, .int .i64 bo, .int .i64 fr, .int .i64 tr, .int .i64 ag, .slice K ks.length kc], .agg #[.int .i64 x.id, .int .i64 x.us, .int .i64 x.cl, .int .i64 x.x.a, .int .i64 x.x.b, .int .i64 x.x.c, .bool x.x.p, .bool x.x.q, .bool x.x.r, .bool x.x.tn, .int .i64 x.wa, .int .i64 (x.pr + 1), .bool x.he, .slice Y x.af.length cj, .int .u8 x.st, .int .i64 x.ca]] w (fun e w' => e = .returned (.tuple #[.int .i64 KH, .int .i64 CH]) ∧ Below w.heap.size w w') :=
    ⟨_, _, fun h => (if_pos h).trans (key_higher ks ag x), fun Y cj w hk hY => rKey_any d0 d1 d2 bo fr tr ag K kc ks (higher x) Y cj (by omega) (show x.af.length ≤ _ by omega) w hk hY⟩
  obtain ⟨KS, CS, hCS, hKB⟩ : ∃ KS CS : Int, (CS = 0 → KS = keyV ks ag x + ag) ∧ ∀ (Y : Option Addr) (cj : Nat) (w : World) (hk : ClsAt w w.heap.size K ks) (hY : IntsAt w Y x.af), Calls Try.prog 33 #[.agg #[.int .i64 d0, .int .i64 d1, .int .i64 d2, .int .i64 bo, .int .i64 fr, .int .i64 tr, .int .i64 ag, .slice K ks.length kc], .agg #[.int .i64 x.id, .int .i64 x.us, .int .i64 x.cl, .int .i64 x.x.a, .int .i64 x.x.b, .int .i64 x.x.c, .bool x.x.p, .bool x.x.q, .bool x.x.r, .bool x.x.tn, .int .i64 x.wa, .int .i64 x.pr, .bool x.he, .slice Y x.af.length cj, .int .u8 x.st, .int .i64 (x.ca - ag)]] w (fun e w' => e = .returned (.tuple #[.int .i64 KS, .int .i64 CS]) ∧ Below w.heap.size w w') :=
    ⟨_, _, fun h => (if_pos h).trans (key_sooner ks ag x), fun Y cj w hk hY => rKey_any d0 d1 d2 bo fr tr ag K kc ks (sooner ag x) Y cj (by omega) (show x.af.length ≤ _ by omega) w hk hY⟩
  obtain ⟨b0, b1, b2, b3, b4, b5, b6, b7, b8, b9, _, _⟩ := hsm
  have hkx1 : -2000000000000 ≤ keyV ks ag x := by unfold keyV; omega
  have hkx2 : keyV ks ag x ≤ 2000000000000 := by unfold keyV; omega
  generalize keyV ks ag x = KX at *
  have HKA := Lib.hid hKA
  have HKB := Lib.hid hKB
  have HCH := Lib.hid hCH
  have HCS := Lib.hid hCS
  have hset4 : ∀ q ∈ l.set k (done x), q.af.length ≤ 1000 := fun q hq => by
    rcases List.mem_or_eq_of_mem_set hq with h | rfl
    · exact hl4 q h
    · exact hxa
  have HO2 := Lib.hid (fun (X2 : Option Addr) (c2 : Nat) (w : World) (hk : ClsAt w w.heap.size K ks) (hX : JobsAt w X2 (l.set k (done x))) =>
    (show Calls Try.prog 37 #[.agg #[.int .i64 d0, .int .i64 d1, .int .i64 d2, .int .i64 bo, .int .i64 fr, .int .i64 tr, .int .i64 ag, .slice K ks.length kc], .slice X2 l.length c2] w (fun e w' => ∃ X' c', e = .returned (.tuple #[.slice X' ((orderV ks ag l).filter fun n => decide (n ≠ x.id)).length c', .int .i64 0]) ∧ IntsAt w' X' ((orderV ks ag l).filter fun n => decide (n ≠ x.id)) ∧ Below w.heap.size w w') from by
      have h := order_all d0 d1 d2 bo fr tr ag K kc ks (by omega) X2 c2 (l.set k (done x)) (by rw [List.length_set]; omega) hset4 w hk hX
      have e2 : orderR (tableV d0 d1 d2 bo fr tr ag ks (l.set k (done x))) ks ag (l.set k (done x)) = (orderV ks ag l).filter fun n => decide (n ≠ x.id) := (if_pos hv2).trans (order_done hU hg)
      rw [e2, hv2, List.length_set] at h
      exact h))
  have hos : (orderV ks ag l).length ≤ 1000 := by rw [order_len]; have := List.length_filter_le waitsB l; omega
  generalize orderV ks ag l = os at *
  have hfl : (os.filter fun n => decide (n ≠ x.id)).length ≤ 1000 := by have := List.length_filter_le (fun n => decide (n ≠ x.id)) os; omega
  have hki : (k : Int) < (l.length : Int) := by omega
  have hki0 : (0 : Int) ≤ (k : Int) := by omega
  have hki1 : ¬ ((k : Int) < 0) := by omega
  have hki2 : ¬ ((l.length : Int) ≤ (k : Int)) := by omega
  have HG := Lib.hid (And.intro hg (And.intro hcx hxa))
  have hll : ((l.length : Int) != (l.length : Int)) = false := by simp
  clear hk hX h1 hlj hl4 hl2 hv hg hxm hC hT hU hv2 er hcx hxa hset4 hKA hKB hCH hCS
  go_enter Try.func11, Try.ntmps11
  go_upto_region 1 with fail
  have kc0 : Blk (w.alloc (.cells #[.int .i64 d0, .int .i64 d1, .int .i64 d2, .int .i64 bo, .int .i64 fr, .int .i64 tr, .int .i64 ag, .slice K ks.length kc] 26)) w.heap.size 26 #[.int .i64 d0, .int .i64 d1, .int .i64 d2, .int .i64 bo, .int .i64 fr, .int .i64 tr, .int .i64 ag, .slice K ks.length kc] := Blk.new w _ _
  have hb0 : Below w.heap.size w (w.alloc (.cells #[.int .i64 d0, .int .i64 d1, .int .i64 d2, .int .i64 bo, .int .i64 fr, .int .i64 tr, .int .i64 ag, .slice K ks.length kc] 26)) := below_alloc (Below.refl _ _)
  generalize (w.alloc (.cells #[.int .i64 d0, .int .i64 d1, .int .i64 d2, .int .i64 bo, .int .i64 fr, .int .i64 tr, .int .i64 ag, .slice K ks.length kc] 26)) = w0 at *
  have HB0 := Lib.hid hb0
  have KC0 := Lib.hid kc0
  clear hb0 kc0
  go_wp2_with fail
  refine (ralive _).mono ?_
  rintro e w1 ⟨rfl, hB1⟩
  have HB1 := Lib.hid (below_up HB0.out hB1)
  have KC1 := Lib.hid (KC0.out.below hB1 KC0.out.lt)
  have xk : w1.cell? ⟨w.heap.size, 7, none⟩ = some (.slice K ks.length kc) := KC1.out.cell 7
  clear hB1 KC0 HB0
  go_wp2_with fail
  refine (HG1.out _ (HX.out.up HB1.out)).mono ?_
  rintro e w2 ⟨rfl, hB2⟩
  have HB2 := Lib.hid (below_up HB1.out hB2)
  have KC2 := Lib.hid (KC1.out.below hB2 KC1.out.lt)
  clear hB2 KC1 xk HB1 HG1
  go_wp2_with (first | (refine wpList_load_row rfl 26 _ rfl _ rfl 26 #[.int .i64 d0, .int .i64 d1, .int .i64 d2, .int .i64 bo, .int .i64 fr, .int .i64 tr, .int .i64 ag, .slice K ks.length kc] (0, 0) _ KC2.out Try.underlying26 rfl (by kernel_rfl) ?_))
  refine (HO1.out _ (HK.out.up HB2.out) (HX.out.up HB2.out)).mono ?_
  rintro e w3 ⟨X1, c1, rfl, hI, hB3⟩
  have HB3 := Lib.hid (below_up HB2.out hB3)
  have KC3 := Lib.hid (KC2.out.below hB3 KC2.out.lt)
  have HI3 := Lib.hid hI
  clear hI KC2
  clear hB3
  go_wp2_with fail
  refine (HTW.out _ (HX.out.up HB3.out)).mono ?_
  rintro e w4 ⟨X2, c2, rfl, hO, hB4⟩
  have HB4 := Lib.hid (below_up HB3.out hB4)
  have KC4 := Lib.hid (KC3.out.below hB4 KC3.out.lt)
  have HI4 := Lib.hid (HI3.out.up hB4)
  have HO4 := Lib.hid hO
  have HD4 := Lib.hid hB4
  clear hB4 hO HTW
  obtain ⟨g, Y2, q2, hXe, hgB, hgs, hJ2, hF, _, _⟩ := HO4.out k x HG.out.1
  subst hXe
  have y14 : w4.cell? ⟨g, k * 16 + 14, none⟩ = some (.int .u8 x.st) := hJ2.2.2.2.2.2.2.2.2.2.2.2.2.2.2.1
  have y12 : w4.cell? ⟨g, k * 16 + 12, none⟩ = some (.bool x.he) := hJ2.2.2.2.2.2.2.2.2.2.2.2.2.1
  have f14 : w4.frozen? ⟨g, k * 16 + 14, none⟩ = false := hF 14 (by omega)
  have f12 : w4.frozen? ⟨g, k * 16 + 12, none⟩ = false := hF 12 (by omega)
  have hO5 := JobsOwn.state 3 HO4.out HG.out.1
  rw [done_in] at hO5
  have hB5 := ((Below.refl w3.heap.size w3).trans HD4.out).setCell (p := ⟨g, k * 16 + 14, none⟩) hgB (.int .u8 3) |>.setCell (p := ⟨g, k * 16 + 12, none⟩) hgB (.bool false)
  have HO5 := Lib.hid hO5
  have HB5 := Lib.hid hB5
  clear hJ2 hF hgB hgs hO5 hB5 hll
  go_upto_region 10 with fail
  clear y14 y12 f14 f12
  generalize (w4.setCell ⟨g, k * 16 + 14, none⟩ (.int .u8 3)).setCell ⟨g, k * 16 + 12, none⟩ (.bool false) = w5 at *
  have HBw := Lib.hid (below_up HB3.out HB5.out)
  have KC5 := Lib.hid (KC3.out.below HB5.out KC3.out.lt)
  have HI5 := Lib.hid (HI3.out.up HB5.out)
  clear HI4 KC4 HB4 HD4 HO4 KC3 HI3
  go_wp2_with (first | (refine wpList_load_row rfl 26 _ rfl _ rfl 26 #[.int .i64 d0, .int .i64 d1, .int .i64 d2, .int .i64 bo, .int .i64 fr, .int .i64 tr, .int .i64 ag, .slice K ks.length kc] (0, 0) _ KC5.out Try.underlying26 rfl (by kernel_rfl) ?_))
  refine (HO2.out _ c2 _ (HK.out.up HBw.out) (JobsOwn.jobs HO5.out)).mono ?_
  rintro e w6 ⟨X6, c6, rfl, hI, hB6⟩
  have HB6 := Lib.hid (below_up HBw.out hB6)
  have KC6 := Lib.hid (KC5.out.below hB6 KC5.out.lt)
  have HI6 := Lib.hid (And.intro (HI5.out.up hB6) hI)
  clear hI hB6 KC5 HI5 HO2 HO5 HB5
  generalize hfs : (os.filter fun n => decide (n ≠ x.id)) = fs at *
  have HFS := Lib.hid hfs
  clear hfs
  go_wp2_with fail
  go_loopw [14, 13] (fun i m wr => ∃ (q z : Nat), q ≤ os.length ∧ i = .int .i64 q ∧ m = .int .i64 z ∧ Hid (z = ((os.take q).filter fun n => decide (n ≠ x.id)).length) ∧ Hid (Below w6.heap.size w6 wr))
    (fun i _ _ => os.length - (intOf i).toNat)
  case atStart => exact ⟨0, 0, Nat.zero_le _, rfl, rfl, rfl, Below.refl _ _⟩
  case round =>
    obtain ⟨q, z, hq, rfl, rfl, hz, hB⟩ := hrel
    by_cases hlt : q < os.length
    · have hg : os[q]? = some os[q] := List.getElem?_eq_getElem hlt
      generalize os[q] = v at hg
      have hqi : (q : Int) < (os.length : Int) := by omega
      have hqi0 : (0 : Int) ≤ (q : Int) := by omega
      obtain ⟨b1, o1, hX1, _, z1⟩ := (HI6.out.1.up hB.out) q v hg
      subst hX1
      obtain ⟨b, o, Y, cj, hXe, _, hJ, _⟩ := HX.out.up (below_up HB6.out hB.out) k x HG.out.1
      subst hXe
      have yid : wr.cell? ⟨b, o + k * 16, none⟩ = some (.int .i64 x.id) := hJ.1
      have hst := filter_step (p := fun n => decide (n ≠ x.id)) hg
      have HV := Lib.hid hg
      have HST := Lib.hid hst
      clear hg hJ hst
      go_upto_region 15 with fail
      have kq0 := cell_regrown z1
      have kq1 := cell_regrown yid
      refine wp_region_quiet_below (by kernel_rfl) (by kernel_rfl) ?_
      repeat (first | go_big_quiet_step (first | fail))
      refine wpQuiet_nil ?_
      intro _ hw'
      obtain ⟨⟨dq, osq⟩, hw''⟩ := hw'
      subst hw''
      have hBq := below_regrown wr dq osq
      clear kq0 kq1
      generalize grow (redrawn wr dq) osq = w7 at *
      have HB7 := Lib.hid (below_up hB.out hBq)
      have z17 := keep_cell z1 hBq
      clear hBq z1 yid hB
      by_cases he : v = x.id
      · have e1 : (v == x.id) = true := by simpa using he
        have hz2 : ((os.take (q + 1)).filter fun n => decide (n ≠ x.id)).length = z := by rw [HST.out, if_neg (by simp [he]), hz.out]; rfl
        have HZ2 := Lib.hid hz2
        clear he hz2 HST hz z17
        go_wp2_with fail
        go_roundw
        case rel => exact ⟨q + 1, z, by omega, by go_num, rfl, HZ2.out.symm, HB7.out⟩
        case measure => simp [intOf]; omega
      · have e1 : (v == x.id) = false := by simpa using he
        have hz2 : ((os.take (q + 1)).filter fun n => decide (n ≠ x.id)).length = z + 1 := by rw [HST.out, if_pos (by simp [he]), hz.out]
        have hfg := filter_at (p := fun n => decide (n ≠ x.id)) HV.out (by simp [he])
        rw [HFS.out, ← hz.out] at hfg
        have hzl := (List.getElem?_eq_some_iff.1 hfg).1
        have hzi : (z : Int) < (fs.length : Int) := by omega
        have hzi0 : (0 : Int) ≤ (z : Int) := by omega
        have hzi1 : ¬ ((fs.length : Int) ≤ (z : Int)) := by omega
        obtain ⟨b2, o2, hX2, _, z2⟩ := (HI6.out.2.up HB7.out) z v hfg
        subst hX2
        have HZ2 := Lib.hid hz2
        have hvv : (v != v) = false := by simp
        have hd : decide ((fs.length : Int) ≤ (z : Int)) = false := by simp; omega
        clear he hz2 HST hz hfg
        go_upto_region 16 with fail
        have kq0 := cell_regrown z17
        have kq1 := cell_regrown z2
        refine wp_region_quiet_below (by kernel_rfl) (by kernel_rfl) ?_
        repeat (first | go_big_quiet_step (first | fail))
        refine wpQuiet_nil ?_
        intro _ hw'
        obtain ⟨⟨dq, osq⟩, hw''⟩ := hw'
        subst hw''
        have hBq := below_regrown w7 dq osq
        clear kq0 kq1
        generalize grow (redrawn w7 dq) osq = w8 at *
        have HB8 := Lib.hid (below_up HB7.out hBq)
        clear hBq z17 z2
        go_wp2_with fail
        go_roundw
        case rel => exact ⟨q + 1, z + 1, by omega, by go_num, by go_num, HZ2.out.symm, HB8.out⟩
        case measure => simp [intOf]; omega
    · obtain rfl : q = os.length := by omega
      have hzf : z = fs.length := by rw [hz.out, List.take_length, HFS.out]
      subst hzf
      have HBr := Lib.hid (below_up HB6.out hB.out)
      have KCr := Lib.hid (KC6.out.below hB.out KC6.out.lt)
      obtain ⟨b, o, Y, cj, hXe, _, hJ, hY⟩ := HX.out.up HBr.out k x HG.out.1
      subst hXe
      have HJ := Lib.hid (And.intro hJ.range hY)
      have hff : ((fs.length : Int) != (fs.length : Int)) = false := by simp
      clear hz hB HI6 hJ hY KC6
      go_upto_region 23 with (first | (refine wpList_load_mid rfl 33 _ rfl _ _ rfl _ _ HJ.out.1 Try.underlying33 rfl (by kernel_rfl) ?_))
      have kj8 : Blk (wr.alloc (.cells #[.int .i64 x.id, .int .i64 x.us, .int .i64 x.cl, .int .i64 x.x.a, .int .i64 x.x.b, .int .i64 x.x.c, .bool x.x.p, .bool x.x.q, .bool x.x.r, .bool x.x.tn, .int .i64 x.wa, .int .i64 (x.pr + 1), .bool x.he, .slice Y x.af.length cj, .int .u8 x.st, .int .i64 x.ca] 33)) wr.heap.size 33 #[.int .i64 x.id, .int .i64 x.us, .int .i64 x.cl, .int .i64 x.x.a, .int .i64 x.x.b, .int .i64 x.x.c, .bool x.x.p, .bool x.x.q, .bool x.x.r, .bool x.x.tn, .int .i64 x.wa, .int .i64 (x.pr + 1), .bool x.he, .slice Y x.af.length cj, .int .u8 x.st, .int .i64 x.ca] := Blk.new wr _ _
      have hb8 : Below wr.heap.size wr (wr.alloc (.cells #[.int .i64 x.id, .int .i64 x.us, .int .i64 x.cl, .int .i64 x.x.a, .int .i64 x.x.b, .int .i64 x.x.c, .bool x.x.p, .bool x.x.q, .bool x.x.r, .bool x.x.tn, .int .i64 x.wa, .int .i64 (x.pr + 1), .bool x.he, .slice Y x.af.length cj, .int .u8 x.st, .int .i64 x.ca] 33)) := below_alloc (Below.refl _ _)
      generalize (wr.alloc (.cells #[.int .i64 x.id, .int .i64 x.us, .int .i64 x.cl, .int .i64 x.x.a, .int .i64 x.x.b, .int .i64 x.x.c, .bool x.x.p, .bool x.x.q, .bool x.x.r, .bool x.x.tn, .int .i64 x.wa, .int .i64 (x.pr + 1), .bool x.he, .slice Y x.af.length cj, .int .u8 x.st, .int .i64 x.ca] 33)) = w8 at *
      have KJ8 := Lib.hid kj8
      have HD8 := Lib.hid hb8
      have HJr := Lib.hid (range_up HJ.out.1 hb8)
      have KC8 := Lib.hid (KCr.out.below hb8 KCr.out.lt)
      clear kj8 hb8
      refine wp_region_quiet_below (by kernel_rfl) (by kernel_rfl) ?_
      repeat (first | (refine quiet_load_row (by rfl) 26 _ rfl _ rfl 26 #[.int .i64 d0, .int .i64 d1, .int .i64 d2, .int .i64 bo, .int .i64 fr, .int .i64 tr, .int .i64 ag, .slice K ks.length kc] KC8.out _ Try.underlying26 rfl (by kernel_rfl) ?_; simp only [Act.put, List.setIfInBounds_toArray, List.set_cons_zero, List.set_cons_succ]) | (refine quiet_load_mid (by rfl) 33 _ rfl _ _ rfl _ HJr.out _ Try.underlying33 rfl (by kernel_rfl) ?_; simp only [Act.put, List.setIfInBounds_toArray, List.set_cons_zero, List.set_cons_succ]) | go_big_quiet_step (first | fail | exact Calls.regrown_of (HKX.out Y cj _ ((HK.out.up (below_up HBr.out HD8.out)).up (below_regrown _ _ _)) ((HJ.out.2.up HD8.out).up (below_regrown _ _ _)))))
      refine wpQuiet_nil ?_
      intro _ hw'
      obtain ⟨⟨dq, osq⟩, hw''⟩ := hw'
      subst hw''
      have hBq := below_regrown w8 dq osq
      generalize grow (redrawn w8 dq) osq = w9 at *
      have HD9 := Lib.hid (below_up HD8.out hBq)
      have KC9 := Lib.hid (KC8.out.below hBq KC8.out.lt)
      have KJ9 := Lib.hid (KJ8.out.below hBq KJ8.out.lt)
      clear hBq KC8 KJ8 HD8 HJr
      go_wp2_with (first | (refine wpList_load_row rfl 26 _ rfl _ rfl 26 #[.int .i64 d0, .int .i64 d1, .int .i64 d2, .int .i64 bo, .int .i64 fr, .int .i64 tr, .int .i64 ag, .slice K ks.length kc] (0, 0) _ KC9.out Try.underlying26 rfl (by kernel_rfl) ?_) | (refine wpList_load_row rfl 33 _ rfl _ rfl 33 #[.int .i64 x.id, .int .i64 x.us, .int .i64 x.cl, .int .i64 x.x.a, .int .i64 x.x.b, .int .i64 x.x.c, .bool x.x.p, .bool x.x.q, .bool x.x.r, .bool x.x.tn, .int .i64 x.wa, .int .i64 (x.pr + 1), .bool x.he, .slice Y x.af.length cj, .int .u8 x.st, .int .i64 x.ca] (0, 0) _ KJ9.out Try.underlying33 rfl (by kernel_rfl) ?_))
      refine (HKA.out Y cj _ (HK.out.up (below_up HBr.out HD9.out)) (HJ.out.2.up HD9.out)).mono ?_
      rintro e w10 ⟨rfl, hB10⟩
      have HD10 := Lib.hid (below_up HD9.out hB10)
      have KC10 := Lib.hid (KC9.out.below hB10 KC9.out.lt)
      have KJ10 := Lib.hid (KJ9.out.below hB10 KJ9.out.lt)
      clear hB10 KC9 KJ9 HD9
      have y11 : w10.cell? ⟨wr.heap.size, 11, none⟩ = some (.int .i64 (x.pr + 1)) := KJ10.out.cell 11
      have y15 : w10.cell? ⟨wr.heap.size, 15, none⟩ = some (.int .i64 x.ca) := KJ10.out.cell 15
      have f11 : w10.frozen? ⟨wr.heap.size, 11, none⟩ = false := KJ10.out.frozen 11
      have f15 : w10.frozen? ⟨wr.heap.size, 15, none⟩ = false := KJ10.out.frozen 15
      have x6 : w10.cell? ⟨w.heap.size, 6, none⟩ = some (.int .i64 ag) := KC10.out.cell 6
      have hwl := KCr.out.lt
      have hne : ¬ wr.heap.size = w.heap.size := by omega
      have hne2 : ¬ w.heap.size = wr.heap.size := by omega
      clear hwl
      go_upto_region 27 with fail
      have kj11 : Blk ((w10.setCell ⟨wr.heap.size, 11, none⟩ (.int .i64 x.pr)).setCell ⟨wr.heap.size, 15, none⟩ (.int .i64 (x.ca - ag))) wr.heap.size 33 #[.int .i64 x.id, .int .i64 x.us, .int .i64 x.cl, .int .i64 x.x.a, .int .i64 x.x.b, .int .i64 x.x.c, .bool x.x.p, .bool x.x.q, .bool x.x.r, .bool x.x.tn, .int .i64 x.wa, .int .i64 x.pr, .bool x.he, .slice Y x.af.length cj, .int .u8 x.st, .int .i64 (x.ca - ag)] := (KJ10.out.set_ 11 (.int .i64 x.pr)).set_ 15 (.int .i64 (x.ca - ag))
      have hd11 := (HD10.out.setCell (p := ⟨wr.heap.size, 11, none⟩) (Nat.le_refl _) (.int .i64 x.pr)).setCell (p := ⟨wr.heap.size, 15, none⟩) (Nat.le_refl _) (.int .i64 (x.ca - ag))
      clear y11 y15 f11 f15 x6
      generalize (w10.setCell ⟨wr.heap.size, 11, none⟩ (.int .i64 x.pr)).setCell ⟨wr.heap.size, 15, none⟩ (.int .i64 (x.ca - ag)) = w11 at *
      have KJ11 := Lib.hid kj11
      have HD11 := Lib.hid hd11
      have KC11 := Lib.hid (KCr.out.below hd11 KCr.out.lt)
      clear kj11 hd11 hne hne2 KC10 KJ10 HD10
      go_wp2_with (first | (refine wpList_load_row rfl 26 _ rfl _ rfl 26 #[.int .i64 d0, .int .i64 d1, .int .i64 d2, .int .i64 bo, .int .i64 fr, .int .i64 tr, .int .i64 ag, .slice K ks.length kc] (0, 0) _ KC11.out Try.underlying26 rfl (by kernel_rfl) ?_) | (refine wpList_load_row rfl 33 _ rfl _ rfl 33 #[.int .i64 x.id, .int .i64 x.us, .int .i64 x.cl, .int .i64 x.x.a, .int .i64 x.x.b, .int .i64 x.x.c, .bool x.x.p, .bool x.x.q, .bool x.x.r, .bool x.x.tn, .int .i64 x.wa, .int .i64 x.pr, .bool x.he, .slice Y x.af.length cj, .int .u8 x.st, .int .i64 (x.ca - ag)] (0, 0) _ KJ11.out Try.underlying33 rfl (by kernel_rfl) ?_))
      refine (HKB.out Y cj _ (HK.out.up (below_up HBr.out HD11.out)) (HJ.out.2.up HD11.out)).mono ?_
      rintro e w12 ⟨rfl, hB12⟩
      have HB12 := Lib.hid (below_up (below_up HBr.out HD11.out) hB12)
      have KC12 := KC11.out.below hB12 KC11.out.lt
      have x6 : w12.cell? ⟨w.heap.size, 6, none⟩ = some (.int .i64 ag) := KC12.cell 6
      clear hB12 KC11 KJ11 HD11 KC12
      have hee : (KX + ag == KX + ag) = true := by simp
      by_cases hch : CH = 0
      · have e1 := HCH.out hch
        subst hch e1
        by_cases hcs : CS = 0
        · have e2 := HCS.out hcs
          subst hcs e2
          go_wp2_with fail
          go_ret
          exact ⟨rfl, HB12.out⟩
        · have hc2 : (CS != 0) = true := by simpa using hcs
          go_wp2_with fail
          go_ret
          exact ⟨rfl, HB12.out⟩
      · have hc1 : (CH != 0) = true := by simpa using hch
        by_cases hcs : CS = 0
        · have e2 := HCS.out hcs
          subst hcs e2
          go_wp2_with fail
          go_ret
          exact ⟨rfl, HB12.out⟩
        · have hc2 : (CS != 0) = true := by simpa using hcs
          go_wp2_with fail
          go_ret
          exact ⟨rfl, HB12.out⟩
theorem steadyLaw (w : World) (d0 d1 d2 bo fr tr ag : Int) (K : Option Addr) (kc : Nat) (ks : List Cls) (hkc : ks.length ≤ kc) (hkm : kc ≤ maxLen) (hk : ClsAt w w.heap.size K ks)
    (X : Option Addr) (cX : Nat) (l : List JV) (hlc : l.length ≤ cX) (hlm : cX ≤ maxLen) (hX : JobsAt w X l) (hla : ∀ j ∈ l, JWf j ∧ j.af.length ≤ maxLen) (n : Int) (wn : (Lit.int .i64 n).wf = true) :
    Calls Try.prog 11 #[.agg #[.int .i64 d0, .int .i64 d1, .int .i64 d2, .int .i64 bo, .int .i64 fr, .int .i64 tr, .int .i64 ag, .slice K ks.length kc], .slice X l.length cX, .int .i64 n] w fun e w' => e = .returned (.bool true) ∧ Below w.heap.size w w' := by
  have hlk : ks.length ≤ maxLen := Nat.le_trans hkc hkm
  have hl : l.length ≤ maxLen := Nat.le_trans hlc hlm
  by_cases h0 : (100 : Int) < (ks.length : Int)
  · exact rt_cls d0 d1 d2 bo fr tr ag K kc ks hlk X cX l hl hla n h0 w hk hX
  · cases h1 : greatB l
    · by_cases hn0 : n < 0
      · exact rt_low d0 d1 d2 bo fr tr ag K kc ks hlk X cX l hl hla n h0 h1 hn0 w hk hX
      · by_cases hn1 : (l.length : Int) ≤ n
        · exact rt_high d0 d1 d2 bo fr tr ag K kc ks hlk X cX l hl hla n h0 h1 hn0 hn1 w hk hX
        · by_cases hv : tableV d0 d1 d2 bo fr tr ag ks l = 0
          · obtain ⟨k, rfl⟩ : ∃ k : Nat, n = k := ⟨n.toNat, by omega⟩
            exact rt_main d0 d1 d2 bo fr tr ag K kc ks hlk X cX l hl hla k h0 h1 (by omega) hv w hk hX
          · exact rt_bad d0 d1 d2 bo fr tr ag K kc ks hlk X cX l hl hla n h0 h1 hn0 hn1 hv w hk hX
    · exact rt_great d0 d1 d2 bo fr tr ag K kc ks hlk X cX l hl hla n h0 h1 w hk hX
end Go.Proofs.Ytfpljpdjohmbaaa.RankSteadyLaw
