/- DepsReady: the walk. -/
import Derived.BigRegion
import Derived.BigQuiet
import Derived.Lib.QuietBelow
import Derived.Deep.QuietTactic
import Derived.Deep.DeepCutAuto
import Derived.Deep.MidRow
import Derived.Test.YtfpljpdjohmbaaaOpenJob
import Derived.Test.YtfpljpdjohmbaaaJobTable
import Derived.Test.YtfpljpdjohmbaaaJobGreat
import Derived.Test.YtfpljpdjohmbaaaDepsAlive
import Derived.Test.YtfpljpdjohmbaaaDepsReady
import Derived.Test.YtfpljpdjohmbaaaDepsWant
import Derived.Test.YtfpljpdjohmbaaaQuietRow
namespace Go.Proofs.Ytfpljpdjohmbaaa.DepsReadyLaw
open Go.Sort (grow)
open Go.RowKit Mem PosMath PartMath TurnMath TurnMap TurnFitsV JobMath JobIndex JobMem JobTable JobTwin JobSame JobRSame JobGreat DepsStates DepsSettle DepsAlive DepsMath DepsMath2 DepsReady DepsWant QuietRow Lay
set_option linter.unusedVariables false
set_option linter.unusedSimpArgs false

set_option maxRecDepth 100000 in
set_option maxHeartbeats 16000000 in
theorem dr_cls (d0 d1 d2 bo fr tr ag : Int) (K : Option Addr) (kc : Nat) (ks : List Cls) (hlk : ks.length ≤ maxLen) (X : Option Addr) (cX : Nat) (l : List JV) (hl : l.length ≤ maxLen) (hla : ∀ j ∈ l, JWf j ∧ j.af.length ≤ maxLen) (n : Int) (h0 : (100 : Int) < (ks.length : Int)) (w : World) (hk : ClsAt w w.heap.size K ks) (hX : JobsAt w X l) :
    Calls Try.prog 14 #[.agg #[.int .i64 d0, .int .i64 d1, .int .i64 d2, .int .i64 bo, .int .i64 fr, .int .i64 tr, .int .i64 ag, .slice K ks.length kc], .slice X l.length cX, .int .i64 n] w fun e w' => e = .returned (.bool true) ∧ Below w.heap.size w w' := by
  unfold maxLen at hlk hl
  clear hk hX
  go_enter Try.func14, Try.ntmps14
  go_upto_region 1 with fail
  have kc0 : Blk (w.alloc (.cells #[.int .i64 d0, .int .i64 d1, .int .i64 d2, .int .i64 bo, .int .i64 fr, .int .i64 tr, .int .i64 ag, .slice K ks.length kc] 26)) w.heap.size 26 #[.int .i64 d0, .int .i64 d1, .int .i64 d2, .int .i64 bo, .int .i64 fr, .int .i64 tr, .int .i64 ag, .slice K ks.length kc] := Blk.new w _ _
  have hb0 : Below w.heap.size w (w.alloc (.cells #[.int .i64 d0, .int .i64 d1, .int .i64 d2, .int .i64 bo, .int .i64 fr, .int .i64 tr, .int .i64 ag, .slice K ks.length kc] 26)) := below_alloc (Below.refl _ _)
  generalize (w.alloc (.cells #[.int .i64 d0, .int .i64 d1, .int .i64 d2, .int .i64 bo, .int .i64 fr, .int .i64 tr, .int .i64 ag, .slice K ks.length kc] 26)) = w0 at *
  have HB0 := Lib.hid hb0
  have KC0 := Lib.hid kc0
  clear hb0 kc0
  go_wp2_with fail
  refine (dalive _).mono ?_
  rintro e w1 ⟨rfl, hB1⟩
  have HB1 := Lib.hid (below_up HB0.out hB1)
  have KC1 := Lib.hid (KC0.out.below hB1 KC0.out.lt)
  have xk : w1.cell? ⟨w.heap.size, 7, none⟩ = some (.slice K ks.length kc) := KC1.out.cell 7
  clear hB1 KC0 HB0
  go_wp2_with fail
  go_ret
  exact ⟨rfl, HB1.out⟩
set_option maxRecDepth 100000 in
set_option maxHeartbeats 16000000 in
theorem dr_great (d0 d1 d2 bo fr tr ag : Int) (K : Option Addr) (kc : Nat) (ks : List Cls) (hlk : ks.length ≤ maxLen) (X : Option Addr) (cX : Nat) (l : List JV) (hl : l.length ≤ maxLen) (hla : ∀ j ∈ l, JWf j ∧ j.af.length ≤ maxLen) (n : Int) (h0 : ¬ (100 : Int) < (ks.length : Int)) (h1 : greatB l = true) (w : World) (hk : ClsAt w w.heap.size K ks) (hX : JobsAt w X l) :
    Calls Try.prog 14 #[.agg #[.int .i64 d0, .int .i64 d1, .int .i64 d2, .int .i64 bo, .int .i64 fr, .int .i64 tr, .int .i64 ag, .slice K ks.length kc], .slice X l.length cX, .int .i64 n] w fun e w' => e = .returned (.bool true) ∧ Below w.heap.size w w' := by
  unfold maxLen at hlk hl
  have HG1 := Lib.hid (fun w h => great_big X cX l (by omega) (fun j hj => by have := (hla j hj).2; unfold maxLen at this; omega) w h)
  rw [h1] at HG1
  have HX := Lib.hid hX
  clear hk hX h1
  go_enter Try.func14, Try.ntmps14
  go_upto_region 1 with fail
  have kc0 : Blk (w.alloc (.cells #[.int .i64 d0, .int .i64 d1, .int .i64 d2, .int .i64 bo, .int .i64 fr, .int .i64 tr, .int .i64 ag, .slice K ks.length kc] 26)) w.heap.size 26 #[.int .i64 d0, .int .i64 d1, .int .i64 d2, .int .i64 bo, .int .i64 fr, .int .i64 tr, .int .i64 ag, .slice K ks.length kc] := Blk.new w _ _
  have hb0 : Below w.heap.size w (w.alloc (.cells #[.int .i64 d0, .int .i64 d1, .int .i64 d2, .int .i64 bo, .int .i64 fr, .int .i64 tr, .int .i64 ag, .slice K ks.length kc] 26)) := below_alloc (Below.refl _ _)
  generalize (w.alloc (.cells #[.int .i64 d0, .int .i64 d1, .int .i64 d2, .int .i64 bo, .int .i64 fr, .int .i64 tr, .int .i64 ag, .slice K ks.length kc] 26)) = w0 at *
  have HB0 := Lib.hid hb0
  have KC0 := Lib.hid kc0
  clear hb0 kc0
  go_wp2_with fail
  refine (dalive _).mono ?_
  rintro e w1 ⟨rfl, hB1⟩
  have HB1 := Lib.hid (below_up HB0.out hB1)
  have KC1 := Lib.hid (KC0.out.below hB1 KC0.out.lt)
  have xk : w1.cell? ⟨w.heap.size, 7, none⟩ = some (.slice K ks.length kc) := KC1.out.cell 7
  clear hB1 KC0 HB0
  go_wp2_with fail
  refine (HG1.out _ (HX.out.up HB1.out)).mono ?_
  rintro e w2 ⟨rfl, hB2⟩
  have HB2 := Lib.hid (below_up HB1.out hB2)
  have KC2 := Lib.hid (KC1.out.below hB2 KC1.out.lt)
  clear hB2 KC1 xk
  go_wp2_with fail
  go_ret
  exact ⟨rfl, HB2.out⟩
set_option maxRecDepth 100000 in
set_option maxHeartbeats 16000000 in
theorem dr_low (d0 d1 d2 bo fr tr ag : Int) (K : Option Addr) (kc : Nat) (ks : List Cls) (hlk : ks.length ≤ maxLen) (X : Option Addr) (cX : Nat) (l : List JV) (hl : l.length ≤ maxLen) (hla : ∀ j ∈ l, JWf j ∧ j.af.length ≤ maxLen) (n : Int) (h0 : ¬ (100 : Int) < (ks.length : Int)) (h1 : greatB l = false) (hn : n < 0) (w : World) (hk : ClsAt w w.heap.size K ks) (hX : JobsAt w X l) :
    Calls Try.prog 14 #[.agg #[.int .i64 d0, .int .i64 d1, .int .i64 d2, .int .i64 bo, .int .i64 fr, .int .i64 tr, .int .i64 ag, .slice K ks.length kc], .slice X l.length cX, .int .i64 n] w fun e w' => e = .returned (.bool true) ∧ Below w.heap.size w w' := by
  unfold maxLen at hlk hl
  have HG1 := Lib.hid (fun w h => great_big X cX l (by omega) (fun j hj => by have := (hla j hj).2; unfold maxLen at this; omega) w h)
  rw [h1] at HG1
  have HX := Lib.hid hX
  clear hk hX h1
  go_enter Try.func14, Try.ntmps14
  go_upto_region 1 with fail
  have kc0 : Blk (w.alloc (.cells #[.int .i64 d0, .int .i64 d1, .int .i64 d2, .int .i64 bo, .int .i64 fr, .int .i64 tr, .int .i64 ag, .slice K ks.length kc] 26)) w.heap.size 26 #[.int .i64 d0, .int .i64 d1, .int .i64 d2, .int .i64 bo, .int .i64 fr, .int .i64 tr, .int .i64 ag, .slice K ks.length kc] := Blk.new w _ _
  have hb0 : Below w.heap.size w (w.alloc (.cells #[.int .i64 d0, .int .i64 d1, .int .i64 d2, .int .i64 bo, .int .i64 fr, .int .i64 tr, .int .i64 ag, .slice K ks.length kc] 26)) := below_alloc (Below.refl _ _)
  generalize (w.alloc (.cells #[.int .i64 d0, .int .i64 d1, .int .i64 d2, .int .i64 bo, .int .i64 fr, .int .i64 tr, .int .i64 ag, .slice K ks.length kc] 26)) = w0 at *
  have HB0 := Lib.hid hb0
  have KC0 := Lib.hid kc0
  clear hb0 kc0
  go_wp2_with fail
  refine (dalive _).mono ?_
  rintro e w1 ⟨rfl, hB1⟩
  have HB1 := Lib.hid (below_up HB0.out hB1)
  have KC1 := Lib.hid (KC0.out.below hB1 KC0.out.lt)
  have xk : w1.cell? ⟨w.heap.size, 7, none⟩ = some (.slice K ks.length kc) := KC1.out.cell 7
  clear hB1 KC0 HB0
  go_wp2_with fail
  refine (HG1.out _ (HX.out.up HB1.out)).mono ?_
  rintro e w2 ⟨rfl, hB2⟩
  have HB2 := Lib.hid (below_up HB1.out hB2)
  have KC2 := Lib.hid (KC1.out.below hB2 KC1.out.lt)
  clear hB2 KC1 xk
  go_wp2_with fail
  go_ret
  exact ⟨rfl, HB2.out⟩
set_option maxRecDepth 100000 in
set_option maxHeartbeats 16000000 in
theorem dr_high (d0 d1 d2 bo fr tr ag : Int) (K : Option Addr) (kc : Nat) (ks : List Cls) (hlk : ks.length ≤ maxLen) (X : Option Addr) (cX : Nat) (l : List JV) (hl : l.length ≤ maxLen) (hla : ∀ j ∈ l, JWf j ∧ j.af.length ≤ maxLen) (n : Int) (h0 : ¬ (100 : Int) < (ks.length : Int)) (h1 : greatB l = false) (hn0 : ¬ n < 0) (hn : (l.length : Int) ≤ n) (w : World) (hk : ClsAt w w.heap.size K ks) (hX : JobsAt w X l) :
    Calls Try.prog 14 #[.agg #[.int .i64 d0, .int .i64 d1, .int .i64 d2, .int .i64 bo, .int .i64 fr, .int .i64 tr, .int .i64 ag, .slice K ks.length kc], .slice X l.length cX, .int .i64 n] w fun e w' => e = .returned (.bool true) ∧ Below w.heap.size w w' := by
  unfold maxLen at hlk hl
  have HG1 := Lib.hid (fun w h => great_big X cX l (by omega) (fun j hj => by have := (hla j hj).2; unfold maxLen at this; omega) w h)
  rw [h1] at HG1
  have HX := Lib.hid hX
  clear hk hX h1
  go_enter Try.func14, Try.ntmps14
  go_upto_region 1 with fail
  have kc0 : Blk (w.alloc (.cells #[.int .i64 d0, .int .i64 d1, .int .i64 d2, .int .i64 bo, .int .i64 fr, .int .i64 tr, .int .i64 ag, .slice K ks.length kc] 26)) w.heap.size 26 #[.int .i64 d0, .int .i64 d1, .int .i64 d2, .int .i64 bo, .int .i64 fr, .int .i64 tr, .int .i64 ag, .slice K ks.length kc] := Blk.new w _ _
  have hb0 : Below w.heap.size w (w.alloc (.cells #[.int .i64 d0, .int .i64 d1, .int .i64 d2, .int .i64 bo, .int .i64 fr, .int .i64 tr, .int .i64 ag, .slice K ks.length kc] 26)) := below_alloc (Below.refl _ _)
  generalize (w.alloc (.cells #[.int .i64 d0, .int .i64 d1, .int .i64 d2, .int .i64 bo, .int .i64 fr, .int .i64 tr, .int .i64 ag, .slice K ks.length kc] 26)) = w0 at *
  have HB0 := Lib.hid hb0
  have KC0 := Lib.hid kc0
  clear hb0 kc0
  go_wp2_with fail
  refine (dalive _).mono ?_
  rintro e w1 ⟨rfl, hB1⟩
  have HB1 := Lib.hid (below_up HB0.out hB1)
  have KC1 := Lib.hid (KC0.out.below hB1 KC0.out.lt)
  have xk : w1.cell? ⟨w.heap.size, 7, none⟩ = some (.slice K ks.length kc) := KC1.out.cell 7
  clear hB1 KC0 HB0
  go_wp2_with fail
  refine (HG1.out _ (HX.out.up HB1.out)).mono ?_
  rintro e w2 ⟨rfl, hB2⟩
  have HB2 := Lib.hid (below_up HB1.out hB2)
  have KC2 := Lib.hid (KC1.out.below hB2 KC1.out.lt)
  clear hB2 KC1 xk
  go_wp2_with fail
  go_ret
  exact ⟨rfl, HB2.out⟩
set_option maxRecDepth 100000 in
set_option maxHeartbeats 16000000 in
theorem dr_bad (d0 d1 d2 bo fr tr ag : Int) (K : Option Addr) (kc : Nat) (ks : List Cls) (hlk : ks.length ≤ maxLen) (X : Option Addr) (cX : Nat) (l : List JV) (hl : l.length ≤ maxLen) (hla : ∀ j ∈ l, JWf j ∧ j.af.length ≤ maxLen) (n : Int) (h0 : ¬ (100 : Int) < (ks.length : Int)) (h1 : greatB l = false) (hn0 : ¬ n < 0) (hn1 : ¬ (l.length : Int) ≤ n) (hv : tableV d0 d1 d2 bo fr tr ag ks l ≠ 0) (w : World) (hk : ClsAt w w.heap.size K ks) (hX : JobsAt w X l) :
    Calls Try.prog 14 #[.agg #[.int .i64 d0, .int .i64 d1, .int .i64 d2, .int .i64 bo, .int .i64 fr, .int .i64 tr, .int .i64 ag, .slice K ks.length kc], .slice X l.length cX, .int .i64 n] w fun e w' => e = .returned (.bool true) ∧ Below w.heap.size w w' := by
  unfold maxLen at hlk hl
  have HG1 := Lib.hid (fun w h => great_big X cX l (by omega) (fun j hj => by have := (hla j hj).2; unfold maxLen at this; omega) w h)
  rw [h1] at HG1
  obtain ⟨hl1, hl2⟩ := great_not h1
  have hlj : ∀ j ∈ l, JWf j := fun j hj => (hla j hj).1
  have hl4 : ∀ j ∈ l, j.af.length ≤ 1000 := fun j hj => by have := hl2 j hj; omega
  have HX := Lib.hid hX
  have HK := Lib.hid hk
  have HT := Lib.hid (fun w hk hX => table_any d0 d1 d2 bo fr tr ag K kc ks (by omega) X cX l (by omega) (fun j hj => by have := hl4 j hj; omega) w hk hX)
  generalize tableV d0 d1 d2 bo fr tr ag ks l = V at *
  have hv' : (V != 0) = true := by simpa using hv
  clear hk hX h1 hlj hl4 hl2 hv
  go_enter Try.func14, Try.ntmps14
  go_upto_region 1 with fail
  have kc0 : Blk (w.alloc (.cells #[.int .i64 d0, .int .i64 d1, .int .i64 d2, .int .i64 bo, .int .i64 fr, .int .i64 tr, .int .i64 ag, .slice K ks.length kc] 26)) w.heap.size 26 #[.int .i64 d0, .int .i64 d1, .int .i64 d2, .int .i64 bo, .int .i64 fr, .int .i64 tr, .int .i64 ag, .slice K ks.length kc] := Blk.new w _ _
  have hb0 : Below w.heap.size w (w.alloc (.cells #[.int .i64 d0, .int .i64 d1, .int .i64 d2, .int .i64 bo, .int .i64 fr, .int .i64 tr, .int .i64 ag, .slice K ks.length kc] 26)) := below_alloc (Below.refl _ _)
  generalize (w.alloc (.cells #[.int .i64 d0, .int .i64 d1, .int .i64 d2, .int .i64 bo, .int .i64 fr, .int .i64 tr, .int .i64 ag, .slice K ks.length kc] 26)) = w0 at *
  have HB0 := Lib.hid hb0
  have KC0 := Lib.hid kc0
  clear hb0 kc0
  go_wp2_with fail
  refine (dalive _).mono ?_
  rintro e w1 ⟨rfl, hB1⟩
  have HB1 := Lib.hid (below_up HB0.out hB1)
  have KC1 := Lib.hid (KC0.out.below hB1 KC0.out.lt)
  have xk : w1.cell? ⟨w.heap.size, 7, none⟩ = some (.slice K ks.length kc) := KC1.out.cell 7
  clear hB1 KC0 HB0
  go_wp2_with fail
  refine (HG1.out _ (HX.out.up HB1.out)).mono ?_
  rintro e w2 ⟨rfl, hB2⟩
  have HB2 := Lib.hid (below_up HB1.out hB2)
  have KC2 := Lib.hid (KC1.out.below hB2 KC1.out.lt)
  clear hB2 KC1 xk
  have q0 : w2.cell? ⟨w.heap.size, 0, none⟩ = some (.int .i64 d0) := KC2.out.cell 0
  have q1 : w2.cell? ⟨w.heap.size, 1, none⟩ = some (.int .i64 d1) := KC2.out.cell 1
  have q2 : w2.cell? ⟨w.heap.size, 2, none⟩ = some (.int .i64 d2) := KC2.out.cell 2
  have q3 : w2.cell? ⟨w.heap.size, 3, none⟩ = some (.int .i64 bo) := KC2.out.cell 3
  have q4 : w2.cell? ⟨w.heap.size, 4, none⟩ = some (.int .i64 fr) := KC2.out.cell 4
  have q5 : w2.cell? ⟨w.heap.size, 5, none⟩ = some (.int .i64 tr) := KC2.out.cell 5
  have q6 : w2.cell? ⟨w.heap.size, 6, none⟩ = some (.int .i64 ag) := KC2.out.cell 6
  have q7 : w2.cell? ⟨w.heap.size, 7, none⟩ = some (.slice K ks.length kc) := KC2.out.cell 7
  go_wp2_with fail
  refine (HT.out _ (HK.out.up HB2.out) (HX.out.up HB2.out)).mono ?_
  rintro e w3 ⟨rfl, hB3⟩
  have HB3 := Lib.hid (below_up HB2.out hB3)
  have KC3 := Lib.hid (KC2.out.below hB3 KC2.out.lt)
  clear hB3 KC2 HT HB2 HG1 q0 q1 q2 q3 q4 q5 q6 q7
  go_wp2_with fail
  go_ret
  exact ⟨rfl, HB3.out⟩
set_option maxRecDepth 100000 in
set_option maxHeartbeats 16000000 in
theorem dr_main (d0 d1 d2 bo fr tr ag : Int) (K : Option Addr) (kc : Nat) (ks : List Cls) (hlk : ks.length ≤ maxLen) (X : Option Addr) (cX : Nat) (l : List JV) (hl : l.length ≤ maxLen) (hla : ∀ j ∈ l, JWf j ∧ j.af.length ≤ maxLen) (k : Nat) (h0 : ¬ (100 : Int) < (ks.length : Int)) (h1 : greatB l = false) (hkl : k < l.length) (hv : tableV d0 d1 d2 bo fr tr ag ks l = 0) (w : World) (hk : ClsAt w w.heap.size K ks) (hX : JobsAt w X l) :
    Calls Try.prog 14 #[.agg #[.int .i64 d0, .int .i64 d1, .int .i64 d2, .int .i64 bo, .int .i64 fr, .int .i64 tr, .int .i64 ag, .slice K ks.length kc], .slice X l.length cX, .int .i64 (k : Int)] w fun e w' => e = .returned (.bool true) ∧ Below w.heap.size w w' := by
  unfold maxLen at hlk hl
  have HG1 := Lib.hid (fun w h => great_big X cX l (by omega) (fun j hj => by have := (hla j hj).2; unfold maxLen at this; omega) w h)
  rw [h1] at HG1
  obtain ⟨hl1, hl2⟩ := great_not h1
  have hlj : ∀ j ∈ l, JWf j := fun j hj => (hla j hj).1
  have hl4 : ∀ j ∈ l, j.af.length ≤ 1000 := fun j hj => by have := hl2 j hj; omega
  have HX := Lib.hid hX
  have HK := Lib.hid hk
  have HT := Lib.hid (fun w hk hX => table_any d0 d1 d2 bo fr tr ag K kc ks (by omega) X cX l (by omega) (fun j hj => by have := hl4 j hj; omega) w hk hX)
  have hg : l[k]? = some l[k] := List.getElem?_eq_getElem hkl
  generalize l[k] = j at hg
  have hjm := List.mem_of_getElem? hg
  obtain ⟨ha, hv2, ha2, hr2⟩ := ready_plain hv hg
  have hpl := part_len l j l.length
  have hms : ∀ q ∈ (partD l j l.length).set k (wakes j), JWf q ∧ q.af.length ≤ 1000 := fun q hq => by
    rcases List.mem_or_eq_of_mem_set hq with h | rfl
    · unfold partD at h
      rw [List.take_length, List.drop_length, List.append_nil] at h
      obtain ⟨x, hx, rfl⟩ := List.mem_map.1 h
      unfold markD
      split
      · obtain ⟨a, b, c, d, e, f, g, i⟩ := hlj x hx
        exact ⟨⟨a, b, c, d, e, f, rfl, i⟩, hl4 x hx⟩
      · exact ⟨hlj x hx, hl4 x hx⟩
    · obtain ⟨a, b, c, d, e, f, g, i⟩ := hlj j hjm
      exact ⟨⟨a, b, c, d, e, f, rfl, i⟩, hl4 j hjm⟩
  have hget2 : ((partD l j l.length).set k (wakes j))[k]? = some (wakes j) := by rw [List.getElem?_set_self (by omega)]
  have HR1 := Lib.hid (fun w hk hX => ready_ok d0 d1 d2 bo fr tr ag K kc ks (by omega) X cX l (by omega) hl4 j.id hlj hv k j ha hg w hk hX)
  have HR2 := Lib.hid (fun (X1 : Option Addr) (c1 : Nat) (w : World) (hk : ClsAt w w.heap.size K ks) (hX : JobsAt w X1 ((partD l j l.length).set k (wakes j))) =>
    (show Calls Try.prog 38 #[.agg #[.int .i64 d0, .int .i64 d1, .int .i64 d2, .int .i64 bo, .int .i64 fr, .int .i64 tr, .int .i64 ag, .slice K ks.length kc], .slice X1 l.length c1, .int .i64 j.id] w (fun e w' => e = .returned (.tuple #[.bool true, .int .i64 0]) ∧ Below w.heap.size w w') from by
      have h := ready_ok d0 d1 d2 bo fr tr ag K kc ks (by omega) X1 c1 ((partD l j l.length).set k (wakes j)) (by rw [List.length_set]; omega) (fun q hq => (hms q hq).2) j.id (fun q hq => (hms q hq).1) hv2 k (wakes j) ha2 hget2 w hk hX
      rw [List.length_set, hpl, hr2] at h
      exact h))
  have HTW := Lib.hid (fun w hX => twin_any X cX l (by omega) hl4 w hX)
  have hwa := want_all hv hg
  have hja : j.af.length ≤ 1000 := hl4 j hjm
  rw [hv] at HT
  generalize readyV l j = R at *
  have HWA := Lib.hid hwa
  have hki : (k : Int) < (l.length : Int) := by omega
  have hki0 : (0 : Int) ≤ (k : Int) := by omega
  have hki1 : ¬ ((k : Int) < 0) := by omega
  have hki2 : ¬ ((l.length : Int) ≤ (k : Int)) := by omega
  have HG := Lib.hid hg
  clear hk hX h1 hlj hl4 hl2 hv hv2 ha ha2 hr2 hms hget2 hwa hg hjm hpl
  go_enter Try.func14, Try.ntmps14
  go_upto_region 1 with fail
  have kc0 : Blk (w.alloc (.cells #[.int .i64 d0, .int .i64 d1, .int .i64 d2, .int .i64 bo, .int .i64 fr, .int .i64 tr, .int .i64 ag, .slice K ks.length kc] 26)) w.heap.size 26 #[.int .i64 d0, .int .i64 d1, .int .i64 d2, .int .i64 bo, .int .i64 fr, .int .i64 tr, .int .i64 ag, .slice K ks.length kc] := Blk.new w _ _
  have hb0 : Below w.heap.size w (w.alloc (.cells #[.int .i64 d0, .int .i64 d1, .int .i64 d2, .int .i64 bo, .int .i64 fr, .int .i64 tr, .int .i64 ag, .slice K ks.length kc] 26)) := below_alloc (Below.refl _ _)
  generalize (w.alloc (.cells #[.int .i64 d0, .int .i64 d1, .int .i64 d2, .int .i64 bo, .int .i64 fr, .int .i64 tr, .int .i64 ag, .slice K ks.length kc] 26)) = w0 at *
  have HB0 := Lib.hid hb0
  have KC0 := Lib.hid kc0
  clear hb0 kc0
  go_wp2_with fail
  refine (dalive _).mono ?_
  rintro e w1 ⟨rfl, hB1⟩
  have HB1 := Lib.hid (below_up HB0.out hB1)
  have KC1 := Lib.hid (KC0.out.below hB1 KC0.out.lt)
  have xk : w1.cell? ⟨w.heap.size, 7, none⟩ = some (.slice K ks.length kc) := KC1.out.cell 7
  clear hB1 KC0 HB0
  go_wp2_with fail
  refine (HG1.out _ (HX.out.up HB1.out)).mono ?_
  rintro e w2 ⟨rfl, hB2⟩
  have HB2 := Lib.hid (below_up HB1.out hB2)
  have KC2 := Lib.hid (KC1.out.below hB2 KC1.out.lt)
  clear hB2 KC1 xk
  have q0 : w2.cell? ⟨w.heap.size, 0, none⟩ = some (.int .i64 d0) := KC2.out.cell 0
  have q1 : w2.cell? ⟨w.heap.size, 1, none⟩ = some (.int .i64 d1) := KC2.out.cell 1
  have q2 : w2.cell? ⟨w.heap.size, 2, none⟩ = some (.int .i64 d2) := KC2.out.cell 2
  have q3 : w2.cell? ⟨w.heap.size, 3, none⟩ = some (.int .i64 bo) := KC2.out.cell 3
  have q4 : w2.cell? ⟨w.heap.size, 4, none⟩ = some (.int .i64 fr) := KC2.out.cell 4
  have q5 : w2.cell? ⟨w.heap.size, 5, none⟩ = some (.int .i64 tr) := KC2.out.cell 5
  have q6 : w2.cell? ⟨w.heap.size, 6, none⟩ = some (.int .i64 ag) := KC2.out.cell 6
  have q7 : w2.cell? ⟨w.heap.size, 7, none⟩ = some (.slice K ks.length kc) := KC2.out.cell 7
  go_wp2_with fail
  refine (HT.out _ (HK.out.up HB2.out) (HX.out.up HB2.out)).mono ?_
  rintro e w3 ⟨rfl, hB3⟩
  have HB3 := Lib.hid (below_up HB2.out hB3)
  have KC3 := Lib.hid (KC2.out.below hB3 KC2.out.lt)
  clear hB3 KC2 HT HB2 HG1 q0 q1 q2 q3 q4 q5 q6 q7
  go_wp2_with fail
  obtain ⟨b, o, Y, cj, hXe, hb, hJ, hY⟩ := HX.out.up HB3.out k j HG.out
  have yid : w3.cell? ⟨b, o + k * 16, none⟩ = some (.int .i64 j.id) := hJ.1
  subst hXe
  have HY := Lib.hid hY
  have HJ := Lib.hid hJ
  clear hY hJ hb
  have kq0 := cell_regrown yid
  refine wp_region_quiet_below (by kernel_rfl) (by kernel_rfl) ?_
  repeat (first | (refine quiet_load_row (by rfl) 26 _ rfl _ rfl 26 #[.int .i64 d0, .int .i64 d1, .int .i64 d2, .int .i64 bo, .int .i64 fr, .int .i64 tr, .int .i64 ag, .slice K ks.length kc] KC3.out _ Try.underlying26 rfl (by kernel_rfl) ?_; simp only [Act.put, List.setIfInBounds_toArray, List.set_cons_zero, List.set_cons_succ]) | go_big_quiet_step (first | fail | exact Calls.regrown_of (HR1.out _ ((HK.out.up HB3.out).up (below_regrown _ _ _)) ((HX.out.up HB3.out).up (below_regrown _ _ _)))))
  refine wpQuiet_nil ?_
  intro _ hw'
  obtain ⟨⟨dq, osq⟩, hw''⟩ := hw'
  subst hw''
  have hBq := below_regrown w3 dq osq
  clear kq0
  generalize grow (redrawn w3 dq) osq = w4 at *
  have HB4 := Lib.hid (below_up HB3.out hBq)
  have KC4 := Lib.hid (KC3.out.below hBq KC3.out.lt)
  have HD4 := Lib.hid hBq
  clear hBq KC3 yid HR1
  go_wp2_with fail
  refine (HTW.out _ (HX.out.up HB4.out)).mono ?_
  rintro e w5 ⟨X1, c1, rfl, hO, hB5⟩
  have HB5 := Lib.hid (below_up HB4.out hB5)
  have HD5 := Lib.hid (below_up HD4.out hB5)
  have KC5 := Lib.hid (KC4.out.below hB5 KC4.out.lt)
  have HO5 := Lib.hid hO
  have y14 : w5.cell? ⟨b, o + k * 16 + 14, none⟩ = some (.int .u8 j.st) := (HJ.out.up HD5.out).2.2.2.2.2.2.2.2.2.2.2.2.2.2.1
  have y12 : w5.cell? ⟨b, o + k * 16 + 12, none⟩ = some (.bool j.he) := (HJ.out.up HD5.out).2.2.2.2.2.2.2.2.2.2.2.2.1
  have HB45 := Lib.hid hB5
  clear hB5 hO HTW
  go_upto_region 8 with fail
  go_cut [11] (fun s11 wx => s11 = .bool (decide (j.st = 1) && !j.he) ∧ wx = w5)
  case first =>
    by_cases h1 : j.st = 1
    · have e1 : (j.st == 1) = true := by simpa using h1
      have H1 := Lib.hid (decide_eq_true h1)
      clear h1
      go_wp2_with fail
      go_meet
      exact ⟨by rw [H1.out]; rfl, rfl⟩
    · have e1 : (j.st == 1) = false := by simpa using h1
      have H1 := Lib.hid (decide_eq_false h1)
      clear h1
      go_wp2_with fail
      go_meet
      exact ⟨by rw [H1.out]; rfl, rfl⟩
  case rest =>
    obtain ⟨rfl, rfl⟩ := hcut
    clear y14 y12
    go_wp2_with fail
    go_loopw [12, 11] (fun i s wr => ∃ (q : Nat) (B : Bool), q ≤ l.length ∧ i = .int .i64 q ∧ s = .bool B ∧ Hid (B = wantB l j q) ∧ Hid (JobsOwn wr w4.heap.size X1 (partD l j q)) ∧ Hid (Below w4.heap.size w4 wr))
      (fun i _ _ => l.length - (intOf i).toNat)
    case atStart => exact ⟨0, _, Nat.zero_le _, rfl, rfl, (want_zero l j).symm, by rw [part_zero]; exact HO5.out, HB45.out⟩
    case round =>
      obtain ⟨q, B, hq, rfl, rfl, hB, hO, hW⟩ := hrel
      clear HO5 HB45 HB5 HD5
      by_cases hlt : q < l.length
      · have hx : l[q]? = some l[q] := List.getElem?_eq_getElem hlt
        generalize l[q] = x at hx
        have hqi : (q : Int) < (l.length : Int) := by omega
        have hqi0 : (0 : Int) ≤ (q : Int) := by omega
        have HX1 := Lib.hid hx
        clear hx
        have y13o : wr.cell? ⟨b, o + k * 16 + 13, none⟩ = some (.slice Y j.af.length cj) := (HJ.out.up (below_up HD4.out hW.out)).2.2.2.2.2.2.2.2.2.2.2.2.2.1
        go_wp2_with fail
        go_loopw [13, 11] (fun t s wr => ∃ (p : Nat) (C : Bool), p ≤ j.af.length ∧ t = .int .i64 p ∧ s = .bool C ∧ Hid (C = (wantB l j q && (!hitsK j x p || decide (x.st = 3)))) ∧ Hid (JobsOwn wr w4.heap.size X1 ((partD l j q).set q (markD (hitsK j x p) x))) ∧ Hid (Below w4.heap.size w4 wr))
          (fun t _ _ => j.af.length - (intOf t).toNat)
        case atStart => exact ⟨0, _, Nat.zero_le _, rfl, rfl, Lib.hid (by rw [hits_none, hB.out]; simp), by rw [hits_none, set_none HX1.out]; exact hO.out, hW.out⟩
        case round =>
          clear hB hO hW y13o
          obtain ⟨p, C, hp, rfl, rfl, hC, hO, hW⟩ := hrel
          have HBB := Lib.hid (below_up HB4.out hW.out)
          have hD := below_up HD4.out hW.out
          have y13 : wr.cell? ⟨b, o + k * 16 + 13, none⟩ = some (.slice Y j.af.length cj) := (HJ.out.up hD).2.2.2.2.2.2.2.2.2.2.2.2.2.1
          by_cases hpl : p < j.af.length
          · have hv : j.af[p]? = some j.af[p] := List.getElem?_eq_getElem hpl
            generalize j.af[p] = v at hv
            have hpi : (p : Int) < (j.af.length : Int) := by omega
            have hpi0 : (0 : Int) ≤ (p : Int) := by omega
            obtain ⟨b3, o3, hYe, hb3, yv⟩ := (HY.out.up hD) p v hv
            rw [hYe] at y13
            obtain ⟨b2, o2, Y2, c2, hXe2, _, hJ2, _⟩ := (HX.out.up HBB.out) q x HX1.out
            have e2 : b2 = b ∧ o2 = o := by simp at hXe2; exact ⟨hXe2.1.symm, hXe2.2.symm⟩
            rw [e2.1, e2.2] at hJ2
            have yi : wr.cell? ⟨b, o + q * 16, none⟩ = some (.int .i64 x.id) := hJ2.1
            have HJ2 := Lib.hid hJ2
            have HV := Lib.hid hv
            clear hv hYe hb3 hXe2 hJ2 e2 hD
            go_upto_region 15 with fail
            have kq0 := cell_regrown yi
            have kq1 := cell_regrown y13
            have kq2 := cell_regrown yv
            refine wp_region_quiet_below (by kernel_rfl) (by kernel_rfl) ?_
            repeat (first | go_big_quiet_step (first | fail))
            refine wpQuiet_nil ?_
            intro _ hw'
            obtain ⟨⟨dq, osq⟩, hw''⟩ := hw'
            subst hw''
            have hBq := below_regrown wr dq osq
            clear kq0 kq1 kq2
            generalize grow (redrawn wr dq) osq = w7 at *
            have HB7 := Lib.hid hBq
            have HO7 := Lib.hid (hO.out.up hBq)
            have HW7 := Lib.hid (below_up hW.out hBq)
            have z14 : w7.cell? ⟨b, o + q * 16 + 14, none⟩ = some (.int .u8 x.st) := (HJ2.out.up hBq).2.2.2.2.2.2.2.2.2.2.2.2.2.2.1
            clear hBq yi yv y13 HJ2
            by_cases he : x.id = v
            · have e1 : (x.id == v) = true := by simpa using he
              have HE := Lib.hid (decide_eq_true he)
              clear he
              go_upto_region 16 with fail
              go_cut [11] (fun s11 wx => s11 = .bool (C && decide (x.st = 3)) ∧ wx = w7)
              case first =>
                rcases C with _ | _
                · go_wp2_with fail
                  go_meet
                  exact ⟨rfl, rfl⟩
                · by_cases h3 : x.st = 3
                  · have e3 : (x.st == 3) = true := by simpa using h3
                    have H3 := Lib.hid (decide_eq_true h3)
                    clear h3
                    go_wp2_with fail
                    go_meet
                    exact ⟨by rw [H3.out]; rfl, rfl⟩
                  · have e3 : (x.st == 3) = false := by simpa using h3
                    have H3 := Lib.hid (decide_eq_false h3)
                    clear h3
                    go_wp2_with fail
                    go_meet
                    exact ⟨by rw [H3.out]; rfl, rfl⟩
              case rest =>
                obtain ⟨rfl, rfl⟩ := hcut
                obtain ⟨g, Y4, c4, hXe4, hgB, hgs, hJ4, hF, _, _⟩ := HO7.out q _ (set_mark (k := p) HX1.out _)
                have u14 : wc.cell? ⟨g, q * 16 + 14, none⟩ = some (.int .u8 (markD (hitsK j x p) x).st) := hJ4.2.2.2.2.2.2.2.2.2.2.2.2.2.2.1
                have u12 : wc.cell? ⟨g, q * 16 + 12, none⟩ = some (.bool (markD (hitsK j x p) x).he) := hJ4.2.2.2.2.2.2.2.2.2.2.2.2.1
                have f14 : wc.frozen? ⟨g, q * 16 + 14, none⟩ = false := hF 14 (by omega)
                have f12 : wc.frozen? ⟨g, q * 16 + 12, none⟩ = false := hF 12 (by omega)
                subst hXe4
                have HGB := Lib.hid hgB
                clear hJ4 hF hgB hgs z14
                generalize (markD (hitsK j x p) x).st = st4 at u14
                generalize (markD (hitsK j x p) x).he = he4 at u12
                go_wp2_with fail
                have hO5 := JobsOwn.state 3 HO7.out (set_mark (k := p) HX1.out _)
                rw [mark_state, List.set_set] at hO5
                have hB5 := (HW7.out.setCell (p := ⟨g, q * 16 + 14, none⟩) HGB.out (.int .u8 3)).setCell (p := ⟨g, q * 16 + 12, none⟩) HGB.out (.bool false)
                have HO5 := Lib.hid hO5
                have HB5 := Lib.hid hB5
                clear hO5 hB5 u14 u12 f14 f12
                go_roundw
                case rel => exact ⟨p + 1, _, by omega, by go_num, rfl, by rw [hC.out, hits_step HV.out, HE.out, Bool.or_true]; exact want_hit _ _ _, by rw [hits_step HV.out, HE.out, Bool.or_true]; exact HO5.out, HB5.out⟩
                case measure => simp [intOf]; omega
            · have e1 : (x.id == v) = false := by simpa using he
              have HE := Lib.hid (decide_eq_false he)
              clear he
              go_wp2_with fail
              go_roundw
              case rel => exact ⟨p + 1, _, by omega, by go_num, rfl, by rw [hits_step HV.out, HE.out, Bool.or_false]; exact hC.out, by rw [hits_step HV.out, HE.out, Bool.or_false]; exact HO7.out, HW7.out⟩
              case measure => simp [intOf]; omega
          · obtain rfl : p = j.af.length := by omega
            have hpi : ¬ (j.af.length : Int) < (j.af.length : Int) := by omega
            clear hD
            go_wp2_with fail
            go_roundw
            case rel => exact ⟨q + 1, C, by omega, by go_num, rfl, Lib.hid (by rw [want_step HX1.out, hC.out, hits_all]), by rw [← part_set HX1.out, ← hits_all]; exact hO.out, hW.out⟩
            case measure => simp [intOf]; omega
      · obtain rfl : q = l.length := by omega
        have hqi : ¬ (l.length : Int) < (l.length : Int) := by omega
        obtain ⟨g, Y4, c4, hXe4, hgB, hgs, hJ4, hF, _, _⟩ := hO.out k _ (part_get HG.out)
        have u14 : wr.cell? ⟨g, k * 16 + 14, none⟩ = some (.int .u8 (markD (hits j j) j).st) := hJ4.2.2.2.2.2.2.2.2.2.2.2.2.2.2.1
        have u12 : wr.cell? ⟨g, k * 16 + 12, none⟩ = some (.bool (markD (hits j j) j).he) := hJ4.2.2.2.2.2.2.2.2.2.2.2.2.1
        have f14 : wr.frozen? ⟨g, k * 16 + 14, none⟩ = false := hF 14 (by omega)
        have f12 : wr.frozen? ⟨g, k * 16 + 12, none⟩ = false := hF 12 (by omega)
        subst hXe4
        have hO5 := JobsOwn.state 1 hO.out (part_get HG.out)
        rw [mark_wakes] at hO5
        have hB5 := (hW.out.setCell (p := ⟨g, k * 16 + 14, none⟩) hgB (.int .u8 1)).setCell (p := ⟨g, k * 16 + 12, none⟩) hgB (.bool false)
        have HO5 := Lib.hid hO5
        have HB5 := Lib.hid hB5
        have HEV := Lib.hid (hB.out.trans HWA.out)
        clear hJ4 hF hgB hgs hO5 hB5 hO hW hB HWA
        generalize (markD (hits j j) j).st = st4 at u14
        generalize (markD (hits j j) j).he = he4 at u12
        go_upto_region 21 with fail
        clear u14 u12 f14 f12
        generalize (wr.setCell ⟨g, k * 16 + 14, none⟩ (.int .u8 1)).setCell ⟨g, k * 16 + 12, none⟩ (.bool false) = w8 at *
        have HB8 := Lib.hid (below_up HB4.out HB5.out)
        have HD8 := Lib.hid (below_up HD4.out HB5.out)
        have KC8 := Lib.hid (KC4.out.below HB5.out KC4.out.lt)
        have yid : w8.cell? ⟨b, o + k * 16, none⟩ = some (.int .i64 j.id) := (HJ.out.up HD8.out).1
        have kq0 := cell_regrown yid
        refine wp_region_quiet_below (by kernel_rfl) (by kernel_rfl) ?_
        repeat (first | (refine quiet_load_row (by rfl) 26 _ rfl _ rfl 26 #[.int .i64 d0, .int .i64 d1, .int .i64 d2, .int .i64 bo, .int .i64 fr, .int .i64 tr, .int .i64 ag, .slice K ks.length kc] KC8.out _ Try.underlying26 rfl (by kernel_rfl) ?_; simp only [Act.put, List.setIfInBounds_toArray, List.set_cons_zero, List.set_cons_succ]) | go_big_quiet_step (first | fail | exact Calls.regrown_of (HR2.out (some ⟨g, 0, none⟩) c1 _ ((HK.out.up HB8.out).up (below_regrown _ _ _)) ((JobsOwn.jobs HO5.out).up (below_regrown _ _ _)))))
        refine wpQuiet_nil ?_
        intro _ hw'
        obtain ⟨⟨dq, osq⟩, hw''⟩ := hw'
        subst hw''
        have hBq := below_regrown w8 dq osq
        clear kq0
        generalize grow (redrawn w8 dq) osq = w9 at *
        have HB9 := Lib.hid (below_up HB8.out hBq)
        have er : (R == R) = true := by simp
        rw [HEV.out] at *
        clear hBq yid
        go_wp2_with fail
        go_ret
        exact ⟨rfl, HB9.out⟩
theorem readyLaw (w : World) (d0 d1 d2 bo fr tr ag : Int) (K : Option Addr) (kc : Nat) (ks : List Cls) (hkc : ks.length ≤ kc) (hkm : kc ≤ maxLen) (hk : ClsAt w w.heap.size K ks)
    (X : Option Addr) (cX : Nat) (l : List JV) (hlc : l.length ≤ cX) (hlm : cX ≤ maxLen) (hX : JobsAt w X l) (hla : ∀ j ∈ l, JWf j ∧ j.af.length ≤ maxLen) (n : Int) (wn : (Lit.int .i64 n).wf = true) :
    Calls Try.prog 14 #[.agg #[.int .i64 d0, .int .i64 d1, .int .i64 d2, .int .i64 bo, .int .i64 fr, .int .i64 tr, .int .i64 ag, .slice K ks.length kc], .slice X l.length cX, .int .i64 n] w fun e w' => e = .returned (.bool true) ∧ Below w.heap.size w w' := by
  have hlk : ks.length ≤ maxLen := Nat.le_trans hkc hkm
  have hl : l.length ≤ maxLen := Nat.le_trans hlc hlm
  by_cases h0 : (100 : Int) < (ks.length : Int)
  · exact dr_cls d0 d1 d2 bo fr tr ag K kc ks hlk X cX l hl hla n h0 w hk hX
  · cases h1 : greatB l
    · by_cases hn0 : n < 0
      · exact dr_low d0 d1 d2 bo fr tr ag K kc ks hlk X cX l hl hla n h0 h1 hn0 w hk hX
      · by_cases hn1 : (l.length : Int) ≤ n
        · exact dr_high d0 d1 d2 bo fr tr ag K kc ks hlk X cX l hl hla n h0 h1 hn0 hn1 w hk hX
        · by_cases hv : tableV d0 d1 d2 bo fr tr ag ks l = 0
          · obtain ⟨k, rfl⟩ : ∃ k : Nat, n = k := ⟨n.toNat, by omega⟩
            exact dr_main d0 d1 d2 bo fr tr ag K kc ks hlk X cX l hl hla k h0 h1 (by omega) hv w hk hX
          · exact dr_bad d0 d1 d2 bo fr tr ag K kc ks hlk X cX l hl hla n h0 h1 hn0 hn1 hv w hk hX
    · exact dr_great d0 d1 d2 bo fr tr ag K kc ks hlk X cX l hl hla n h0 h1 w hk hX
end Go.Proofs.Ytfpljpdjohmbaaa.DepsReadyLaw
