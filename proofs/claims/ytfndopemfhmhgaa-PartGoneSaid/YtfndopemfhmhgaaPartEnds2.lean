/- The contracts of part.Ends and part.Turns. -/
import Derived.Test.YtfndopemfhmhgaaPartEnds
import Derived.Deep.QuietTactic
import Derived.BigQuiet
import Derived.Lib.QuietBelow
namespace Go.Proofs.Ytfndopemfhmhgaa.PartEnds2
open Go.RowKit Go.Sort Mem PosMath PosCheck PartMath PartClass PartCheck PartEnds
set_option linter.unusedVariables false

theorem ret_pair {v u : Int} (h : v = u) {x : Int} : Ending.returned (.tuple #[.int .i64 v, .int .i64 x]) = .returned (.tuple #[.int .i64 u, .int .i64 x]) := by rw [h]
theorem facts {a b c bo fr tr ag : Int} {ks : List Cls} {job ph tt si wall : Int} (h : CfgOk a b c bo fr tr ag ks) (hp : PartOk job ph tt si tr) (hW : inB wall 1 1048576 = true) :
    (1 ≤ bo ∧ bo ≤ 1048576) ∧ (1 ≤ fr ∧ fr ≤ 1048576) ∧ (1 ≤ wall ∧ wall ≤ 1048576) ∧ (0 ≤ si ∧ si ≤ 1099511627776) :=
  ⟨inB_true h.2.1, inB_true h.2.2.1, inB_true hW, inB_true hp.2.2.2⟩
set_option maxRecDepth 100000 in
set_option maxHeartbeats 2000000 in
theorem ends_bad (a b c bo fr tr ag : Int) (X : Option Addr) (cp : Nat) (ks : List Cls) (hl : ks.length ≤ 9223372036854775807) (job x1 x2 x3 x4 x5 x6 : Int) (t1 t2 t3 : Bool) (ph tt si : Int) (wall : Int) (h : ¬ (CfgOk a b c bo fr tr ag ks ∧ PartOk job ph tt si tr)) (w : World) (hk : ClsAt w w.heap.size X ks) :
    Calls Try.prog 14 #[.agg #[.int .i64 a, .int .i64 b, .int .i64 c, .int .i64 bo, .int .i64 fr, .int .i64 tr, .int .i64 ag, .slice X ks.length cp], .agg #[.int .i64 job, .int .i64 x1, .int .i64 x2, .int .i64 x3, .int .i64 x4, .int .i64 x5, .int .i64 x6, .bool t1, .bool t2, .bool t3, .int .u8 ph, .int .i64 tt, .int .i64 si], .int .i64 wall] w (fun e w' => e = .returned (.tuple #[.int .i64 0, .int .i64 8]) ∧ Below w.heap.size w w') := by
  have HH := Lib.hid h
  have HKK := Lib.hid hk
  clear h hk
  go_enter Try.func14, Try.ntmps14
  go_wp2_with fail
  refine (spans_bad a b c bo fr tr ag X cp ks hl job x1 x2 x3 x4 x5 x6 t1 t2 t3 ph tt si wall HH.out _ (HKK.out.up (below_alloc (below_alloc (Below.refl _ _))))).mono ?_
  rintro e w1 ⟨rfl, hB1⟩
  have HB1 : Hid (Below w.heap.size w w1) := below_up (below_alloc (below_alloc (Below.refl _ _))) hB1
  have c1_0 : w1.cell? ⟨w.heap.size, 0, none⟩ = some (.int .i64 a) := keep_cell (cell_over _ (box0 w 26 #[.int .i64 a, .int .i64 b, .int .i64 c, .int .i64 bo, .int .i64 fr, .int .i64 tr, .int .i64 ag, .slice X ks.length cp] 0)) hB1
  have c1_1 : w1.cell? ⟨w.heap.size, 1, none⟩ = some (.int .i64 b) := keep_cell (cell_over _ (box0 w 26 #[.int .i64 a, .int .i64 b, .int .i64 c, .int .i64 bo, .int .i64 fr, .int .i64 tr, .int .i64 ag, .slice X ks.length cp] 1)) hB1
  have c1_2 : w1.cell? ⟨w.heap.size, 2, none⟩ = some (.int .i64 c) := keep_cell (cell_over _ (box0 w 26 #[.int .i64 a, .int .i64 b, .int .i64 c, .int .i64 bo, .int .i64 fr, .int .i64 tr, .int .i64 ag, .slice X ks.length cp] 2)) hB1
  have c1_3 : w1.cell? ⟨w.heap.size, 3, none⟩ = some (.int .i64 bo) := keep_cell (cell_over _ (box0 w 26 #[.int .i64 a, .int .i64 b, .int .i64 c, .int .i64 bo, .int .i64 fr, .int .i64 tr, .int .i64 ag, .slice X ks.length cp] 3)) hB1
  have c1_4 : w1.cell? ⟨w.heap.size, 4, none⟩ = some (.int .i64 fr) := keep_cell (cell_over _ (box0 w 26 #[.int .i64 a, .int .i64 b, .int .i64 c, .int .i64 bo, .int .i64 fr, .int .i64 tr, .int .i64 ag, .slice X ks.length cp] 4)) hB1
  have c1_5 : w1.cell? ⟨w.heap.size, 5, none⟩ = some (.int .i64 tr) := keep_cell (cell_over _ (box0 w 26 #[.int .i64 a, .int .i64 b, .int .i64 c, .int .i64 bo, .int .i64 fr, .int .i64 tr, .int .i64 ag, .slice X ks.length cp] 5)) hB1
  have c1_6 : w1.cell? ⟨w.heap.size, 6, none⟩ = some (.int .i64 ag) := keep_cell (cell_over _ (box0 w 26 #[.int .i64 a, .int .i64 b, .int .i64 c, .int .i64 bo, .int .i64 fr, .int .i64 tr, .int .i64 ag, .slice X ks.length cp] 6)) hB1
  have c1_7 : w1.cell? ⟨w.heap.size, 7, none⟩ = some (.slice X ks.length cp) := keep_cell (cell_over _ (box0 w 26 #[.int .i64 a, .int .i64 b, .int .i64 c, .int .i64 bo, .int .i64 fr, .int .i64 tr, .int .i64 ag, .slice X ks.length cp] 7)) hB1
  have c1_8 : w1.cell? ⟨w.heap.size + 1, 0, none⟩ = some (.int .i64 job) := keep_cell (box1 w 37 #[.int .i64 job, .int .i64 x1, .int .i64 x2, .int .i64 x3, .int .i64 x4, .int .i64 x5, .int .i64 x6, .bool t1, .bool t2, .bool t3, .int .u8 ph, .int .i64 tt, .int .i64 si] 0) hB1
  have c1_9 : w1.cell? ⟨w.heap.size + 1, 1, none⟩ = some (.int .i64 x1) := keep_cell (box1 w 37 #[.int .i64 job, .int .i64 x1, .int .i64 x2, .int .i64 x3, .int .i64 x4, .int .i64 x5, .int .i64 x6, .bool t1, .bool t2, .bool t3, .int .u8 ph, .int .i64 tt, .int .i64 si] 1) hB1
  have c1_10 : w1.cell? ⟨w.heap.size + 1, 2, none⟩ = some (.int .i64 x2) := keep_cell (box1 w 37 #[.int .i64 job, .int .i64 x1, .int .i64 x2, .int .i64 x3, .int .i64 x4, .int .i64 x5, .int .i64 x6, .bool t1, .bool t2, .bool t3, .int .u8 ph, .int .i64 tt, .int .i64 si] 2) hB1
  have c1_11 : w1.cell? ⟨w.heap.size + 1, 3, none⟩ = some (.int .i64 x3) := keep_cell (box1 w 37 #[.int .i64 job, .int .i64 x1, .int .i64 x2, .int .i64 x3, .int .i64 x4, .int .i64 x5, .int .i64 x6, .bool t1, .bool t2, .bool t3, .int .u8 ph, .int .i64 tt, .int .i64 si] 3) hB1
  have c1_12 : w1.cell? ⟨w.heap.size + 1, 4, none⟩ = some (.int .i64 x4) := keep_cell (box1 w 37 #[.int .i64 job, .int .i64 x1, .int .i64 x2, .int .i64 x3, .int .i64 x4, .int .i64 x5, .int .i64 x6, .bool t1, .bool t2, .bool t3, .int .u8 ph, .int .i64 tt, .int .i64 si] 4) hB1
  have c1_13 : w1.cell? ⟨w.heap.size + 1, 5, none⟩ = some (.int .i64 x5) := keep_cell (box1 w 37 #[.int .i64 job, .int .i64 x1, .int .i64 x2, .int .i64 x3, .int .i64 x4, .int .i64 x5, .int .i64 x6, .bool t1, .bool t2, .bool t3, .int .u8 ph, .int .i64 tt, .int .i64 si] 5) hB1
  have c1_14 : w1.cell? ⟨w.heap.size + 1, 6, none⟩ = some (.int .i64 x6) := keep_cell (box1 w 37 #[.int .i64 job, .int .i64 x1, .int .i64 x2, .int .i64 x3, .int .i64 x4, .int .i64 x5, .int .i64 x6, .bool t1, .bool t2, .bool t3, .int .u8 ph, .int .i64 tt, .int .i64 si] 6) hB1
  have c1_15 : w1.cell? ⟨w.heap.size + 1, 7, none⟩ = some (.bool t1) := keep_cell (box1 w 37 #[.int .i64 job, .int .i64 x1, .int .i64 x2, .int .i64 x3, .int .i64 x4, .int .i64 x5, .int .i64 x6, .bool t1, .bool t2, .bool t3, .int .u8 ph, .int .i64 tt, .int .i64 si] 7) hB1
  have c1_16 : w1.cell? ⟨w.heap.size + 1, 8, none⟩ = some (.bool t2) := keep_cell (box1 w 37 #[.int .i64 job, .int .i64 x1, .int .i64 x2, .int .i64 x3, .int .i64 x4, .int .i64 x5, .int .i64 x6, .bool t1, .bool t2, .bool t3, .int .u8 ph, .int .i64 tt, .int .i64 si] 8) hB1
  have c1_17 : w1.cell? ⟨w.heap.size + 1, 9, none⟩ = some (.bool t3) := keep_cell (box1 w 37 #[.int .i64 job, .int .i64 x1, .int .i64 x2, .int .i64 x3, .int .i64 x4, .int .i64 x5, .int .i64 x6, .bool t1, .bool t2, .bool t3, .int .u8 ph, .int .i64 tt, .int .i64 si] 9) hB1
  have c1_18 : w1.cell? ⟨w.heap.size + 1, 10, none⟩ = some (.int .u8 ph) := keep_cell (box1 w 37 #[.int .i64 job, .int .i64 x1, .int .i64 x2, .int .i64 x3, .int .i64 x4, .int .i64 x5, .int .i64 x6, .bool t1, .bool t2, .bool t3, .int .u8 ph, .int .i64 tt, .int .i64 si] 10) hB1
  have c1_19 : w1.cell? ⟨w.heap.size + 1, 11, none⟩ = some (.int .i64 tt) := keep_cell (box1 w 37 #[.int .i64 job, .int .i64 x1, .int .i64 x2, .int .i64 x3, .int .i64 x4, .int .i64 x5, .int .i64 x6, .bool t1, .bool t2, .bool t3, .int .u8 ph, .int .i64 tt, .int .i64 si] 11) hB1
  have c1_20 : w1.cell? ⟨w.heap.size + 1, 12, none⟩ = some (.int .i64 si) := keep_cell (box1 w 37 #[.int .i64 job, .int .i64 x1, .int .i64 x2, .int .i64 x3, .int .i64 x4, .int .i64 x5, .int .i64 x6, .bool t1, .bool t2, .bool t3, .int .u8 ph, .int .i64 tt, .int .i64 si] 12) hB1
  have z1_0 : w.heap.size < w1.heap.size := cell_lt c1_0
  have z1_1 : w.heap.size + 1 < w1.heap.size := cell_lt c1_8
  clear hB1  
  go_wp2_with fail
  go_ret2
  exact ⟨rfl, HB1.out⟩
set_option maxRecDepth 100000 in
set_option maxHeartbeats 2000000 in
theorem ends_wall (a b c bo fr tr ag : Int) (X : Option Addr) (cp : Nat) (ks : List Cls) (hl : ks.length ≤ 9223372036854775807) (job x1 x2 x3 x4 x5 x6 : Int) (t1 t2 t3 : Bool) (ph tt si : Int) (wall : Int) (h : CfgOk a b c bo fr tr ag ks) (hp : PartOk job ph tt si tr) (hW : inB wall 1 1048576 = false) (w : World) (hk : ClsAt w w.heap.size X ks) :
    Calls Try.prog 14 #[.agg #[.int .i64 a, .int .i64 b, .int .i64 c, .int .i64 bo, .int .i64 fr, .int .i64 tr, .int .i64 ag, .slice X ks.length cp], .agg #[.int .i64 job, .int .i64 x1, .int .i64 x2, .int .i64 x3, .int .i64 x4, .int .i64 x5, .int .i64 x6, .bool t1, .bool t2, .bool t3, .int .u8 ph, .int .i64 tt, .int .i64 si], .int .i64 wall] w (fun e w' => e = .returned (.tuple #[.int .i64 0, .int .i64 2]) ∧ Below w.heap.size w w') := by
  have HH := Lib.hid h
  have HKK := Lib.hid hk
  clear h hk
  have HP := Lib.hid hp
  clear hp
  have HW := Lib.hid hW
  clear hW
  go_enter Try.func14, Try.ntmps14
  go_wp2_with fail
  refine (spans_wall a b c bo fr tr ag X cp ks hl job x1 x2 x3 x4 x5 x6 t1 t2 t3 ph tt si wall HH.out HP.out HW.out _ (HKK.out.up (below_alloc (below_alloc (Below.refl _ _))))).mono ?_
  rintro e w1 ⟨rfl, hB1⟩
  have HB1 : Hid (Below w.heap.size w w1) := below_up (below_alloc (below_alloc (Below.refl _ _))) hB1
  have c1_0 : w1.cell? ⟨w.heap.size, 0, none⟩ = some (.int .i64 a) := keep_cell (cell_over _ (box0 w 26 #[.int .i64 a, .int .i64 b, .int .i64 c, .int .i64 bo, .int .i64 fr, .int .i64 tr, .int .i64 ag, .slice X ks.length cp] 0)) hB1
  have c1_1 : w1.cell? ⟨w.heap.size, 1, none⟩ = some (.int .i64 b) := keep_cell (cell_over _ (box0 w 26 #[.int .i64 a, .int .i64 b, .int .i64 c, .int .i64 bo, .int .i64 fr, .int .i64 tr, .int .i64 ag, .slice X ks.length cp] 1)) hB1
  have c1_2 : w1.cell? ⟨w.heap.size, 2, none⟩ = some (.int .i64 c) := keep_cell (cell_over _ (box0 w 26 #[.int .i64 a, .int .i64 b, .int .i64 c, .int .i64 bo, .int .i64 fr, .int .i64 tr, .int .i64 ag, .slice X ks.length cp] 2)) hB1
  have c1_3 : w1.cell? ⟨w.heap.size, 3, none⟩ = some (.int .i64 bo) := keep_cell (cell_over _ (box0 w 26 #[.int .i64 a, .int .i64 b, .int .i64 c, .int .i64 bo, .int .i64 fr, .int .i64 tr, .int .i64 ag, .slice X ks.length cp] 3)) hB1
  have c1_4 : w1.cell? ⟨w.heap.size, 4, none⟩ = some (.int .i64 fr) := keep_cell (cell_over _ (box0 w 26 #[.int .i64 a, .int .i64 b, .int .i64 c, .int .i64 bo, .int .i64 fr, .int .i64 tr, .int .i64 ag, .slice X ks.length cp] 4)) hB1
  have c1_5 : w1.cell? ⟨w.heap.size, 5, none⟩ = some (.int .i64 tr) := keep_cell (cell_over _ (box0 w 26 #[.int .i64 a, .int .i64 b, .int .i64 c, .int .i64 bo, .int .i64 fr, .int .i64 tr, .int .i64 ag, .slice X ks.length cp] 5)) hB1
  have c1_6 : w1.cell? ⟨w.heap.size, 6, none⟩ = some (.int .i64 ag) := keep_cell (cell_over _ (box0 w 26 #[.int .i64 a, .int .i64 b, .int .i64 c, .int .i64 bo, .int .i64 fr, .int .i64 tr, .int .i64 ag, .slice X ks.length cp] 6)) hB1
  have c1_7 : w1.cell? ⟨w.heap.size, 7, none⟩ = some (.slice X ks.length cp) := keep_cell (cell_over _ (box0 w 26 #[.int .i64 a, .int .i64 b, .int .i64 c, .int .i64 bo, .int .i64 fr, .int .i64 tr, .int .i64 ag, .slice X ks.length cp] 7)) hB1
  have c1_8 : w1.cell? ⟨w.heap.size + 1, 0, none⟩ = some (.int .i64 job) := keep_cell (box1 w 37 #[.int .i64 job, .int .i64 x1, .int .i64 x2, .int .i64 x3, .int .i64 x4, .int .i64 x5, .int .i64 x6, .bool t1, .bool t2, .bool t3, .int .u8 ph, .int .i64 tt, .int .i64 si] 0) hB1
  have c1_9 : w1.cell? ⟨w.heap.size + 1, 1, none⟩ = some (.int .i64 x1) := keep_cell (box1 w 37 #[.int .i64 job, .int .i64 x1, .int .i64 x2, .int .i64 x3, .int .i64 x4, .int .i64 x5, .int .i64 x6, .bool t1, .bool t2, .bool t3, .int .u8 ph, .int .i64 tt, .int .i64 si] 1) hB1
  have c1_10 : w1.cell? ⟨w.heap.size + 1, 2, none⟩ = some (.int .i64 x2) := keep_cell (box1 w 37 #[.int .i64 job, .int .i64 x1, .int .i64 x2, .int .i64 x3, .int .i64 x4, .int .i64 x5, .int .i64 x6, .bool t1, .bool t2, .bool t3, .int .u8 ph, .int .i64 tt, .int .i64 si] 2) hB1
  have c1_11 : w1.cell? ⟨w.heap.size + 1, 3, none⟩ = some (.int .i64 x3) := keep_cell (box1 w 37 #[.int .i64 job, .int .i64 x1, .int .i64 x2, .int .i64 x3, .int .i64 x4, .int .i64 x5, .int .i64 x6, .bool t1, .bool t2, .bool t3, .int .u8 ph, .int .i64 tt, .int .i64 si] 3) hB1
  have c1_12 : w1.cell? ⟨w.heap.size + 1, 4, none⟩ = some (.int .i64 x4) := keep_cell (box1 w 37 #[.int .i64 job, .int .i64 x1, .int .i64 x2, .int .i64 x3, .int .i64 x4, .int .i64 x5, .int .i64 x6, .bool t1, .bool t2, .bool t3, .int .u8 ph, .int .i64 tt, .int .i64 si] 4) hB1
  have c1_13 : w1.cell? ⟨w.heap.size + 1, 5, none⟩ = some (.int .i64 x5) := keep_cell (box1 w 37 #[.int .i64 job, .int .i64 x1, .int .i64 x2, .int .i64 x3, .int .i64 x4, .int .i64 x5, .int .i64 x6, .bool t1, .bool t2, .bool t3, .int .u8 ph, .int .i64 tt, .int .i64 si] 5) hB1
  have c1_14 : w1.cell? ⟨w.heap.size + 1, 6, none⟩ = some (.int .i64 x6) := keep_cell (box1 w 37 #[.int .i64 job, .int .i64 x1, .int .i64 x2, .int .i64 x3, .int .i64 x4, .int .i64 x5, .int .i64 x6, .bool t1, .bool t2, .bool t3, .int .u8 ph, .int .i64 tt, .int .i64 si] 6) hB1
  have c1_15 : w1.cell? ⟨w.heap.size + 1, 7, none⟩ = some (.bool t1) := keep_cell (box1 w 37 #[.int .i64 job, .int .i64 x1, .int .i64 x2, .int .i64 x3, .int .i64 x4, .int .i64 x5, .int .i64 x6, .bool t1, .bool t2, .bool t3, .int .u8 ph, .int .i64 tt, .int .i64 si] 7) hB1
  have c1_16 : w1.cell? ⟨w.heap.size + 1, 8, none⟩ = some (.bool t2) := keep_cell (box1 w 37 #[.int .i64 job, .int .i64 x1, .int .i64 x2, .int .i64 x3, .int .i64 x4, .int .i64 x5, .int .i64 x6, .bool t1, .bool t2, .bool t3, .int .u8 ph, .int .i64 tt, .int .i64 si] 8) hB1
  have c1_17 : w1.cell? ⟨w.heap.size + 1, 9, none⟩ = some (.bool t3) := keep_cell (box1 w 37 #[.int .i64 job, .int .i64 x1, .int .i64 x2, .int .i64 x3, .int .i64 x4, .int .i64 x5, .int .i64 x6, .bool t1, .bool t2, .bool t3, .int .u8 ph, .int .i64 tt, .int .i64 si] 9) hB1
  have c1_18 : w1.cell? ⟨w.heap.size + 1, 10, none⟩ = some (.int .u8 ph) := keep_cell (box1 w 37 #[.int .i64 job, .int .i64 x1, .int .i64 x2, .int .i64 x3, .int .i64 x4, .int .i64 x5, .int .i64 x6, .bool t1, .bool t2, .bool t3, .int .u8 ph, .int .i64 tt, .int .i64 si] 10) hB1
  have c1_19 : w1.cell? ⟨w.heap.size + 1, 11, none⟩ = some (.int .i64 tt) := keep_cell (box1 w 37 #[.int .i64 job, .int .i64 x1, .int .i64 x2, .int .i64 x3, .int .i64 x4, .int .i64 x5, .int .i64 x6, .bool t1, .bool t2, .bool t3, .int .u8 ph, .int .i64 tt, .int .i64 si] 11) hB1
  have c1_20 : w1.cell? ⟨w.heap.size + 1, 12, none⟩ = some (.int .i64 si) := keep_cell (box1 w 37 #[.int .i64 job, .int .i64 x1, .int .i64 x2, .int .i64 x3, .int .i64 x4, .int .i64 x5, .int .i64 x6, .bool t1, .bool t2, .bool t3, .int .u8 ph, .int .i64 tt, .int .i64 si] 12) hB1
  have z1_0 : w.heap.size < w1.heap.size := cell_lt c1_0
  have z1_1 : w.heap.size + 1 < w1.heap.size := cell_lt c1_8
  clear hB1  
  go_wp2_with fail
  go_ret2
  exact ⟨rfl, HB1.out⟩
set_option maxRecDepth 100000 in
set_option maxHeartbeats 2000000 in
theorem ends1 (a b c bo fr tr ag : Int) (X : Option Addr) (cp : Nat) (ks : List Cls) (hl : ks.length ≤ 9223372036854775807) (job x1 x2 x3 x4 x5 x6 : Int) (t1 t2 t3 : Bool) (tt si : Int) (wall : Int) (h : CfgOk a b c bo fr tr ag ks) (hp : PartOk job 1 tt si tr) (hW : inB wall 1 1048576 = true) (w : World) (hk : ClsAt w w.heap.size X ks) :
    Calls Try.prog 14 #[.agg #[.int .i64 a, .int .i64 b, .int .i64 c, .int .i64 bo, .int .i64 fr, .int .i64 tr, .int .i64 ag, .slice X ks.length cp], .agg #[.int .i64 job, .int .i64 x1, .int .i64 x2, .int .i64 x3, .int .i64 x4, .int .i64 x5, .int .i64 x6, .bool t1, .bool t2, .bool t3, .int .u8 1, .int .i64 tt, .int .i64 si], .int .i64 wall] w (fun e w' => e = .returned (.tuple #[.int .i64 (capM (si + leftR 1 bo wall fr)), .int .i64 0]) ∧ Below w.heap.size w w') := by
  have hv : si + leftR 1 bo wall fr = si + bo + wall + fr := by simp [leftR]; omega
  rw [hv]
  obtain ⟨⟨b1, b2⟩, ⟨f1, f2⟩, ⟨w1_, w2_⟩, ⟨s1, s2⟩⟩ := facts h hp hW
  have HH := Lib.hid h
  have HKK := Lib.hid hk
  have HP := Lib.hid hp
  have HW := Lib.hid hW
  clear h hk hp hW hv
  go_enter Try.func14, Try.ntmps14
  go_wp2_with fail
  refine (spans1 a b c bo fr tr ag X cp ks hl job x1 x2 x3 x4 x5 x6 t1 t2 t3 tt si wall HH.out HP.out HW.out _ (HKK.out.up (below_alloc (below_alloc (Below.refl _ _))))).mono ?_
  rintro e w1 ⟨g, rfl, hB1, hblk⟩
  have HB1 := Lib.hid (below_up (below_alloc (below_alloc (Below.refl _ _))) hB1)
  have ks0 : w1.cell? ⟨w.heap.size + 1, 12, none⟩ = some (.int .i64 si) := keep_cell (box1 w _ #[.int .i64 job, .int .i64 x1, .int .i64 x2, .int .i64 x3, .int .i64 x4, .int .i64 x5, .int .i64 x6, .bool t1, .bool t2, .bool t3, .int .u8 1, .int .i64 tt, .int .i64 si] 12) hB1
  have g0 : w1.cell? ⟨g, 0, none⟩ = some (.int .i64 bo) := hblk.cell 0
  have g1 : w1.cell? ⟨g, 1, none⟩ = some (.int .i64 wall) := hblk.cell 1
  have g2 : w1.cell? ⟨g, 2, none⟩ = some (.int .i64 fr) := hblk.cell 2
  clear hB1 hblk
  by_cases hv : si + bo + wall + fr ≤ 1099511627776
  · have HV := Lib.hid hv
    go_wp2_with fail
    go_loop [10, 27] (fun v i => (i = .int .i64 0 ∧ v = .int .i64 (si)) ∨ (i = .int .i64 1 ∧ v = .int .i64 (si + bo)) ∨ (i = .int .i64 2 ∧ v = .int .i64 (si + bo + wall)) ∨ (i = .int .i64 3 ∧ v = .int .i64 (si + bo + wall + fr)))
      (fun _ i => 3 - (intOf i).toNat)
    case atStart => exact .inl ⟨rfl, rfl⟩
    case round =>
      rcases hrel with ⟨rfl, rfl⟩ | ⟨rfl, rfl⟩ | ⟨rfl, rfl⟩ | ⟨rfl, rfl⟩
      · go_wp2_with fail
        go_round
        case rel => exact .inr (.inl ⟨rfl, rfl⟩)
        case measure => simp [intOf]
      · go_wp2_with fail
        go_round
        case rel => exact .inr (.inr (.inl ⟨rfl, rfl⟩))
        case measure => simp [intOf]
      · go_wp2_with fail
        go_round
        case rel => exact .inr (.inr (.inr (⟨rfl, rfl⟩)))
        case measure => simp [intOf]
      · go_wp2_with fail
        go_ret2
        exact ⟨ret_pair (by rw [capM_lo (v := si + bo + wall + fr) (by have := HV.out; omega)]), HB1.out⟩
  · have HV := Lib.hid hv
    go_wp2_with fail
    go_loop [10, 27] (fun v i => (i = .int .i64 0 ∧ v = .int .i64 (si)) ∨ (i = .int .i64 1 ∧ v = .int .i64 (si + bo)) ∨ (i = .int .i64 2 ∧ v = .int .i64 (si + bo + wall)) ∨ (i = .int .i64 3 ∧ v = .int .i64 (si + bo + wall + fr)))
      (fun _ i => 3 - (intOf i).toNat)
    case atStart => exact .inl ⟨rfl, rfl⟩
    case round =>
      rcases hrel with ⟨rfl, rfl⟩ | ⟨rfl, rfl⟩ | ⟨rfl, rfl⟩ | ⟨rfl, rfl⟩
      · go_wp2_with fail
        go_round
        case rel => exact .inr (.inl ⟨rfl, rfl⟩)
        case measure => simp [intOf]
      · go_wp2_with fail
        go_round
        case rel => exact .inr (.inr (.inl ⟨rfl, rfl⟩))
        case measure => simp [intOf]
      · go_wp2_with fail
        go_round
        case rel => exact .inr (.inr (.inr (⟨rfl, rfl⟩)))
        case measure => simp [intOf]
      · go_wp2_with fail
        go_ret2
        exact ⟨ret_pair (by rw [capM_hi (v := si + bo + wall + fr) (by have := HV.out; omega)]), HB1.out⟩
set_option maxRecDepth 100000 in
set_option maxHeartbeats 2000000 in
theorem ends2 (a b c bo fr tr ag : Int) (X : Option Addr) (cp : Nat) (ks : List Cls) (hl : ks.length ≤ 9223372036854775807) (job x1 x2 x3 x4 x5 x6 : Int) (t1 t2 t3 : Bool) (tt si : Int) (wall : Int) (h : CfgOk a b c bo fr tr ag ks) (hp : PartOk job 2 tt si tr) (hW : inB wall 1 1048576 = true) (w : World) (hk : ClsAt w w.heap.size X ks) :
    Calls Try.prog 14 #[.agg #[.int .i64 a, .int .i64 b, .int .i64 c, .int .i64 bo, .int .i64 fr, .int .i64 tr, .int .i64 ag, .slice X ks.length cp], .agg #[.int .i64 job, .int .i64 x1, .int .i64 x2, .int .i64 x3, .int .i64 x4, .int .i64 x5, .int .i64 x6, .bool t1, .bool t2, .bool t3, .int .u8 2, .int .i64 tt, .int .i64 si], .int .i64 wall] w (fun e w' => e = .returned (.tuple #[.int .i64 (capM (si + leftR 2 bo wall fr)), .int .i64 0]) ∧ Below w.heap.size w w') := by
  have hv : si + leftR 2 bo wall fr = si + wall + fr := by simp [leftR]; omega
  rw [hv]
  obtain ⟨⟨b1, b2⟩, ⟨f1, f2⟩, ⟨w1_, w2_⟩, ⟨s1, s2⟩⟩ := facts h hp hW
  have HH := Lib.hid h
  have HKK := Lib.hid hk
  have HP := Lib.hid hp
  have HW := Lib.hid hW
  clear h hk hp hW hv
  go_enter Try.func14, Try.ntmps14
  go_wp2_with fail
  refine (spans2 a b c bo fr tr ag X cp ks hl job x1 x2 x3 x4 x5 x6 t1 t2 t3 tt si wall HH.out HP.out HW.out _ (HKK.out.up (below_alloc (below_alloc (Below.refl _ _))))).mono ?_
  rintro e w1 ⟨g, rfl, hB1, hblk⟩
  have HB1 := Lib.hid (below_up (below_alloc (below_alloc (Below.refl _ _))) hB1)
  have ks0 : w1.cell? ⟨w.heap.size + 1, 12, none⟩ = some (.int .i64 si) := keep_cell (box1 w _ #[.int .i64 job, .int .i64 x1, .int .i64 x2, .int .i64 x3, .int .i64 x4, .int .i64 x5, .int .i64 x6, .bool t1, .bool t2, .bool t3, .int .u8 2, .int .i64 tt, .int .i64 si] 12) hB1
  have g0 : w1.cell? ⟨g, 0, none⟩ = some (.int .i64 bo) := hblk.cell 0
  have g1 : w1.cell? ⟨g, 1, none⟩ = some (.int .i64 wall) := hblk.cell 1
  have g2 : w1.cell? ⟨g, 2, none⟩ = some (.int .i64 fr) := hblk.cell 2
  clear hB1 hblk
  by_cases hv : si + wall + fr ≤ 1099511627776
  · have HV := Lib.hid hv
    go_wp2_with fail
    go_loop [10, 27] (fun v i => (i = .int .i64 0 ∧ v = .int .i64 (si)) ∨ (i = .int .i64 1 ∧ v = .int .i64 (si + wall)) ∨ (i = .int .i64 2 ∧ v = .int .i64 (si + wall + fr)))
      (fun _ i => 2 - (intOf i).toNat)
    case atStart => exact .inl ⟨rfl, rfl⟩
    case round =>
      rcases hrel with ⟨rfl, rfl⟩ | ⟨rfl, rfl⟩ | ⟨rfl, rfl⟩
      · go_wp2_with fail
        go_round
        case rel => exact .inr (.inl ⟨rfl, rfl⟩)
        case measure => simp [intOf]
      · go_wp2_with fail
        go_round
        case rel => exact .inr (.inr (⟨rfl, rfl⟩))
        case measure => simp [intOf]
      · go_wp2_with fail
        go_ret2
        exact ⟨ret_pair (by rw [capM_lo (v := si + wall + fr) (by have := HV.out; omega)]), HB1.out⟩
  · have HV := Lib.hid hv
    go_wp2_with fail
    go_loop [10, 27] (fun v i => (i = .int .i64 0 ∧ v = .int .i64 (si)) ∨ (i = .int .i64 1 ∧ v = .int .i64 (si + wall)) ∨ (i = .int .i64 2 ∧ v = .int .i64 (si + wall + fr)))
      (fun _ i => 2 - (intOf i).toNat)
    case atStart => exact .inl ⟨rfl, rfl⟩
    case round =>
      rcases hrel with ⟨rfl, rfl⟩ | ⟨rfl, rfl⟩ | ⟨rfl, rfl⟩
      · go_wp2_with fail
        go_round
        case rel => exact .inr (.inl ⟨rfl, rfl⟩)
        case measure => simp [intOf]
      · go_wp2_with fail
        go_round
        case rel => exact .inr (.inr (⟨rfl, rfl⟩))
        case measure => simp [intOf]
      · go_wp2_with fail
        go_ret2
        exact ⟨ret_pair (by rw [capM_hi (v := si + wall + fr) (by have := HV.out; omega)]), HB1.out⟩
set_option maxRecDepth 100000 in
set_option maxHeartbeats 2000000 in
theorem ends3 (a b c bo fr tr ag : Int) (X : Option Addr) (cp : Nat) (ks : List Cls) (hl : ks.length ≤ 9223372036854775807) (job x1 x2 x3 x4 x5 x6 : Int) (t1 t2 t3 : Bool) (tt si : Int) (wall : Int) (h : CfgOk a b c bo fr tr ag ks) (hp : PartOk job 3 tt si tr) (hW : inB wall 1 1048576 = true) (w : World) (hk : ClsAt w w.heap.size X ks) :
    Calls Try.prog 14 #[.agg #[.int .i64 a, .int .i64 b, .int .i64 c, .int .i64 bo, .int .i64 fr, .int .i64 tr, .int .i64 ag, .slice X ks.length cp], .agg #[.int .i64 job, .int .i64 x1, .int .i64 x2, .int .i64 x3, .int .i64 x4, .int .i64 x5, .int .i64 x6, .bool t1, .bool t2, .bool t3, .int .u8 3, .int .i64 tt, .int .i64 si], .int .i64 wall] w (fun e w' => e = .returned (.tuple #[.int .i64 (capM (si + leftR 3 bo wall fr)), .int .i64 0]) ∧ Below w.heap.size w w') := by
  have hv : si + leftR 3 bo wall fr = si + fr := by simp [leftR]
  rw [hv]
  obtain ⟨⟨b1, b2⟩, ⟨f1, f2⟩, ⟨w1_, w2_⟩, ⟨s1, s2⟩⟩ := facts h hp hW
  have HH := Lib.hid h
  have HKK := Lib.hid hk
  have HP := Lib.hid hp
  have HW := Lib.hid hW
  clear h hk hp hW hv
  go_enter Try.func14, Try.ntmps14
  go_wp2_with fail
  refine (spans3 a b c bo fr tr ag X cp ks hl job x1 x2 x3 x4 x5 x6 t1 t2 t3 tt si wall HH.out HP.out HW.out _ (HKK.out.up (below_alloc (below_alloc (Below.refl _ _))))).mono ?_
  rintro e w1 ⟨g, rfl, hB1, hblk⟩
  have HB1 := Lib.hid (below_up (below_alloc (below_alloc (Below.refl _ _))) hB1)
  have ks0 : w1.cell? ⟨w.heap.size + 1, 12, none⟩ = some (.int .i64 si) := keep_cell (box1 w _ #[.int .i64 job, .int .i64 x1, .int .i64 x2, .int .i64 x3, .int .i64 x4, .int .i64 x5, .int .i64 x6, .bool t1, .bool t2, .bool t3, .int .u8 3, .int .i64 tt, .int .i64 si] 12) hB1
  have g0 : w1.cell? ⟨g, 0, none⟩ = some (.int .i64 bo) := hblk.cell 0
  have g1 : w1.cell? ⟨g, 1, none⟩ = some (.int .i64 wall) := hblk.cell 1
  have g2 : w1.cell? ⟨g, 2, none⟩ = some (.int .i64 fr) := hblk.cell 2
  clear hB1 hblk
  by_cases hv : si + fr ≤ 1099511627776
  · have HV := Lib.hid hv
    go_wp2_with fail
    go_loop [10, 27] (fun v i => (i = .int .i64 0 ∧ v = .int .i64 (si)) ∨ (i = .int .i64 1 ∧ v = .int .i64 (si + fr)))
      (fun _ i => 1 - (intOf i).toNat)
    case atStart => exact .inl ⟨rfl, rfl⟩
    case round =>
      rcases hrel with ⟨rfl, rfl⟩ | ⟨rfl, rfl⟩
      · go_wp2_with fail
        go_round
        case rel => exact .inr (⟨rfl, rfl⟩)
        case measure => simp [intOf]
      · go_wp2_with fail
        go_ret2
        exact ⟨ret_pair (by rw [capM_lo (v := si + fr) (by have := HV.out; omega)]), HB1.out⟩
  · have HV := Lib.hid hv
    go_wp2_with fail
    go_loop [10, 27] (fun v i => (i = .int .i64 0 ∧ v = .int .i64 (si)) ∨ (i = .int .i64 1 ∧ v = .int .i64 (si + fr)))
      (fun _ i => 1 - (intOf i).toNat)
    case atStart => exact .inl ⟨rfl, rfl⟩
    case round =>
      rcases hrel with ⟨rfl, rfl⟩ | ⟨rfl, rfl⟩
      · go_wp2_with fail
        go_round
        case rel => exact .inr (⟨rfl, rfl⟩)
        case measure => simp [intOf]
      · go_wp2_with fail
        go_ret2
        exact ⟨ret_pair (by rw [capM_hi (v := si + fr) (by have := HV.out; omega)]), HB1.out⟩
set_option maxRecDepth 100000 in
set_option maxHeartbeats 2000000 in
theorem turns_bad (a b c bo fr tr ag : Int) (X : Option Addr) (cp : Nat) (ks : List Cls) (hl : ks.length ≤ 9223372036854775807) (job x1 x2 x3 x4 x5 x6 : Int) (t1 t2 t3 : Bool) (ph tt si : Int) (wall : Int) (h : ¬ (CfgOk a b c bo fr tr ag ks ∧ PartOk job ph tt si tr)) (w : World) (hk : ClsAt w w.heap.size X ks) :
    Calls Try.prog 16 #[.agg #[.int .i64 a, .int .i64 b, .int .i64 c, .int .i64 bo, .int .i64 fr, .int .i64 tr, .int .i64 ag, .slice X ks.length cp], .agg #[.int .i64 job, .int .i64 x1, .int .i64 x2, .int .i64 x3, .int .i64 x4, .int .i64 x5, .int .i64 x6, .bool t1, .bool t2, .bool t3, .int .u8 ph, .int .i64 tt, .int .i64 si], .int .i64 wall] w (fun e w' => e = .returned (.tuple #[.int .i64 0, .int .i64 8]) ∧ Below w.heap.size w w') := by
  have HH := Lib.hid h
  have HKK := Lib.hid hk
  clear h hk
  go_enter Try.func16, Try.ntmps16
  go_wp2_with fail
  refine (spans_bad a b c bo fr tr ag X cp ks hl job x1 x2 x3 x4 x5 x6 t1 t2 t3 ph tt si wall HH.out _ (HKK.out.up (below_alloc (below_alloc (Below.refl _ _))))).mono ?_
  rintro e w1 ⟨rfl, hB1⟩
  have HB1 : Hid (Below w.heap.size w w1) := below_up (below_alloc (below_alloc (Below.refl _ _))) hB1
  have c1_0 : w1.cell? ⟨w.heap.size, 0, none⟩ = some (.int .i64 a) := keep_cell (cell_over _ (box0 w 26 #[.int .i64 a, .int .i64 b, .int .i64 c, .int .i64 bo, .int .i64 fr, .int .i64 tr, .int .i64 ag, .slice X ks.length cp] 0)) hB1
  have c1_1 : w1.cell? ⟨w.heap.size, 1, none⟩ = some (.int .i64 b) := keep_cell (cell_over _ (box0 w 26 #[.int .i64 a, .int .i64 b, .int .i64 c, .int .i64 bo, .int .i64 fr, .int .i64 tr, .int .i64 ag, .slice X ks.length cp] 1)) hB1
  have c1_2 : w1.cell? ⟨w.heap.size, 2, none⟩ = some (.int .i64 c) := keep_cell (cell_over _ (box0 w 26 #[.int .i64 a, .int .i64 b, .int .i64 c, .int .i64 bo, .int .i64 fr, .int .i64 tr, .int .i64 ag, .slice X ks.length cp] 2)) hB1
  have c1_3 : w1.cell? ⟨w.heap.size, 3, none⟩ = some (.int .i64 bo) := keep_cell (cell_over _ (box0 w 26 #[.int .i64 a, .int .i64 b, .int .i64 c, .int .i64 bo, .int .i64 fr, .int .i64 tr, .int .i64 ag, .slice X ks.length cp] 3)) hB1
  have c1_4 : w1.cell? ⟨w.heap.size, 4, none⟩ = some (.int .i64 fr) := keep_cell (cell_over _ (box0 w 26 #[.int .i64 a, .int .i64 b, .int .i64 c, .int .i64 bo, .int .i64 fr, .int .i64 tr, .int .i64 ag, .slice X ks.length cp] 4)) hB1
  have c1_5 : w1.cell? ⟨w.heap.size, 5, none⟩ = some (.int .i64 tr) := keep_cell (cell_over _ (box0 w 26 #[.int .i64 a, .int .i64 b, .int .i64 c, .int .i64 bo, .int .i64 fr, .int .i64 tr, .int .i64 ag, .slice X ks.length cp] 5)) hB1
  have c1_6 : w1.cell? ⟨w.heap.size, 6, none⟩ = some (.int .i64 ag) := keep_cell (cell_over _ (box0 w 26 #[.int .i64 a, .int .i64 b, .int .i64 c, .int .i64 bo, .int .i64 fr, .int .i64 tr, .int .i64 ag, .slice X ks.length cp] 6)) hB1
  have c1_7 : w1.cell? ⟨w.heap.size, 7, none⟩ = some (.slice X ks.length cp) := keep_cell (cell_over _ (box0 w 26 #[.int .i64 a, .int .i64 b, .int .i64 c, .int .i64 bo, .int .i64 fr, .int .i64 tr, .int .i64 ag, .slice X ks.length cp] 7)) hB1
  have c1_8 : w1.cell? ⟨w.heap.size + 1, 0, none⟩ = some (.int .i64 job) := keep_cell (box1 w 37 #[.int .i64 job, .int .i64 x1, .int .i64 x2, .int .i64 x3, .int .i64 x4, .int .i64 x5, .int .i64 x6, .bool t1, .bool t2, .bool t3, .int .u8 ph, .int .i64 tt, .int .i64 si] 0) hB1
  have c1_9 : w1.cell? ⟨w.heap.size + 1, 1, none⟩ = some (.int .i64 x1) := keep_cell (box1 w 37 #[.int .i64 job, .int .i64 x1, .int .i64 x2, .int .i64 x3, .int .i64 x4, .int .i64 x5, .int .i64 x6, .bool t1, .bool t2, .bool t3, .int .u8 ph, .int .i64 tt, .int .i64 si] 1) hB1
  have c1_10 : w1.cell? ⟨w.heap.size + 1, 2, none⟩ = some (.int .i64 x2) := keep_cell (box1 w 37 #[.int .i64 job, .int .i64 x1, .int .i64 x2, .int .i64 x3, .int .i64 x4, .int .i64 x5, .int .i64 x6, .bool t1, .bool t2, .bool t3, .int .u8 ph, .int .i64 tt, .int .i64 si] 2) hB1
  have c1_11 : w1.cell? ⟨w.heap.size + 1, 3, none⟩ = some (.int .i64 x3) := keep_cell (box1 w 37 #[.int .i64 job, .int .i64 x1, .int .i64 x2, .int .i64 x3, .int .i64 x4, .int .i64 x5, .int .i64 x6, .bool t1, .bool t2, .bool t3, .int .u8 ph, .int .i64 tt, .int .i64 si] 3) hB1
  have c1_12 : w1.cell? ⟨w.heap.size + 1, 4, none⟩ = some (.int .i64 x4) := keep_cell (box1 w 37 #[.int .i64 job, .int .i64 x1, .int .i64 x2, .int .i64 x3, .int .i64 x4, .int .i64 x5, .int .i64 x6, .bool t1, .bool t2, .bool t3, .int .u8 ph, .int .i64 tt, .int .i64 si] 4) hB1
  have c1_13 : w1.cell? ⟨w.heap.size + 1, 5, none⟩ = some (.int .i64 x5) := keep_cell (box1 w 37 #[.int .i64 job, .int .i64 x1, .int .i64 x2, .int .i64 x3, .int .i64 x4, .int .i64 x5, .int .i64 x6, .bool t1, .bool t2, .bool t3, .int .u8 ph, .int .i64 tt, .int .i64 si] 5) hB1
  have c1_14 : w1.cell? ⟨w.heap.size + 1, 6, none⟩ = some (.int .i64 x6) := keep_cell (box1 w 37 #[.int .i64 job, .int .i64 x1, .int .i64 x2, .int .i64 x3, .int .i64 x4, .int .i64 x5, .int .i64 x6, .bool t1, .bool t2, .bool t3, .int .u8 ph, .int .i64 tt, .int .i64 si] 6) hB1
  have c1_15 : w1.cell? ⟨w.heap.size + 1, 7, none⟩ = some (.bool t1) := keep_cell (box1 w 37 #[.int .i64 job, .int .i64 x1, .int .i64 x2, .int .i64 x3, .int .i64 x4, .int .i64 x5, .int .i64 x6, .bool t1, .bool t2, .bool t3, .int .u8 ph, .int .i64 tt, .int .i64 si] 7) hB1
  have c1_16 : w1.cell? ⟨w.heap.size + 1, 8, none⟩ = some (.bool t2) := keep_cell (box1 w 37 #[.int .i64 job, .int .i64 x1, .int .i64 x2, .int .i64 x3, .int .i64 x4, .int .i64 x5, .int .i64 x6, .bool t1, .bool t2, .bool t3, .int .u8 ph, .int .i64 tt, .int .i64 si] 8) hB1
  have c1_17 : w1.cell? ⟨w.heap.size + 1, 9, none⟩ = some (.bool t3) := keep_cell (box1 w 37 #[.int .i64 job, .int .i64 x1, .int .i64 x2, .int .i64 x3, .int .i64 x4, .int .i64 x5, .int .i64 x6, .bool t1, .bool t2, .bool t3, .int .u8 ph, .int .i64 tt, .int .i64 si] 9) hB1
  have c1_18 : w1.cell? ⟨w.heap.size + 1, 10, none⟩ = some (.int .u8 ph) := keep_cell (box1 w 37 #[.int .i64 job, .int .i64 x1, .int .i64 x2, .int .i64 x3, .int .i64 x4, .int .i64 x5, .int .i64 x6, .bool t1, .bool t2, .bool t3, .int .u8 ph, .int .i64 tt, .int .i64 si] 10) hB1
  have c1_19 : w1.cell? ⟨w.heap.size + 1, 11, none⟩ = some (.int .i64 tt) := keep_cell (box1 w 37 #[.int .i64 job, .int .i64 x1, .int .i64 x2, .int .i64 x3, .int .i64 x4, .int .i64 x5, .int .i64 x6, .bool t1, .bool t2, .bool t3, .int .u8 ph, .int .i64 tt, .int .i64 si] 11) hB1
  have c1_20 : w1.cell? ⟨w.heap.size + 1, 12, none⟩ = some (.int .i64 si) := keep_cell (box1 w 37 #[.int .i64 job, .int .i64 x1, .int .i64 x2, .int .i64 x3, .int .i64 x4, .int .i64 x5, .int .i64 x6, .bool t1, .bool t2, .bool t3, .int .u8 ph, .int .i64 tt, .int .i64 si] 12) hB1
  have z1_0 : w.heap.size < w1.heap.size := cell_lt c1_0
  have z1_1 : w.heap.size + 1 < w1.heap.size := cell_lt c1_8
  clear hB1  
  go_wp2_with fail
  go_ret2
  exact ⟨rfl, HB1.out⟩
set_option maxRecDepth 100000 in
set_option maxHeartbeats 2000000 in
theorem turns_wall (a b c bo fr tr ag : Int) (X : Option Addr) (cp : Nat) (ks : List Cls) (hl : ks.length ≤ 9223372036854775807) (job x1 x2 x3 x4 x5 x6 : Int) (t1 t2 t3 : Bool) (ph tt si : Int) (wall : Int) (h : CfgOk a b c bo fr tr ag ks) (hp : PartOk job ph tt si tr) (hW : inB wall 1 1048576 = false) (w : World) (hk : ClsAt w w.heap.size X ks) :
    Calls Try.prog 16 #[.agg #[.int .i64 a, .int .i64 b, .int .i64 c, .int .i64 bo, .int .i64 fr, .int .i64 tr, .int .i64 ag, .slice X ks.length cp], .agg #[.int .i64 job, .int .i64 x1, .int .i64 x2, .int .i64 x3, .int .i64 x4, .int .i64 x5, .int .i64 x6, .bool t1, .bool t2, .bool t3, .int .u8 ph, .int .i64 tt, .int .i64 si], .int .i64 wall] w (fun e w' => e = .returned (.tuple #[.int .i64 0, .int .i64 2]) ∧ Below w.heap.size w w') := by
  have HH := Lib.hid h
  have HKK := Lib.hid hk
  clear h hk
  have HP := Lib.hid hp
  clear hp
  have HW := Lib.hid hW
  clear hW
  go_enter Try.func16, Try.ntmps16
  go_wp2_with fail
  refine (spans_wall a b c bo fr tr ag X cp ks hl job x1 x2 x3 x4 x5 x6 t1 t2 t3 ph tt si wall HH.out HP.out HW.out _ (HKK.out.up (below_alloc (below_alloc (Below.refl _ _))))).mono ?_
  rintro e w1 ⟨rfl, hB1⟩
  have HB1 : Hid (Below w.heap.size w w1) := below_up (below_alloc (below_alloc (Below.refl _ _))) hB1
  have c1_0 : w1.cell? ⟨w.heap.size, 0, none⟩ = some (.int .i64 a) := keep_cell (cell_over _ (box0 w 26 #[.int .i64 a, .int .i64 b, .int .i64 c, .int .i64 bo, .int .i64 fr, .int .i64 tr, .int .i64 ag, .slice X ks.length cp] 0)) hB1
  have c1_1 : w1.cell? ⟨w.heap.size, 1, none⟩ = some (.int .i64 b) := keep_cell (cell_over _ (box0 w 26 #[.int .i64 a, .int .i64 b, .int .i64 c, .int .i64 bo, .int .i64 fr, .int .i64 tr, .int .i64 ag, .slice X ks.length cp] 1)) hB1
  have c1_2 : w1.cell? ⟨w.heap.size, 2, none⟩ = some (.int .i64 c) := keep_cell (cell_over _ (box0 w 26 #[.int .i64 a, .int .i64 b, .int .i64 c, .int .i64 bo, .int .i64 fr, .int .i64 tr, .int .i64 ag, .slice X ks.length cp] 2)) hB1
  have c1_3 : w1.cell? ⟨w.heap.size, 3, none⟩ = some (.int .i64 bo) := keep_cell (cell_over _ (box0 w 26 #[.int .i64 a, .int .i64 b, .int .i64 c, .int .i64 bo, .int .i64 fr, .int .i64 tr, .int .i64 ag, .slice X ks.length cp] 3)) hB1
  have c1_4 : w1.cell? ⟨w.heap.size, 4, none⟩ = some (.int .i64 fr) := keep_cell (cell_over _ (box0 w 26 #[.int .i64 a, .int .i64 b, .int .i64 c, .int .i64 bo, .int .i64 fr, .int .i64 tr, .int .i64 ag, .slice X ks.length cp] 4)) hB1
  have c1_5 : w1.cell? ⟨w.heap.size, 5, none⟩ = some (.int .i64 tr) := keep_cell (cell_over _ (box0 w 26 #[.int .i64 a, .int .i64 b, .int .i64 c, .int .i64 bo, .int .i64 fr, .int .i64 tr, .int .i64 ag, .slice X ks.length cp] 5)) hB1
  have c1_6 : w1.cell? ⟨w.heap.size, 6, none⟩ = some (.int .i64 ag) := keep_cell (cell_over _ (box0 w 26 #[.int .i64 a, .int .i64 b, .int .i64 c, .int .i64 bo, .int .i64 fr, .int .i64 tr, .int .i64 ag, .slice X ks.length cp] 6)) hB1
  have c1_7 : w1.cell? ⟨w.heap.size, 7, none⟩ = some (.slice X ks.length cp) := keep_cell (cell_over _ (box0 w 26 #[.int .i64 a, .int .i64 b, .int .i64 c, .int .i64 bo, .int .i64 fr, .int .i64 tr, .int .i64 ag, .slice X ks.length cp] 7)) hB1
  have c1_8 : w1.cell? ⟨w.heap.size + 1, 0, none⟩ = some (.int .i64 job) := keep_cell (box1 w 37 #[.int .i64 job, .int .i64 x1, .int .i64 x2, .int .i64 x3, .int .i64 x4, .int .i64 x5, .int .i64 x6, .bool t1, .bool t2, .bool t3, .int .u8 ph, .int .i64 tt, .int .i64 si] 0) hB1
  have c1_9 : w1.cell? ⟨w.heap.size + 1, 1, none⟩ = some (.int .i64 x1) := keep_cell (box1 w 37 #[.int .i64 job, .int .i64 x1, .int .i64 x2, .int .i64 x3, .int .i64 x4, .int .i64 x5, .int .i64 x6, .bool t1, .bool t2, .bool t3, .int .u8 ph, .int .i64 tt, .int .i64 si] 1) hB1
  have c1_10 : w1.cell? ⟨w.heap.size + 1, 2, none⟩ = some (.int .i64 x2) := keep_cell (box1 w 37 #[.int .i64 job, .int .i64 x1, .int .i64 x2, .int .i64 x3, .int .i64 x4, .int .i64 x5, .int .i64 x6, .bool t1, .bool t2, .bool t3, .int .u8 ph, .int .i64 tt, .int .i64 si] 2) hB1
  have c1_11 : w1.cell? ⟨w.heap.size + 1, 3, none⟩ = some (.int .i64 x3) := keep_cell (box1 w 37 #[.int .i64 job, .int .i64 x1, .int .i64 x2, .int .i64 x3, .int .i64 x4, .int .i64 x5, .int .i64 x6, .bool t1, .bool t2, .bool t3, .int .u8 ph, .int .i64 tt, .int .i64 si] 3) hB1
  have c1_12 : w1.cell? ⟨w.heap.size + 1, 4, none⟩ = some (.int .i64 x4) := keep_cell (box1 w 37 #[.int .i64 job, .int .i64 x1, .int .i64 x2, .int .i64 x3, .int .i64 x4, .int .i64 x5, .int .i64 x6, .bool t1, .bool t2, .bool t3, .int .u8 ph, .int .i64 tt, .int .i64 si] 4) hB1
  have c1_13 : w1.cell? ⟨w.heap.size + 1, 5, none⟩ = some (.int .i64 x5) := keep_cell (box1 w 37 #[.int .i64 job, .int .i64 x1, .int .i64 x2, .int .i64 x3, .int .i64 x4, .int .i64 x5, .int .i64 x6, .bool t1, .bool t2, .bool t3, .int .u8 ph, .int .i64 tt, .int .i64 si] 5) hB1
  have c1_14 : w1.cell? ⟨w.heap.size + 1, 6, none⟩ = some (.int .i64 x6) := keep_cell (box1 w 37 #[.int .i64 job, .int .i64 x1, .int .i64 x2, .int .i64 x3, .int .i64 x4, .int .i64 x5, .int .i64 x6, .bool t1, .bool t2, .bool t3, .int .u8 ph, .int .i64 tt, .int .i64 si] 6) hB1
  have c1_15 : w1.cell? ⟨w.heap.size + 1, 7, none⟩ = some (.bool t1) := keep_cell (box1 w 37 #[.int .i64 job, .int .i64 x1, .int .i64 x2, .int .i64 x3, .int .i64 x4, .int .i64 x5, .int .i64 x6, .bool t1, .bool t2, .bool t3, .int .u8 ph, .int .i64 tt, .int .i64 si] 7) hB1
  have c1_16 : w1.cell? ⟨w.heap.size + 1, 8, none⟩ = some (.bool t2) := keep_cell (box1 w 37 #[.int .i64 job, .int .i64 x1, .int .i64 x2, .int .i64 x3, .int .i64 x4, .int .i64 x5, .int .i64 x6, .bool t1, .bool t2, .bool t3, .int .u8 ph, .int .i64 tt, .int .i64 si] 8) hB1
  have c1_17 : w1.cell? ⟨w.heap.size + 1, 9, none⟩ = some (.bool t3) := keep_cell (box1 w 37 #[.int .i64 job, .int .i64 x1, .int .i64 x2, .int .i64 x3, .int .i64 x4, .int .i64 x5, .int .i64 x6, .bool t1, .bool t2, .bool t3, .int .u8 ph, .int .i64 tt, .int .i64 si] 9) hB1
  have c1_18 : w1.cell? ⟨w.heap.size + 1, 10, none⟩ = some (.int .u8 ph) := keep_cell (box1 w 37 #[.int .i64 job, .int .i64 x1, .int .i64 x2, .int .i64 x3, .int .i64 x4, .int .i64 x5, .int .i64 x6, .bool t1, .bool t2, .bool t3, .int .u8 ph, .int .i64 tt, .int .i64 si] 10) hB1
  have c1_19 : w1.cell? ⟨w.heap.size + 1, 11, none⟩ = some (.int .i64 tt) := keep_cell (box1 w 37 #[.int .i64 job, .int .i64 x1, .int .i64 x2, .int .i64 x3, .int .i64 x4, .int .i64 x5, .int .i64 x6, .bool t1, .bool t2, .bool t3, .int .u8 ph, .int .i64 tt, .int .i64 si] 11) hB1
  have c1_20 : w1.cell? ⟨w.heap.size + 1, 12, none⟩ = some (.int .i64 si) := keep_cell (box1 w 37 #[.int .i64 job, .int .i64 x1, .int .i64 x2, .int .i64 x3, .int .i64 x4, .int .i64 x5, .int .i64 x6, .bool t1, .bool t2, .bool t3, .int .u8 ph, .int .i64 tt, .int .i64 si] 12) hB1
  have z1_0 : w.heap.size < w1.heap.size := cell_lt c1_0
  have z1_1 : w.heap.size + 1 < w1.heap.size := cell_lt c1_8
  clear hB1  
  go_wp2_with fail
  go_ret2
  exact ⟨rfl, HB1.out⟩
set_option maxRecDepth 100000 in
set_option maxHeartbeats 2000000 in
theorem turns1 (a b c bo fr tr ag : Int) (X : Option Addr) (cp : Nat) (ks : List Cls) (hl : ks.length ≤ 9223372036854775807) (job x1 x2 x3 x4 x5 x6 : Int) (t1 t2 t3 : Bool) (tt si : Int) (wall : Int) (h : CfgOk a b c bo fr tr ag ks) (hp : PartOk job 1 tt si tr) (hW : inB wall 1 1048576 = true) (w : World) (hk : ClsAt w w.heap.size X ks) :
    Calls Try.prog 16 #[.agg #[.int .i64 a, .int .i64 b, .int .i64 c, .int .i64 bo, .int .i64 fr, .int .i64 tr, .int .i64 ag, .slice X ks.length cp], .agg #[.int .i64 job, .int .i64 x1, .int .i64 x2, .int .i64 x3, .int .i64 x4, .int .i64 x5, .int .i64 x6, .bool t1, .bool t2, .bool t3, .int .u8 1, .int .i64 tt, .int .i64 si], .int .i64 wall] w (fun e w' => e = .returned (.tuple #[.int .i64 (capM (si + clockR 1 bo wall fr)), .int .i64 0]) ∧ Below w.heap.size w w') := by
  have hv : si + clockR 1 bo wall fr = si + bo := by simp [clockR]
  rw [hv]
  obtain ⟨⟨b1, b2⟩, ⟨f1, f2⟩, ⟨w1_, w2_⟩, ⟨s1, s2⟩⟩ := facts h hp hW
  have HH := Lib.hid h
  have HKK := Lib.hid hk
  have HP := Lib.hid hp
  have HW := Lib.hid hW
  clear h hk hp hW hv
  go_enter Try.func16, Try.ntmps16
  go_wp2_with fail
  refine (spans1 a b c bo fr tr ag X cp ks hl job x1 x2 x3 x4 x5 x6 t1 t2 t3 tt si wall HH.out HP.out HW.out _ (HKK.out.up (below_alloc (below_alloc (Below.refl _ _))))).mono ?_
  rintro e w1 ⟨g, rfl, hB1, hblk⟩
  have HB1 := Lib.hid (below_up (below_alloc (below_alloc (Below.refl _ _))) hB1)
  have ks0 : w1.cell? ⟨w.heap.size + 1, 12, none⟩ = some (.int .i64 si) := keep_cell (box1 w _ #[.int .i64 job, .int .i64 x1, .int .i64 x2, .int .i64 x3, .int .i64 x4, .int .i64 x5, .int .i64 x6, .bool t1, .bool t2, .bool t3, .int .u8 1, .int .i64 tt, .int .i64 si] 12) hB1
  have g0 : w1.cell? ⟨g, 0, none⟩ = some (.int .i64 bo) := hblk.cell 0
  have g1 : w1.cell? ⟨g, 1, none⟩ = some (.int .i64 wall) := hblk.cell 1
  have g2 : w1.cell? ⟨g, 2, none⟩ = some (.int .i64 fr) := hblk.cell 2
  clear hB1 hblk
  by_cases hv : si + bo ≤ 1099511627776
  · have HV := Lib.hid hv
    go_wp2_with fail
    go_quiet (fail)
    go_wp2_with fail
    go_ret2
    exact ⟨ret_pair (by rw [capM_lo (v := si + bo) (by have := HV.out; omega)]), below_drewN HB1.out _⟩
  · have HV := Lib.hid hv
    go_wp2_with fail
    go_quiet (fail)
    go_wp2_with fail
    go_ret2
    exact ⟨ret_pair (by rw [capM_hi (v := si + bo) (by have := HV.out; omega)]), below_drewN HB1.out _⟩
set_option maxRecDepth 100000 in
set_option maxHeartbeats 2000000 in
theorem turns2 (a b c bo fr tr ag : Int) (X : Option Addr) (cp : Nat) (ks : List Cls) (hl : ks.length ≤ 9223372036854775807) (job x1 x2 x3 x4 x5 x6 : Int) (t1 t2 t3 : Bool) (tt si : Int) (wall : Int) (h : CfgOk a b c bo fr tr ag ks) (hp : PartOk job 2 tt si tr) (hW : inB wall 1 1048576 = true) (w : World) (hk : ClsAt w w.heap.size X ks) :
    Calls Try.prog 16 #[.agg #[.int .i64 a, .int .i64 b, .int .i64 c, .int .i64 bo, .int .i64 fr, .int .i64 tr, .int .i64 ag, .slice X ks.length cp], .agg #[.int .i64 job, .int .i64 x1, .int .i64 x2, .int .i64 x3, .int .i64 x4, .int .i64 x5, .int .i64 x6, .bool t1, .bool t2, .bool t3, .int .u8 2, .int .i64 tt, .int .i64 si], .int .i64 wall] w (fun e w' => e = .returned (.tuple #[.int .i64 (capM (si + clockR 2 bo wall fr)), .int .i64 0]) ∧ Below w.heap.size w w') := by
  have hv : si + clockR 2 bo wall fr = si + wall := by simp [clockR]
  rw [hv]
  obtain ⟨⟨b1, b2⟩, ⟨f1, f2⟩, ⟨w1_, w2_⟩, ⟨s1, s2⟩⟩ := facts h hp hW
  have HH := Lib.hid h
  have HKK := Lib.hid hk
  have HP := Lib.hid hp
  have HW := Lib.hid hW
  clear h hk hp hW hv
  go_enter Try.func16, Try.ntmps16
  go_wp2_with fail
  refine (spans2 a b c bo fr tr ag X cp ks hl job x1 x2 x3 x4 x5 x6 t1 t2 t3 tt si wall HH.out HP.out HW.out _ (HKK.out.up (below_alloc (below_alloc (Below.refl _ _))))).mono ?_
  rintro e w1 ⟨g, rfl, hB1, hblk⟩
  have HB1 := Lib.hid (below_up (below_alloc (below_alloc (Below.refl _ _))) hB1)
  have ks0 : w1.cell? ⟨w.heap.size + 1, 12, none⟩ = some (.int .i64 si) := keep_cell (box1 w _ #[.int .i64 job, .int .i64 x1, .int .i64 x2, .int .i64 x3, .int .i64 x4, .int .i64 x5, .int .i64 x6, .bool t1, .bool t2, .bool t3, .int .u8 2, .int .i64 tt, .int .i64 si] 12) hB1
  have g0 : w1.cell? ⟨g, 0, none⟩ = some (.int .i64 bo) := hblk.cell 0
  have g1 : w1.cell? ⟨g, 1, none⟩ = some (.int .i64 wall) := hblk.cell 1
  have g2 : w1.cell? ⟨g, 2, none⟩ = some (.int .i64 fr) := hblk.cell 2
  clear hB1 hblk
  by_cases hv : si + wall ≤ 1099511627776
  · have HV := Lib.hid hv
    go_wp2_with fail
    go_quiet (fail)
    go_wp2_with fail
    go_ret2
    exact ⟨ret_pair (by rw [capM_lo (v := si + wall) (by have := HV.out; omega)]), below_drewN HB1.out _⟩
  · have HV := Lib.hid hv
    go_wp2_with fail
    go_quiet (fail)
    go_wp2_with fail
    go_ret2
    exact ⟨ret_pair (by rw [capM_hi (v := si + wall) (by have := HV.out; omega)]), below_drewN HB1.out _⟩
set_option maxRecDepth 100000 in
set_option maxHeartbeats 2000000 in
theorem turns3 (a b c bo fr tr ag : Int) (X : Option Addr) (cp : Nat) (ks : List Cls) (hl : ks.length ≤ 9223372036854775807) (job x1 x2 x3 x4 x5 x6 : Int) (t1 t2 t3 : Bool) (tt si : Int) (wall : Int) (h : CfgOk a b c bo fr tr ag ks) (hp : PartOk job 3 tt si tr) (hW : inB wall 1 1048576 = true) (w : World) (hk : ClsAt w w.heap.size X ks) :
    Calls Try.prog 16 #[.agg #[.int .i64 a, .int .i64 b, .int .i64 c, .int .i64 bo, .int .i64 fr, .int .i64 tr, .int .i64 ag, .slice X ks.length cp], .agg #[.int .i64 job, .int .i64 x1, .int .i64 x2, .int .i64 x3, .int .i64 x4, .int .i64 x5, .int .i64 x6, .bool t1, .bool t2, .bool t3, .int .u8 3, .int .i64 tt, .int .i64 si], .int .i64 wall] w (fun e w' => e = .returned (.tuple #[.int .i64 (capM (si + clockR 3 bo wall fr)), .int .i64 0]) ∧ Below w.heap.size w w') := by
  have hv : si + clockR 3 bo wall fr = si + fr := by simp [clockR]
  rw [hv]
  obtain ⟨⟨b1, b2⟩, ⟨f1, f2⟩, ⟨w1_, w2_⟩, ⟨s1, s2⟩⟩ := facts h hp hW
  have HH := Lib.hid h
  have HKK := Lib.hid hk
  have HP := Lib.hid hp
  have HW := Lib.hid hW
  clear h hk hp hW hv
  go_enter Try.func16, Try.ntmps16
  go_wp2_with fail
  refine (spans3 a b c bo fr tr ag X cp ks hl job x1 x2 x3 x4 x5 x6 t1 t2 t3 tt si wall HH.out HP.out HW.out _ (HKK.out.up (below_alloc (below_alloc (Below.refl _ _))))).mono ?_
  rintro e w1 ⟨g, rfl, hB1, hblk⟩
  have HB1 := Lib.hid (below_up (below_alloc (below_alloc (Below.refl _ _))) hB1)
  have ks0 : w1.cell? ⟨w.heap.size + 1, 12, none⟩ = some (.int .i64 si) := keep_cell (box1 w _ #[.int .i64 job, .int .i64 x1, .int .i64 x2, .int .i64 x3, .int .i64 x4, .int .i64 x5, .int .i64 x6, .bool t1, .bool t2, .bool t3, .int .u8 3, .int .i64 tt, .int .i64 si] 12) hB1
  have g0 : w1.cell? ⟨g, 0, none⟩ = some (.int .i64 bo) := hblk.cell 0
  have g1 : w1.cell? ⟨g, 1, none⟩ = some (.int .i64 wall) := hblk.cell 1
  have g2 : w1.cell? ⟨g, 2, none⟩ = some (.int .i64 fr) := hblk.cell 2
  clear hB1 hblk
  by_cases hv : si + fr ≤ 1099511627776
  · have HV := Lib.hid hv
    go_wp2_with fail
    go_quiet (fail)
    go_wp2_with fail
    go_ret2
    exact ⟨ret_pair (by rw [capM_lo (v := si + fr) (by have := HV.out; omega)]), below_drewN HB1.out _⟩
  · have HV := Lib.hid hv
    go_wp2_with fail
    go_quiet (fail)
    go_wp2_with fail
    go_ret2
    exact ⟨ret_pair (by rw [capM_hi (v := si + fr) (by have := HV.out; omega)]), below_drewN HB1.out _⟩
set_option maxRecDepth 100000 in
set_option maxHeartbeats 2000000 in
theorem rleft1 (a b c bo fr tr ag : Int) (X : Option Addr) (cp : Nat) (ks : List Cls) (wall : Int) (b1 : 1 ≤ bo) (b2 : bo ≤ 1048576) (f1 : 1 ≤ fr) (f2 : fr ≤ 1048576) (w1_ : 1 ≤ wall) (w2_ : wall ≤ 1048576) (w : World) :
    Calls Try.prog 28 #[.agg #[.int .i64 a, .int .i64 b, .int .i64 c, .int .i64 bo, .int .i64 fr, .int .i64 tr, .int .i64 ag, .slice X ks.length cp], .int .u8 1, .int .i64 wall] w (fun e w' => e = .returned (.int .i64 (bo + wall + fr)) ∧ Below w.heap.size w w') := by
  go_enter Try.func28, Try.ntmps28
  go_wp2_with fail
  go_ret
  exact ⟨rfl, (below_alloc (Below.refl _ _))⟩
set_option maxRecDepth 100000 in
set_option maxHeartbeats 2000000 in
theorem rclock1 (a b c bo fr tr ag : Int) (X : Option Addr) (cp : Nat) (ks : List Cls) (job x1 x2 x3 x4 x5 x6 : Int) (t1 t2 t3 : Bool) (tt si : Int) (wall : Int) (b1 : 1 ≤ bo) (b2 : bo ≤ 1048576) (f1 : 1 ≤ fr) (f2 : fr ≤ 1048576) (w1_ : 1 ≤ wall) (w2_ : wall ≤ 1048576) (s1 : 0 ≤ si) (s2 : si ≤ 1099511627776) (w : World) :
    Calls Try.prog 29 #[.agg #[.int .i64 a, .int .i64 b, .int .i64 c, .int .i64 bo, .int .i64 fr, .int .i64 tr, .int .i64 ag, .slice X ks.length cp], .agg #[.int .i64 job, .int .i64 x1, .int .i64 x2, .int .i64 x3, .int .i64 x4, .int .i64 x5, .int .i64 x6, .bool t1, .bool t2, .bool t3, .int .u8 1, .int .i64 tt, .int .i64 si], .int .i64 wall] w (fun e w' => e = .returned (.int .i64 (si + bo)) ∧ Below w.heap.size w w') := by
  go_enter Try.func29, Try.ntmps29
  go_wp2_with fail
  go_ret
  exact ⟨rfl, (below_alloc (below_alloc (Below.refl _ _)))⟩
set_option maxRecDepth 100000 in
set_option maxHeartbeats 2000000 in
theorem rleft2 (a b c bo fr tr ag : Int) (X : Option Addr) (cp : Nat) (ks : List Cls) (wall : Int) (b1 : 1 ≤ bo) (b2 : bo ≤ 1048576) (f1 : 1 ≤ fr) (f2 : fr ≤ 1048576) (w1_ : 1 ≤ wall) (w2_ : wall ≤ 1048576) (w : World) :
    Calls Try.prog 28 #[.agg #[.int .i64 a, .int .i64 b, .int .i64 c, .int .i64 bo, .int .i64 fr, .int .i64 tr, .int .i64 ag, .slice X ks.length cp], .int .u8 2, .int .i64 wall] w (fun e w' => e = .returned (.int .i64 (wall + fr)) ∧ Below w.heap.size w w') := by
  go_enter Try.func28, Try.ntmps28
  go_wp2_with fail
  go_ret
  exact ⟨rfl, (below_alloc (Below.refl _ _))⟩
set_option maxRecDepth 100000 in
set_option maxHeartbeats 2000000 in
theorem rclock2 (a b c bo fr tr ag : Int) (X : Option Addr) (cp : Nat) (ks : List Cls) (job x1 x2 x3 x4 x5 x6 : Int) (t1 t2 t3 : Bool) (tt si : Int) (wall : Int) (b1 : 1 ≤ bo) (b2 : bo ≤ 1048576) (f1 : 1 ≤ fr) (f2 : fr ≤ 1048576) (w1_ : 1 ≤ wall) (w2_ : wall ≤ 1048576) (s1 : 0 ≤ si) (s2 : si ≤ 1099511627776) (w : World) :
    Calls Try.prog 29 #[.agg #[.int .i64 a, .int .i64 b, .int .i64 c, .int .i64 bo, .int .i64 fr, .int .i64 tr, .int .i64 ag, .slice X ks.length cp], .agg #[.int .i64 job, .int .i64 x1, .int .i64 x2, .int .i64 x3, .int .i64 x4, .int .i64 x5, .int .i64 x6, .bool t1, .bool t2, .bool t3, .int .u8 2, .int .i64 tt, .int .i64 si], .int .i64 wall] w (fun e w' => e = .returned (.int .i64 (si + wall)) ∧ Below w.heap.size w w') := by
  go_enter Try.func29, Try.ntmps29
  go_wp2_with fail
  go_ret
  exact ⟨rfl, (below_alloc (below_alloc (Below.refl _ _)))⟩
set_option maxRecDepth 100000 in
set_option maxHeartbeats 2000000 in
theorem rleft3 (a b c bo fr tr ag : Int) (X : Option Addr) (cp : Nat) (ks : List Cls) (wall : Int) (b1 : 1 ≤ bo) (b2 : bo ≤ 1048576) (f1 : 1 ≤ fr) (f2 : fr ≤ 1048576) (w1_ : 1 ≤ wall) (w2_ : wall ≤ 1048576) (w : World) :
    Calls Try.prog 28 #[.agg #[.int .i64 a, .int .i64 b, .int .i64 c, .int .i64 bo, .int .i64 fr, .int .i64 tr, .int .i64 ag, .slice X ks.length cp], .int .u8 3, .int .i64 wall] w (fun e w' => e = .returned (.int .i64 (fr)) ∧ Below w.heap.size w w') := by
  go_enter Try.func28, Try.ntmps28
  go_wp2_with fail
  go_ret
  exact ⟨rfl, (below_alloc (Below.refl _ _))⟩
set_option maxRecDepth 100000 in
set_option maxHeartbeats 2000000 in
theorem rclock3 (a b c bo fr tr ag : Int) (X : Option Addr) (cp : Nat) (ks : List Cls) (job x1 x2 x3 x4 x5 x6 : Int) (t1 t2 t3 : Bool) (tt si : Int) (wall : Int) (b1 : 1 ≤ bo) (b2 : bo ≤ 1048576) (f1 : 1 ≤ fr) (f2 : fr ≤ 1048576) (w1_ : 1 ≤ wall) (w2_ : wall ≤ 1048576) (s1 : 0 ≤ si) (s2 : si ≤ 1099511627776) (w : World) :
    Calls Try.prog 29 #[.agg #[.int .i64 a, .int .i64 b, .int .i64 c, .int .i64 bo, .int .i64 fr, .int .i64 tr, .int .i64 ag, .slice X ks.length cp], .agg #[.int .i64 job, .int .i64 x1, .int .i64 x2, .int .i64 x3, .int .i64 x4, .int .i64 x5, .int .i64 x6, .bool t1, .bool t2, .bool t3, .int .u8 3, .int .i64 tt, .int .i64 si], .int .i64 wall] w (fun e w' => e = .returned (.int .i64 (si + fr)) ∧ Below w.heap.size w w') := by
  go_enter Try.func29, Try.ntmps29
  go_wp2_with fail
  go_ret
  exact ⟨rfl, (below_alloc (below_alloc (Below.refl _ _)))⟩
set_option maxRecDepth 100000 in
set_option maxHeartbeats 2000000 in
theorem rends_cfg (a b c bo fr tr ag : Int) (X : Option Addr) (cp : Nat) (ks : List Cls) (hl : ks.length ≤ 9223372036854775807) (job x1 x2 x3 x4 x5 x6 : Int) (t1 t2 t3 : Bool) (ph tt si : Int) (wall : Int) (h : ¬ CfgOk a b c bo fr tr ag ks) (w : World) (hk : ClsAt w w.heap.size X ks) :
    Calls Try.prog 15 #[.agg #[.int .i64 a, .int .i64 b, .int .i64 c, .int .i64 bo, .int .i64 fr, .int .i64 tr, .int .i64 ag, .slice X ks.length cp], .agg #[.int .i64 job, .int .i64 x1, .int .i64 x2, .int .i64 x3, .int .i64 x4, .int .i64 x5, .int .i64 x6, .bool t1, .bool t2, .bool t3, .int .u8 ph, .int .i64 tt, .int .i64 si], .int .i64 wall] w (fun e w' => e = .returned (.tuple #[.int .i64 0, .int .i64 8]) ∧ Below w.heap.size w w') := by
  have HH := Lib.hid h
  have HKK := Lib.hid hk
  clear h hk
  go_enter Try.func15, Try.ntmps15
  go_wp2_with fail
  refine (asked_cfg a b c bo fr tr ag X cp ks hl job x1 x2 x3 x4 x5 x6 t1 t2 t3 ph tt si wall HH.out _ (HKK.out.up (below_alloc (below_alloc (Below.refl _ _))))).mono ?_
  rintro e w1 ⟨rfl, hB1⟩
  have HB1 : Hid (Below w.heap.size w w1) := below_up (below_alloc (below_alloc (Below.refl _ _))) hB1
  have c1_0 : w1.cell? ⟨w.heap.size, 0, none⟩ = some (.int .i64 a) := keep_cell (cell_over _ (box0 w 26 #[.int .i64 a, .int .i64 b, .int .i64 c, .int .i64 bo, .int .i64 fr, .int .i64 tr, .int .i64 ag, .slice X ks.length cp] 0)) hB1
  have c1_1 : w1.cell? ⟨w.heap.size, 1, none⟩ = some (.int .i64 b) := keep_cell (cell_over _ (box0 w 26 #[.int .i64 a, .int .i64 b, .int .i64 c, .int .i64 bo, .int .i64 fr, .int .i64 tr, .int .i64 ag, .slice X ks.length cp] 1)) hB1
  have c1_2 : w1.cell? ⟨w.heap.size, 2, none⟩ = some (.int .i64 c) := keep_cell (cell_over _ (box0 w 26 #[.int .i64 a, .int .i64 b, .int .i64 c, .int .i64 bo, .int .i64 fr, .int .i64 tr, .int .i64 ag, .slice X ks.length cp] 2)) hB1
  have c1_3 : w1.cell? ⟨w.heap.size, 3, none⟩ = some (.int .i64 bo) := keep_cell (cell_over _ (box0 w 26 #[.int .i64 a, .int .i64 b, .int .i64 c, .int .i64 bo, .int .i64 fr, .int .i64 tr, .int .i64 ag, .slice X ks.length cp] 3)) hB1
  have c1_4 : w1.cell? ⟨w.heap.size, 4, none⟩ = some (.int .i64 fr) := keep_cell (cell_over _ (box0 w 26 #[.int .i64 a, .int .i64 b, .int .i64 c, .int .i64 bo, .int .i64 fr, .int .i64 tr, .int .i64 ag, .slice X ks.length cp] 4)) hB1
  have c1_5 : w1.cell? ⟨w.heap.size, 5, none⟩ = some (.int .i64 tr) := keep_cell (cell_over _ (box0 w 26 #[.int .i64 a, .int .i64 b, .int .i64 c, .int .i64 bo, .int .i64 fr, .int .i64 tr, .int .i64 ag, .slice X ks.length cp] 5)) hB1
  have c1_6 : w1.cell? ⟨w.heap.size, 6, none⟩ = some (.int .i64 ag) := keep_cell (cell_over _ (box0 w 26 #[.int .i64 a, .int .i64 b, .int .i64 c, .int .i64 bo, .int .i64 fr, .int .i64 tr, .int .i64 ag, .slice X ks.length cp] 6)) hB1
  have c1_7 : w1.cell? ⟨w.heap.size, 7, none⟩ = some (.slice X ks.length cp) := keep_cell (cell_over _ (box0 w 26 #[.int .i64 a, .int .i64 b, .int .i64 c, .int .i64 bo, .int .i64 fr, .int .i64 tr, .int .i64 ag, .slice X ks.length cp] 7)) hB1
  have c1_8 : w1.cell? ⟨w.heap.size + 1, 0, none⟩ = some (.int .i64 job) := keep_cell (box1 w 37 #[.int .i64 job, .int .i64 x1, .int .i64 x2, .int .i64 x3, .int .i64 x4, .int .i64 x5, .int .i64 x6, .bool t1, .bool t2, .bool t3, .int .u8 ph, .int .i64 tt, .int .i64 si] 0) hB1
  have c1_9 : w1.cell? ⟨w.heap.size + 1, 1, none⟩ = some (.int .i64 x1) := keep_cell (box1 w 37 #[.int .i64 job, .int .i64 x1, .int .i64 x2, .int .i64 x3, .int .i64 x4, .int .i64 x5, .int .i64 x6, .bool t1, .bool t2, .bool t3, .int .u8 ph, .int .i64 tt, .int .i64 si] 1) hB1
  have c1_10 : w1.cell? ⟨w.heap.size + 1, 2, none⟩ = some (.int .i64 x2) := keep_cell (box1 w 37 #[.int .i64 job, .int .i64 x1, .int .i64 x2, .int .i64 x3, .int .i64 x4, .int .i64 x5, .int .i64 x6, .bool t1, .bool t2, .bool t3, .int .u8 ph, .int .i64 tt, .int .i64 si] 2) hB1
  have c1_11 : w1.cell? ⟨w.heap.size + 1, 3, none⟩ = some (.int .i64 x3) := keep_cell (box1 w 37 #[.int .i64 job, .int .i64 x1, .int .i64 x2, .int .i64 x3, .int .i64 x4, .int .i64 x5, .int .i64 x6, .bool t1, .bool t2, .bool t3, .int .u8 ph, .int .i64 tt, .int .i64 si] 3) hB1
  have c1_12 : w1.cell? ⟨w.heap.size + 1, 4, none⟩ = some (.int .i64 x4) := keep_cell (box1 w 37 #[.int .i64 job, .int .i64 x1, .int .i64 x2, .int .i64 x3, .int .i64 x4, .int .i64 x5, .int .i64 x6, .bool t1, .bool t2, .bool t3, .int .u8 ph, .int .i64 tt, .int .i64 si] 4) hB1
  have c1_13 : w1.cell? ⟨w.heap.size + 1, 5, none⟩ = some (.int .i64 x5) := keep_cell (box1 w 37 #[.int .i64 job, .int .i64 x1, .int .i64 x2, .int .i64 x3, .int .i64 x4, .int .i64 x5, .int .i64 x6, .bool t1, .bool t2, .bool t3, .int .u8 ph, .int .i64 tt, .int .i64 si] 5) hB1
  have c1_14 : w1.cell? ⟨w.heap.size + 1, 6, none⟩ = some (.int .i64 x6) := keep_cell (box1 w 37 #[.int .i64 job, .int .i64 x1, .int .i64 x2, .int .i64 x3, .int .i64 x4, .int .i64 x5, .int .i64 x6, .bool t1, .bool t2, .bool t3, .int .u8 ph, .int .i64 tt, .int .i64 si] 6) hB1
  have c1_15 : w1.cell? ⟨w.heap.size + 1, 7, none⟩ = some (.bool t1) := keep_cell (box1 w 37 #[.int .i64 job, .int .i64 x1, .int .i64 x2, .int .i64 x3, .int .i64 x4, .int .i64 x5, .int .i64 x6, .bool t1, .bool t2, .bool t3, .int .u8 ph, .int .i64 tt, .int .i64 si] 7) hB1
  have c1_16 : w1.cell? ⟨w.heap.size + 1, 8, none⟩ = some (.bool t2) := keep_cell (box1 w 37 #[.int .i64 job, .int .i64 x1, .int .i64 x2, .int .i64 x3, .int .i64 x4, .int .i64 x5, .int .i64 x6, .bool t1, .bool t2, .bool t3, .int .u8 ph, .int .i64 tt, .int .i64 si] 8) hB1
  have c1_17 : w1.cell? ⟨w.heap.size + 1, 9, none⟩ = some (.bool t3) := keep_cell (box1 w 37 #[.int .i64 job, .int .i64 x1, .int .i64 x2, .int .i64 x3, .int .i64 x4, .int .i64 x5, .int .i64 x6, .bool t1, .bool t2, .bool t3, .int .u8 ph, .int .i64 tt, .int .i64 si] 9) hB1
  have c1_18 : w1.cell? ⟨w.heap.size + 1, 10, none⟩ = some (.int .u8 ph) := keep_cell (box1 w 37 #[.int .i64 job, .int .i64 x1, .int .i64 x2, .int .i64 x3, .int .i64 x4, .int .i64 x5, .int .i64 x6, .bool t1, .bool t2, .bool t3, .int .u8 ph, .int .i64 tt, .int .i64 si] 10) hB1
  have c1_19 : w1.cell? ⟨w.heap.size + 1, 11, none⟩ = some (.int .i64 tt) := keep_cell (box1 w 37 #[.int .i64 job, .int .i64 x1, .int .i64 x2, .int .i64 x3, .int .i64 x4, .int .i64 x5, .int .i64 x6, .bool t1, .bool t2, .bool t3, .int .u8 ph, .int .i64 tt, .int .i64 si] 11) hB1
  have c1_20 : w1.cell? ⟨w.heap.size + 1, 12, none⟩ = some (.int .i64 si) := keep_cell (box1 w 37 #[.int .i64 job, .int .i64 x1, .int .i64 x2, .int .i64 x3, .int .i64 x4, .int .i64 x5, .int .i64 x6, .bool t1, .bool t2, .bool t3, .int .u8 ph, .int .i64 tt, .int .i64 si] 12) hB1
  have z1_0 : w.heap.size < w1.heap.size := cell_lt c1_0
  have z1_1 : w.heap.size + 1 < w1.heap.size := cell_lt c1_8
  clear hB1  
  go_wp2_with fail
  go_ret2
  exact ⟨rfl, HB1.out⟩
set_option maxRecDepth 100000 in
set_option maxHeartbeats 2000000 in
theorem rends_part (a b c bo fr tr ag : Int) (X : Option Addr) (cp : Nat) (ks : List Cls) (hl : ks.length ≤ 9223372036854775807) (job x1 x2 x3 x4 x5 x6 : Int) (t1 t2 t3 : Bool) (ph tt si : Int) (wall : Int) (h : CfgOk a b c bo fr tr ag ks) (hp : ¬ PartOk job ph tt si tr) (w : World) (hk : ClsAt w w.heap.size X ks) :
    Calls Try.prog 15 #[.agg #[.int .i64 a, .int .i64 b, .int .i64 c, .int .i64 bo, .int .i64 fr, .int .i64 tr, .int .i64 ag, .slice X ks.length cp], .agg #[.int .i64 job, .int .i64 x1, .int .i64 x2, .int .i64 x3, .int .i64 x4, .int .i64 x5, .int .i64 x6, .bool t1, .bool t2, .bool t3, .int .u8 ph, .int .i64 tt, .int .i64 si], .int .i64 wall] w (fun e w' => e = .returned (.tuple #[.int .i64 0, .int .i64 8]) ∧ Below w.heap.size w w') := by
  have HH := Lib.hid h
  have HKK := Lib.hid hk
  clear h hk
  have HP := Lib.hid hp
  clear hp
  go_enter Try.func15, Try.ntmps15
  go_wp2_with fail
  refine (asked_part a b c bo fr tr ag X cp ks hl job x1 x2 x3 x4 x5 x6 t1 t2 t3 ph tt si wall HH.out HP.out _ (HKK.out.up (below_alloc (below_alloc (Below.refl _ _))))).mono ?_
  rintro e w1 ⟨rfl, hB1⟩
  have HB1 : Hid (Below w.heap.size w w1) := below_up (below_alloc (below_alloc (Below.refl _ _))) hB1
  have c1_0 : w1.cell? ⟨w.heap.size, 0, none⟩ = some (.int .i64 a) := keep_cell (cell_over _ (box0 w 26 #[.int .i64 a, .int .i64 b, .int .i64 c, .int .i64 bo, .int .i64 fr, .int .i64 tr, .int .i64 ag, .slice X ks.length cp] 0)) hB1
  have c1_1 : w1.cell? ⟨w.heap.size, 1, none⟩ = some (.int .i64 b) := keep_cell (cell_over _ (box0 w 26 #[.int .i64 a, .int .i64 b, .int .i64 c, .int .i64 bo, .int .i64 fr, .int .i64 tr, .int .i64 ag, .slice X ks.length cp] 1)) hB1
  have c1_2 : w1.cell? ⟨w.heap.size, 2, none⟩ = some (.int .i64 c) := keep_cell (cell_over _ (box0 w 26 #[.int .i64 a, .int .i64 b, .int .i64 c, .int .i64 bo, .int .i64 fr, .int .i64 tr, .int .i64 ag, .slice X ks.length cp] 2)) hB1
  have c1_3 : w1.cell? ⟨w.heap.size, 3, none⟩ = some (.int .i64 bo) := keep_cell (cell_over _ (box0 w 26 #[.int .i64 a, .int .i64 b, .int .i64 c, .int .i64 bo, .int .i64 fr, .int .i64 tr, .int .i64 ag, .slice X ks.length cp] 3)) hB1
  have c1_4 : w1.cell? ⟨w.heap.size, 4, none⟩ = some (.int .i64 fr) := keep_cell (cell_over _ (box0 w 26 #[.int .i64 a, .int .i64 b, .int .i64 c, .int .i64 bo, .int .i64 fr, .int .i64 tr, .int .i64 ag, .slice X ks.length cp] 4)) hB1
  have c1_5 : w1.cell? ⟨w.heap.size, 5, none⟩ = some (.int .i64 tr) := keep_cell (cell_over _ (box0 w 26 #[.int .i64 a, .int .i64 b, .int .i64 c, .int .i64 bo, .int .i64 fr, .int .i64 tr, .int .i64 ag, .slice X ks.length cp] 5)) hB1
  have c1_6 : w1.cell? ⟨w.heap.size, 6, none⟩ = some (.int .i64 ag) := keep_cell (cell_over _ (box0 w 26 #[.int .i64 a, .int .i64 b, .int .i64 c, .int .i64 bo, .int .i64 fr, .int .i64 tr, .int .i64 ag, .slice X ks.length cp] 6)) hB1
  have c1_7 : w1.cell? ⟨w.heap.size, 7, none⟩ = some (.slice X ks.length cp) := keep_cell (cell_over _ (box0 w 26 #[.int .i64 a, .int .i64 b, .int .i64 c, .int .i64 bo, .int .i64 fr, .int .i64 tr, .int .i64 ag, .slice X ks.length cp] 7)) hB1
  have c1_8 : w1.cell? ⟨w.heap.size + 1, 0, none⟩ = some (.int .i64 job) := keep_cell (box1 w 37 #[.int .i64 job, .int .i64 x1, .int .i64 x2, .int .i64 x3, .int .i64 x4, .int .i64 x5, .int .i64 x6, .bool t1, .bool t2, .bool t3, .int .u8 ph, .int .i64 tt, .int .i64 si] 0) hB1
  have c1_9 : w1.cell? ⟨w.heap.size + 1, 1, none⟩ = some (.int .i64 x1) := keep_cell (box1 w 37 #[.int .i64 job, .int .i64 x1, .int .i64 x2, .int .i64 x3, .int .i64 x4, .int .i64 x5, .int .i64 x6, .bool t1, .bool t2, .bool t3, .int .u8 ph, .int .i64 tt, .int .i64 si] 1) hB1
  have c1_10 : w1.cell? ⟨w.heap.size + 1, 2, none⟩ = some (.int .i64 x2) := keep_cell (box1 w 37 #[.int .i64 job, .int .i64 x1, .int .i64 x2, .int .i64 x3, .int .i64 x4, .int .i64 x5, .int .i64 x6, .bool t1, .bool t2, .bool t3, .int .u8 ph, .int .i64 tt, .int .i64 si] 2) hB1
  have c1_11 : w1.cell? ⟨w.heap.size + 1, 3, none⟩ = some (.int .i64 x3) := keep_cell (box1 w 37 #[.int .i64 job, .int .i64 x1, .int .i64 x2, .int .i64 x3, .int .i64 x4, .int .i64 x5, .int .i64 x6, .bool t1, .bool t2, .bool t3, .int .u8 ph, .int .i64 tt, .int .i64 si] 3) hB1
  have c1_12 : w1.cell? ⟨w.heap.size + 1, 4, none⟩ = some (.int .i64 x4) := keep_cell (box1 w 37 #[.int .i64 job, .int .i64 x1, .int .i64 x2, .int .i64 x3, .int .i64 x4, .int .i64 x5, .int .i64 x6, .bool t1, .bool t2, .bool t3, .int .u8 ph, .int .i64 tt, .int .i64 si] 4) hB1
  have c1_13 : w1.cell? ⟨w.heap.size + 1, 5, none⟩ = some (.int .i64 x5) := keep_cell (box1 w 37 #[.int .i64 job, .int .i64 x1, .int .i64 x2, .int .i64 x3, .int .i64 x4, .int .i64 x5, .int .i64 x6, .bool t1, .bool t2, .bool t3, .int .u8 ph, .int .i64 tt, .int .i64 si] 5) hB1
  have c1_14 : w1.cell? ⟨w.heap.size + 1, 6, none⟩ = some (.int .i64 x6) := keep_cell (box1 w 37 #[.int .i64 job, .int .i64 x1, .int .i64 x2, .int .i64 x3, .int .i64 x4, .int .i64 x5, .int .i64 x6, .bool t1, .bool t2, .bool t3, .int .u8 ph, .int .i64 tt, .int .i64 si] 6) hB1
  have c1_15 : w1.cell? ⟨w.heap.size + 1, 7, none⟩ = some (.bool t1) := keep_cell (box1 w 37 #[.int .i64 job, .int .i64 x1, .int .i64 x2, .int .i64 x3, .int .i64 x4, .int .i64 x5, .int .i64 x6, .bool t1, .bool t2, .bool t3, .int .u8 ph, .int .i64 tt, .int .i64 si] 7) hB1
  have c1_16 : w1.cell? ⟨w.heap.size + 1, 8, none⟩ = some (.bool t2) := keep_cell (box1 w 37 #[.int .i64 job, .int .i64 x1, .int .i64 x2, .int .i64 x3, .int .i64 x4, .int .i64 x5, .int .i64 x6, .bool t1, .bool t2, .bool t3, .int .u8 ph, .int .i64 tt, .int .i64 si] 8) hB1
  have c1_17 : w1.cell? ⟨w.heap.size + 1, 9, none⟩ = some (.bool t3) := keep_cell (box1 w 37 #[.int .i64 job, .int .i64 x1, .int .i64 x2, .int .i64 x3, .int .i64 x4, .int .i64 x5, .int .i64 x6, .bool t1, .bool t2, .bool t3, .int .u8 ph, .int .i64 tt, .int .i64 si] 9) hB1
  have c1_18 : w1.cell? ⟨w.heap.size + 1, 10, none⟩ = some (.int .u8 ph) := keep_cell (box1 w 37 #[.int .i64 job, .int .i64 x1, .int .i64 x2, .int .i64 x3, .int .i64 x4, .int .i64 x5, .int .i64 x6, .bool t1, .bool t2, .bool t3, .int .u8 ph, .int .i64 tt, .int .i64 si] 10) hB1
  have c1_19 : w1.cell? ⟨w.heap.size + 1, 11, none⟩ = some (.int .i64 tt) := keep_cell (box1 w 37 #[.int .i64 job, .int .i64 x1, .int .i64 x2, .int .i64 x3, .int .i64 x4, .int .i64 x5, .int .i64 x6, .bool t1, .bool t2, .bool t3, .int .u8 ph, .int .i64 tt, .int .i64 si] 11) hB1
  have c1_20 : w1.cell? ⟨w.heap.size + 1, 12, none⟩ = some (.int .i64 si) := keep_cell (box1 w 37 #[.int .i64 job, .int .i64 x1, .int .i64 x2, .int .i64 x3, .int .i64 x4, .int .i64 x5, .int .i64 x6, .bool t1, .bool t2, .bool t3, .int .u8 ph, .int .i64 tt, .int .i64 si] 12) hB1
  have z1_0 : w.heap.size < w1.heap.size := cell_lt c1_0
  have z1_1 : w.heap.size + 1 < w1.heap.size := cell_lt c1_8
  clear hB1  
  go_wp2_with fail
  go_ret2
  exact ⟨rfl, HB1.out⟩
set_option maxRecDepth 100000 in
set_option maxHeartbeats 2000000 in
theorem rends_wall (a b c bo fr tr ag : Int) (X : Option Addr) (cp : Nat) (ks : List Cls) (hl : ks.length ≤ 9223372036854775807) (job x1 x2 x3 x4 x5 x6 : Int) (t1 t2 t3 : Bool) (ph tt si : Int) (wall : Int) (h : CfgOk a b c bo fr tr ag ks) (hp : PartOk job ph tt si tr) (hW : inB wall 1 1048576 = false) (w : World) (hk : ClsAt w w.heap.size X ks) :
    Calls Try.prog 15 #[.agg #[.int .i64 a, .int .i64 b, .int .i64 c, .int .i64 bo, .int .i64 fr, .int .i64 tr, .int .i64 ag, .slice X ks.length cp], .agg #[.int .i64 job, .int .i64 x1, .int .i64 x2, .int .i64 x3, .int .i64 x4, .int .i64 x5, .int .i64 x6, .bool t1, .bool t2, .bool t3, .int .u8 ph, .int .i64 tt, .int .i64 si], .int .i64 wall] w (fun e w' => e = .returned (.tuple #[.int .i64 0, .int .i64 2]) ∧ Below w.heap.size w w') := by
  have HH := Lib.hid h
  have HKK := Lib.hid hk
  clear h hk
  have HP := Lib.hid hp
  clear hp
  have HW := Lib.hid hW
  clear hW
  go_enter Try.func15, Try.ntmps15
  go_wp2_with fail
  refine (asked_wall a b c bo fr tr ag X cp ks hl job x1 x2 x3 x4 x5 x6 t1 t2 t3 ph tt si wall HH.out HP.out HW.out _ (HKK.out.up (below_alloc (below_alloc (Below.refl _ _))))).mono ?_
  rintro e w1 ⟨rfl, hB1⟩
  have HB1 : Hid (Below w.heap.size w w1) := below_up (below_alloc (below_alloc (Below.refl _ _))) hB1
  have c1_0 : w1.cell? ⟨w.heap.size, 0, none⟩ = some (.int .i64 a) := keep_cell (cell_over _ (box0 w 26 #[.int .i64 a, .int .i64 b, .int .i64 c, .int .i64 bo, .int .i64 fr, .int .i64 tr, .int .i64 ag, .slice X ks.length cp] 0)) hB1
  have c1_1 : w1.cell? ⟨w.heap.size, 1, none⟩ = some (.int .i64 b) := keep_cell (cell_over _ (box0 w 26 #[.int .i64 a, .int .i64 b, .int .i64 c, .int .i64 bo, .int .i64 fr, .int .i64 tr, .int .i64 ag, .slice X ks.length cp] 1)) hB1
  have c1_2 : w1.cell? ⟨w.heap.size, 2, none⟩ = some (.int .i64 c) := keep_cell (cell_over _ (box0 w 26 #[.int .i64 a, .int .i64 b, .int .i64 c, .int .i64 bo, .int .i64 fr, .int .i64 tr, .int .i64 ag, .slice X ks.length cp] 2)) hB1
  have c1_3 : w1.cell? ⟨w.heap.size, 3, none⟩ = some (.int .i64 bo) := keep_cell (cell_over _ (box0 w 26 #[.int .i64 a, .int .i64 b, .int .i64 c, .int .i64 bo, .int .i64 fr, .int .i64 tr, .int .i64 ag, .slice X ks.length cp] 3)) hB1
  have c1_4 : w1.cell? ⟨w.heap.size, 4, none⟩ = some (.int .i64 fr) := keep_cell (cell_over _ (box0 w 26 #[.int .i64 a, .int .i64 b, .int .i64 c, .int .i64 bo, .int .i64 fr, .int .i64 tr, .int .i64 ag, .slice X ks.length cp] 4)) hB1
  have c1_5 : w1.cell? ⟨w.heap.size, 5, none⟩ = some (.int .i64 tr) := keep_cell (cell_over _ (box0 w 26 #[.int .i64 a, .int .i64 b, .int .i64 c, .int .i64 bo, .int .i64 fr, .int .i64 tr, .int .i64 ag, .slice X ks.length cp] 5)) hB1
  have c1_6 : w1.cell? ⟨w.heap.size, 6, none⟩ = some (.int .i64 ag) := keep_cell (cell_over _ (box0 w 26 #[.int .i64 a, .int .i64 b, .int .i64 c, .int .i64 bo, .int .i64 fr, .int .i64 tr, .int .i64 ag, .slice X ks.length cp] 6)) hB1
  have c1_7 : w1.cell? ⟨w.heap.size, 7, none⟩ = some (.slice X ks.length cp) := keep_cell (cell_over _ (box0 w 26 #[.int .i64 a, .int .i64 b, .int .i64 c, .int .i64 bo, .int .i64 fr, .int .i64 tr, .int .i64 ag, .slice X ks.length cp] 7)) hB1
  have c1_8 : w1.cell? ⟨w.heap.size + 1, 0, none⟩ = some (.int .i64 job) := keep_cell (box1 w 37 #[.int .i64 job, .int .i64 x1, .int .i64 x2, .int .i64 x3, .int .i64 x4, .int .i64 x5, .int .i64 x6, .bool t1, .bool t2, .bool t3, .int .u8 ph, .int .i64 tt, .int .i64 si] 0) hB1
  have c1_9 : w1.cell? ⟨w.heap.size + 1, 1, none⟩ = some (.int .i64 x1) := keep_cell (box1 w 37 #[.int .i64 job, .int .i64 x1, .int .i64 x2, .int .i64 x3, .int .i64 x4, .int .i64 x5, .int .i64 x6, .bool t1, .bool t2, .bool t3, .int .u8 ph, .int .i64 tt, .int .i64 si] 1) hB1
  have c1_10 : w1.cell? ⟨w.heap.size + 1, 2, none⟩ = some (.int .i64 x2) := keep_cell (box1 w 37 #[.int .i64 job, .int .i64 x1, .int .i64 x2, .int .i64 x3, .int .i64 x4, .int .i64 x5, .int .i64 x6, .bool t1, .bool t2, .bool t3, .int .u8 ph, .int .i64 tt, .int .i64 si] 2) hB1
  have c1_11 : w1.cell? ⟨w.heap.size + 1, 3, none⟩ = some (.int .i64 x3) := keep_cell (box1 w 37 #[.int .i64 job, .int .i64 x1, .int .i64 x2, .int .i64 x3, .int .i64 x4, .int .i64 x5, .int .i64 x6, .bool t1, .bool t2, .bool t3, .int .u8 ph, .int .i64 tt, .int .i64 si] 3) hB1
  have c1_12 : w1.cell? ⟨w.heap.size + 1, 4, none⟩ = some (.int .i64 x4) := keep_cell (box1 w 37 #[.int .i64 job, .int .i64 x1, .int .i64 x2, .int .i64 x3, .int .i64 x4, .int .i64 x5, .int .i64 x6, .bool t1, .bool t2, .bool t3, .int .u8 ph, .int .i64 tt, .int .i64 si] 4) hB1
  have c1_13 : w1.cell? ⟨w.heap.size + 1, 5, none⟩ = some (.int .i64 x5) := keep_cell (box1 w 37 #[.int .i64 job, .int .i64 x1, .int .i64 x2, .int .i64 x3, .int .i64 x4, .int .i64 x5, .int .i64 x6, .bool t1, .bool t2, .bool t3, .int .u8 ph, .int .i64 tt, .int .i64 si] 5) hB1
  have c1_14 : w1.cell? ⟨w.heap.size + 1, 6, none⟩ = some (.int .i64 x6) := keep_cell (box1 w 37 #[.int .i64 job, .int .i64 x1, .int .i64 x2, .int .i64 x3, .int .i64 x4, .int .i64 x5, .int .i64 x6, .bool t1, .bool t2, .bool t3, .int .u8 ph, .int .i64 tt, .int .i64 si] 6) hB1
  have c1_15 : w1.cell? ⟨w.heap.size + 1, 7, none⟩ = some (.bool t1) := keep_cell (box1 w 37 #[.int .i64 job, .int .i64 x1, .int .i64 x2, .int .i64 x3, .int .i64 x4, .int .i64 x5, .int .i64 x6, .bool t1, .bool t2, .bool t3, .int .u8 ph, .int .i64 tt, .int .i64 si] 7) hB1
  have c1_16 : w1.cell? ⟨w.heap.size + 1, 8, none⟩ = some (.bool t2) := keep_cell (box1 w 37 #[.int .i64 job, .int .i64 x1, .int .i64 x2, .int .i64 x3, .int .i64 x4, .int .i64 x5, .int .i64 x6, .bool t1, .bool t2, .bool t3, .int .u8 ph, .int .i64 tt, .int .i64 si] 8) hB1
  have c1_17 : w1.cell? ⟨w.heap.size + 1, 9, none⟩ = some (.bool t3) := keep_cell (box1 w 37 #[.int .i64 job, .int .i64 x1, .int .i64 x2, .int .i64 x3, .int .i64 x4, .int .i64 x5, .int .i64 x6, .bool t1, .bool t2, .bool t3, .int .u8 ph, .int .i64 tt, .int .i64 si] 9) hB1
  have c1_18 : w1.cell? ⟨w.heap.size + 1, 10, none⟩ = some (.int .u8 ph) := keep_cell (box1 w 37 #[.int .i64 job, .int .i64 x1, .int .i64 x2, .int .i64 x3, .int .i64 x4, .int .i64 x5, .int .i64 x6, .bool t1, .bool t2, .bool t3, .int .u8 ph, .int .i64 tt, .int .i64 si] 10) hB1
  have c1_19 : w1.cell? ⟨w.heap.size + 1, 11, none⟩ = some (.int .i64 tt) := keep_cell (box1 w 37 #[.int .i64 job, .int .i64 x1, .int .i64 x2, .int .i64 x3, .int .i64 x4, .int .i64 x5, .int .i64 x6, .bool t1, .bool t2, .bool t3, .int .u8 ph, .int .i64 tt, .int .i64 si] 11) hB1
  have c1_20 : w1.cell? ⟨w.heap.size + 1, 12, none⟩ = some (.int .i64 si) := keep_cell (box1 w 37 #[.int .i64 job, .int .i64 x1, .int .i64 x2, .int .i64 x3, .int .i64 x4, .int .i64 x5, .int .i64 x6, .bool t1, .bool t2, .bool t3, .int .u8 ph, .int .i64 tt, .int .i64 si] 12) hB1
  have z1_0 : w.heap.size < w1.heap.size := cell_lt c1_0
  have z1_1 : w.heap.size + 1 < w1.heap.size := cell_lt c1_8
  clear hB1  
  go_wp2_with fail
  go_ret2
  exact ⟨rfl, HB1.out⟩
set_option maxRecDepth 100000 in
set_option maxHeartbeats 2000000 in
theorem rends1 (a b c bo fr tr ag : Int) (X : Option Addr) (cp : Nat) (ks : List Cls) (hl : ks.length ≤ 9223372036854775807) (job x1 x2 x3 x4 x5 x6 : Int) (t1 t2 t3 : Bool) (tt si : Int) (wall : Int) (h : CfgOk a b c bo fr tr ag ks) (hp : PartOk job 1 tt si tr) (hW : inB wall 1 1048576 = true) (w : World) (hk : ClsAt w w.heap.size X ks) :
    Calls Try.prog 15 #[.agg #[.int .i64 a, .int .i64 b, .int .i64 c, .int .i64 bo, .int .i64 fr, .int .i64 tr, .int .i64 ag, .slice X ks.length cp], .agg #[.int .i64 job, .int .i64 x1, .int .i64 x2, .int .i64 x3, .int .i64 x4, .int .i64 x5, .int .i64 x6, .bool t1, .bool t2, .bool t3, .int .u8 1, .int .i64 tt, .int .i64 si], .int .i64 wall] w (fun e w' => e = .returned (.tuple #[.int .i64 (capM (si + leftR 1 bo wall fr)), .int .i64 0]) ∧ Below w.heap.size w w') := by
  have hv : si + leftR 1 bo wall fr = si + (bo + wall + fr) := by simp [leftR]
  rw [hv]
  obtain ⟨⟨b1, b2⟩, ⟨f1, f2⟩, ⟨w1_, w2_⟩, ⟨s1, s2⟩⟩ := facts h hp hW
  have HF := Lib.hid (And.intro (And.intro b1 b2) (And.intro (And.intro f1 f2) (And.intro w1_ w2_)))
  have HS := Lib.hid (And.intro s1 s2)
  have HH := Lib.hid h
  have HKK := Lib.hid hk
  have HP := Lib.hid hp
  have HW := Lib.hid hW
  clear h hk hp hW hv
  by_cases hv : si + (bo + wall + fr) ≤ 1099511627776
  · have HV := Lib.hid hv
    go_enter Try.func15, Try.ntmps15
    go_wp2_with fail
    refine (asked_ok a b c bo fr tr ag X cp ks hl job x1 x2 x3 x4 x5 x6 t1 t2 t3 1 tt si wall HH.out HP.out HW.out _ (HKK.out.up (below_alloc (below_alloc (Below.refl _ _))))).mono ?_
    rintro e w1 ⟨rfl, hB1⟩
    have HB1 : Hid (Below w.heap.size w w1) := below_up (below_alloc (below_alloc (Below.refl _ _))) hB1
    have c1_0 : w1.cell? ⟨w.heap.size, 0, none⟩ = some (.int .i64 a) := keep_cell (cell_over _ (box0 w 26 #[.int .i64 a, .int .i64 b, .int .i64 c, .int .i64 bo, .int .i64 fr, .int .i64 tr, .int .i64 ag, .slice X ks.length cp] 0)) hB1
    have c1_1 : w1.cell? ⟨w.heap.size, 1, none⟩ = some (.int .i64 b) := keep_cell (cell_over _ (box0 w 26 #[.int .i64 a, .int .i64 b, .int .i64 c, .int .i64 bo, .int .i64 fr, .int .i64 tr, .int .i64 ag, .slice X ks.length cp] 1)) hB1
    have c1_2 : w1.cell? ⟨w.heap.size, 2, none⟩ = some (.int .i64 c) := keep_cell (cell_over _ (box0 w 26 #[.int .i64 a, .int .i64 b, .int .i64 c, .int .i64 bo, .int .i64 fr, .int .i64 tr, .int .i64 ag, .slice X ks.length cp] 2)) hB1
    have c1_3 : w1.cell? ⟨w.heap.size, 3, none⟩ = some (.int .i64 bo) := keep_cell (cell_over _ (box0 w 26 #[.int .i64 a, .int .i64 b, .int .i64 c, .int .i64 bo, .int .i64 fr, .int .i64 tr, .int .i64 ag, .slice X ks.length cp] 3)) hB1
    have c1_4 : w1.cell? ⟨w.heap.size, 4, none⟩ = some (.int .i64 fr) := keep_cell (cell_over _ (box0 w 26 #[.int .i64 a, .int .i64 b, .int .i64 c, .int .i64 bo, .int .i64 fr, .int .i64 tr, .int .i64 ag, .slice X ks.length cp] 4)) hB1
    have c1_5 : w1.cell? ⟨w.heap.size, 5, none⟩ = some (.int .i64 tr) := keep_cell (cell_over _ (box0 w 26 #[.int .i64 a, .int .i64 b, .int .i64 c, .int .i64 bo, .int .i64 fr, .int .i64 tr, .int .i64 ag, .slice X ks.length cp] 5)) hB1
    have c1_6 : w1.cell? ⟨w.heap.size, 6, none⟩ = some (.int .i64 ag) := keep_cell (cell_over _ (box0 w 26 #[.int .i64 a, .int .i64 b, .int .i64 c, .int .i64 bo, .int .i64 fr, .int .i64 tr, .int .i64 ag, .slice X ks.length cp] 6)) hB1
    have c1_7 : w1.cell? ⟨w.heap.size, 7, none⟩ = some (.slice X ks.length cp) := keep_cell (cell_over _ (box0 w 26 #[.int .i64 a, .int .i64 b, .int .i64 c, .int .i64 bo, .int .i64 fr, .int .i64 tr, .int .i64 ag, .slice X ks.length cp] 7)) hB1
    have c1_8 : w1.cell? ⟨w.heap.size + 1, 0, none⟩ = some (.int .i64 job) := keep_cell (box1 w 37 #[.int .i64 job, .int .i64 x1, .int .i64 x2, .int .i64 x3, .int .i64 x4, .int .i64 x5, .int .i64 x6, .bool t1, .bool t2, .bool t3, .int .u8 1, .int .i64 tt, .int .i64 si] 0) hB1
    have c1_9 : w1.cell? ⟨w.heap.size + 1, 1, none⟩ = some (.int .i64 x1) := keep_cell (box1 w 37 #[.int .i64 job, .int .i64 x1, .int .i64 x2, .int .i64 x3, .int .i64 x4, .int .i64 x5, .int .i64 x6, .bool t1, .bool t2, .bool t3, .int .u8 1, .int .i64 tt, .int .i64 si] 1) hB1
    have c1_10 : w1.cell? ⟨w.heap.size + 1, 2, none⟩ = some (.int .i64 x2) := keep_cell (box1 w 37 #[.int .i64 job, .int .i64 x1, .int .i64 x2, .int .i64 x3, .int .i64 x4, .int .i64 x5, .int .i64 x6, .bool t1, .bool t2, .bool t3, .int .u8 1, .int .i64 tt, .int .i64 si] 2) hB1
    have c1_11 : w1.cell? ⟨w.heap.size + 1, 3, none⟩ = some (.int .i64 x3) := keep_cell (box1 w 37 #[.int .i64 job, .int .i64 x1, .int .i64 x2, .int .i64 x3, .int .i64 x4, .int .i64 x5, .int .i64 x6, .bool t1, .bool t2, .bool t3, .int .u8 1, .int .i64 tt, .int .i64 si] 3) hB1
    have c1_12 : w1.cell? ⟨w.heap.size + 1, 4, none⟩ = some (.int .i64 x4) := keep_cell (box1 w 37 #[.int .i64 job, .int .i64 x1, .int .i64 x2, .int .i64 x3, .int .i64 x4, .int .i64 x5, .int .i64 x6, .bool t1, .bool t2, .bool t3, .int .u8 1, .int .i64 tt, .int .i64 si] 4) hB1
    have c1_13 : w1.cell? ⟨w.heap.size + 1, 5, none⟩ = some (.int .i64 x5) := keep_cell (box1 w 37 #[.int .i64 job, .int .i64 x1, .int .i64 x2, .int .i64 x3, .int .i64 x4, .int .i64 x5, .int .i64 x6, .bool t1, .bool t2, .bool t3, .int .u8 1, .int .i64 tt, .int .i64 si] 5) hB1
    have c1_14 : w1.cell? ⟨w.heap.size + 1, 6, none⟩ = some (.int .i64 x6) := keep_cell (box1 w 37 #[.int .i64 job, .int .i64 x1, .int .i64 x2, .int .i64 x3, .int .i64 x4, .int .i64 x5, .int .i64 x6, .bool t1, .bool t2, .bool t3, .int .u8 1, .int .i64 tt, .int .i64 si] 6) hB1
    have c1_15 : w1.cell? ⟨w.heap.size + 1, 7, none⟩ = some (.bool t1) := keep_cell (box1 w 37 #[.int .i64 job, .int .i64 x1, .int .i64 x2, .int .i64 x3, .int .i64 x4, .int .i64 x5, .int .i64 x6, .bool t1, .bool t2, .bool t3, .int .u8 1, .int .i64 tt, .int .i64 si] 7) hB1
    have c1_16 : w1.cell? ⟨w.heap.size + 1, 8, none⟩ = some (.bool t2) := keep_cell (box1 w 37 #[.int .i64 job, .int .i64 x1, .int .i64 x2, .int .i64 x3, .int .i64 x4, .int .i64 x5, .int .i64 x6, .bool t1, .bool t2, .bool t3, .int .u8 1, .int .i64 tt, .int .i64 si] 8) hB1
    have c1_17 : w1.cell? ⟨w.heap.size + 1, 9, none⟩ = some (.bool t3) := keep_cell (box1 w 37 #[.int .i64 job, .int .i64 x1, .int .i64 x2, .int .i64 x3, .int .i64 x4, .int .i64 x5, .int .i64 x6, .bool t1, .bool t2, .bool t3, .int .u8 1, .int .i64 tt, .int .i64 si] 9) hB1
    have c1_18 : w1.cell? ⟨w.heap.size + 1, 10, none⟩ = some (.int .u8 1) := keep_cell (box1 w 37 #[.int .i64 job, .int .i64 x1, .int .i64 x2, .int .i64 x3, .int .i64 x4, .int .i64 x5, .int .i64 x6, .bool t1, .bool t2, .bool t3, .int .u8 1, .int .i64 tt, .int .i64 si] 10) hB1
    have c1_19 : w1.cell? ⟨w.heap.size + 1, 11, none⟩ = some (.int .i64 tt) := keep_cell (box1 w 37 #[.int .i64 job, .int .i64 x1, .int .i64 x2, .int .i64 x3, .int .i64 x4, .int .i64 x5, .int .i64 x6, .bool t1, .bool t2, .bool t3, .int .u8 1, .int .i64 tt, .int .i64 si] 11) hB1
    have c1_20 : w1.cell? ⟨w.heap.size + 1, 12, none⟩ = some (.int .i64 si) := keep_cell (box1 w 37 #[.int .i64 job, .int .i64 x1, .int .i64 x2, .int .i64 x3, .int .i64 x4, .int .i64 x5, .int .i64 x6, .bool t1, .bool t2, .bool t3, .int .u8 1, .int .i64 tt, .int .i64 si] 12) hB1
    have z1_0 : w.heap.size < w1.heap.size := cell_lt c1_0
    have z1_1 : w.heap.size + 1 < w1.heap.size := cell_lt c1_8
    clear hB1  
    go_wp2_with fail
    have f2_0 : w1.cell? ⟨w.heap.size, 0, none⟩ = some (.int .i64 a) := c1_0
    have k2_0 := cell_regrown f2_0
    have f2_1 : w1.cell? ⟨w.heap.size, 1, none⟩ = some (.int .i64 b) := c1_1
    have k2_1 := cell_regrown f2_1
    have f2_2 : w1.cell? ⟨w.heap.size, 2, none⟩ = some (.int .i64 c) := c1_2
    have k2_2 := cell_regrown f2_2
    have f2_3 : w1.cell? ⟨w.heap.size, 3, none⟩ = some (.int .i64 bo) := c1_3
    have k2_3 := cell_regrown f2_3
    have f2_4 : w1.cell? ⟨w.heap.size, 4, none⟩ = some (.int .i64 fr) := c1_4
    have k2_4 := cell_regrown f2_4
    have f2_5 : w1.cell? ⟨w.heap.size, 5, none⟩ = some (.int .i64 tr) := c1_5
    have k2_5 := cell_regrown f2_5
    have f2_6 : w1.cell? ⟨w.heap.size, 6, none⟩ = some (.int .i64 ag) := c1_6
    have k2_6 := cell_regrown f2_6
    have f2_7 : w1.cell? ⟨w.heap.size, 7, none⟩ = some (.slice X ks.length cp) := c1_7
    have k2_7 := cell_regrown f2_7
    have f2_8 : w1.cell? ⟨w.heap.size + 1, 0, none⟩ = some (.int .i64 job) := c1_8
    have k2_8 := cell_regrown f2_8
    have f2_9 : w1.cell? ⟨w.heap.size + 1, 1, none⟩ = some (.int .i64 x1) := c1_9
    have k2_9 := cell_regrown f2_9
    have f2_10 : w1.cell? ⟨w.heap.size + 1, 2, none⟩ = some (.int .i64 x2) := c1_10
    have k2_10 := cell_regrown f2_10
    have f2_11 : w1.cell? ⟨w.heap.size + 1, 3, none⟩ = some (.int .i64 x3) := c1_11
    have k2_11 := cell_regrown f2_11
    have f2_12 : w1.cell? ⟨w.heap.size + 1, 4, none⟩ = some (.int .i64 x4) := c1_12
    have k2_12 := cell_regrown f2_12
    have f2_13 : w1.cell? ⟨w.heap.size + 1, 5, none⟩ = some (.int .i64 x5) := c1_13
    have k2_13 := cell_regrown f2_13
    have f2_14 : w1.cell? ⟨w.heap.size + 1, 6, none⟩ = some (.int .i64 x6) := c1_14
    have k2_14 := cell_regrown f2_14
    have f2_15 : w1.cell? ⟨w.heap.size + 1, 7, none⟩ = some (.bool t1) := c1_15
    have k2_15 := cell_regrown f2_15
    have f2_16 : w1.cell? ⟨w.heap.size + 1, 8, none⟩ = some (.bool t2) := c1_16
    have k2_16 := cell_regrown f2_16
    have f2_17 : w1.cell? ⟨w.heap.size + 1, 9, none⟩ = some (.bool t3) := c1_17
    have k2_17 := cell_regrown f2_17
    have f2_18 : w1.cell? ⟨w.heap.size + 1, 10, none⟩ = some (.int .u8 1) := c1_18
    have k2_18 := cell_regrown f2_18
    have f2_19 : w1.cell? ⟨w.heap.size + 1, 11, none⟩ = some (.int .i64 tt) := c1_19
    have k2_19 := cell_regrown f2_19
    have f2_20 : w1.cell? ⟨w.heap.size + 1, 12, none⟩ = some (.int .i64 si) := c1_20
    have k2_20 := cell_regrown f2_20
    refine wp_region_quiet_below (by kernel_rfl) (by kernel_rfl) ?_
    repeat (go_big_quiet_step (first | fail | exact Calls.regrown_of (rleft1 a b c bo fr tr ag X cp ks wall HF.out.1.1 HF.out.1.2 HF.out.2.1.1 HF.out.2.1.2 HF.out.2.2.1 HF.out.2.2.2 _)))
    refine wpQuiet_nil ?_
    intro _ hw'
    obtain ⟨⟨dq, osq⟩, hw''⟩ := hw'
    subst hw''
    have hB2 := below_regrown w1 dq osq
    have HB2 : Hid (Below w.heap.size w _) := below_up HB1.out hB2
    have c2_0 := keep_cell f2_0 hB2
    have c2_1 := keep_cell f2_1 hB2
    have c2_2 := keep_cell f2_2 hB2
    have c2_3 := keep_cell f2_3 hB2
    have c2_4 := keep_cell f2_4 hB2
    have c2_5 := keep_cell f2_5 hB2
    have c2_6 := keep_cell f2_6 hB2
    have c2_7 := keep_cell f2_7 hB2
    have c2_8 := keep_cell f2_8 hB2
    have c2_9 := keep_cell f2_9 hB2
    have c2_10 := keep_cell f2_10 hB2
    have c2_11 := keep_cell f2_11 hB2
    have c2_12 := keep_cell f2_12 hB2
    have c2_13 := keep_cell f2_13 hB2
    have c2_14 := keep_cell f2_14 hB2
    have c2_15 := keep_cell f2_15 hB2
    have c2_16 := keep_cell f2_16 hB2
    have c2_17 := keep_cell f2_17 hB2
    have c2_18 := keep_cell f2_18 hB2
    have c2_19 := keep_cell f2_19 hB2
    have c2_20 := keep_cell f2_20 hB2
    generalize hgw2 : grow (redrawn w1 dq) osq = w2 at *
    have z2_0 : w.heap.size < w2.heap.size := cell_lt c2_0
    have z2_1 : w.heap.size + 1 < w2.heap.size := cell_lt c2_8
    clear hgw2 hB2 c1_0 c1_1 c1_2 c1_3 c1_4 c1_5 c1_6 c1_7 c1_8 c1_9 c1_10 c1_11 c1_12 c1_13 c1_14 c1_15 c1_16 c1_17 c1_18 c1_19 c1_20 z1_0 z1_1 f2_0 k2_0 f2_1 k2_1 f2_2 k2_2 f2_3 k2_3 f2_4 k2_4 f2_5 k2_5 f2_6 k2_6 f2_7 k2_7 f2_8 k2_8 f2_9 k2_9 f2_10 k2_10 f2_11 k2_11 f2_12 k2_12 f2_13 k2_13 f2_14 k2_14 f2_15 k2_15 f2_16 k2_16 f2_17 k2_17 f2_18 k2_18 f2_19 k2_19 f2_20 k2_20
    go_wp2_with fail
    go_ret2
    exact ⟨ret_pair (by rw [capM_lo (v := si + (bo + wall + fr)) (by have := HV.out; omega)]), HB2.out⟩
  · have HV := Lib.hid hv
    go_enter Try.func15, Try.ntmps15
    go_wp2_with fail
    refine (asked_ok a b c bo fr tr ag X cp ks hl job x1 x2 x3 x4 x5 x6 t1 t2 t3 1 tt si wall HH.out HP.out HW.out _ (HKK.out.up (below_alloc (below_alloc (Below.refl _ _))))).mono ?_
    rintro e w1 ⟨rfl, hB1⟩
    have HB1 : Hid (Below w.heap.size w w1) := below_up (below_alloc (below_alloc (Below.refl _ _))) hB1
    have c1_0 : w1.cell? ⟨w.heap.size, 0, none⟩ = some (.int .i64 a) := keep_cell (cell_over _ (box0 w 26 #[.int .i64 a, .int .i64 b, .int .i64 c, .int .i64 bo, .int .i64 fr, .int .i64 tr, .int .i64 ag, .slice X ks.length cp] 0)) hB1
    have c1_1 : w1.cell? ⟨w.heap.size, 1, none⟩ = some (.int .i64 b) := keep_cell (cell_over _ (box0 w 26 #[.int .i64 a, .int .i64 b, .int .i64 c, .int .i64 bo, .int .i64 fr, .int .i64 tr, .int .i64 ag, .slice X ks.length cp] 1)) hB1
    have c1_2 : w1.cell? ⟨w.heap.size, 2, none⟩ = some (.int .i64 c) := keep_cell (cell_over _ (box0 w 26 #[.int .i64 a, .int .i64 b, .int .i64 c, .int .i64 bo, .int .i64 fr, .int .i64 tr, .int .i64 ag, .slice X ks.length cp] 2)) hB1
    have c1_3 : w1.cell? ⟨w.heap.size, 3, none⟩ = some (.int .i64 bo) := keep_cell (cell_over _ (box0 w 26 #[.int .i64 a, .int .i64 b, .int .i64 c, .int .i64 bo, .int .i64 fr, .int .i64 tr, .int .i64 ag, .slice X ks.length cp] 3)) hB1
    have c1_4 : w1.cell? ⟨w.heap.size, 4, none⟩ = some (.int .i64 fr) := keep_cell (cell_over _ (box0 w 26 #[.int .i64 a, .int .i64 b, .int .i64 c, .int .i64 bo, .int .i64 fr, .int .i64 tr, .int .i64 ag, .slice X ks.length cp] 4)) hB1
    have c1_5 : w1.cell? ⟨w.heap.size, 5, none⟩ = some (.int .i64 tr) := keep_cell (cell_over _ (box0 w 26 #[.int .i64 a, .int .i64 b, .int .i64 c, .int .i64 bo, .int .i64 fr, .int .i64 tr, .int .i64 ag, .slice X ks.length cp] 5)) hB1
    have c1_6 : w1.cell? ⟨w.heap.size, 6, none⟩ = some (.int .i64 ag) := keep_cell (cell_over _ (box0 w 26 #[.int .i64 a, .int .i64 b, .int .i64 c, .int .i64 bo, .int .i64 fr, .int .i64 tr, .int .i64 ag, .slice X ks.length cp] 6)) hB1
    have c1_7 : w1.cell? ⟨w.heap.size, 7, none⟩ = some (.slice X ks.length cp) := keep_cell (cell_over _ (box0 w 26 #[.int .i64 a, .int .i64 b, .int .i64 c, .int .i64 bo, .int .i64 fr, .int .i64 tr, .int .i64 ag, .slice X ks.length cp] 7)) hB1
    have c1_8 : w1.cell? ⟨w.heap.size + 1, 0, none⟩ = some (.int .i64 job) := keep_cell (box1 w 37 #[.int .i64 job, .int .i64 x1, .int .i64 x2, .int .i64 x3, .int .i64 x4, .int .i64 x5, .int .i64 x6, .bool t1, .bool t2, .bool t3, .int .u8 1, .int .i64 tt, .int .i64 si] 0) hB1
    have c1_9 : w1.cell? ⟨w.heap.size + 1, 1, none⟩ = some (.int .i64 x1) := keep_cell (box1 w 37 #[.int .i64 job, .int .i64 x1, .int .i64 x2, .int .i64 x3, .int .i64 x4, .int .i64 x5, .int .i64 x6, .bool t1, .bool t2, .bool t3, .int .u8 1, .int .i64 tt, .int .i64 si] 1) hB1
    have c1_10 : w1.cell? ⟨w.heap.size + 1, 2, none⟩ = some (.int .i64 x2) := keep_cell (box1 w 37 #[.int .i64 job, .int .i64 x1, .int .i64 x2, .int .i64 x3, .int .i64 x4, .int .i64 x5, .int .i64 x6, .bool t1, .bool t2, .bool t3, .int .u8 1, .int .i64 tt, .int .i64 si] 2) hB1
    have c1_11 : w1.cell? ⟨w.heap.size + 1, 3, none⟩ = some (.int .i64 x3) := keep_cell (box1 w 37 #[.int .i64 job, .int .i64 x1, .int .i64 x2, .int .i64 x3, .int .i64 x4, .int .i64 x5, .int .i64 x6, .bool t1, .bool t2, .bool t3, .int .u8 1, .int .i64 tt, .int .i64 si] 3) hB1
    have c1_12 : w1.cell? ⟨w.heap.size + 1, 4, none⟩ = some (.int .i64 x4) := keep_cell (box1 w 37 #[.int .i64 job, .int .i64 x1, .int .i64 x2, .int .i64 x3, .int .i64 x4, .int .i64 x5, .int .i64 x6, .bool t1, .bool t2, .bool t3, .int .u8 1, .int .i64 tt, .int .i64 si] 4) hB1
    have c1_13 : w1.cell? ⟨w.heap.size + 1, 5, none⟩ = some (.int .i64 x5) := keep_cell (box1 w 37 #[.int .i64 job, .int .i64 x1, .int .i64 x2, .int .i64 x3, .int .i64 x4, .int .i64 x5, .int .i64 x6, .bool t1, .bool t2, .bool t3, .int .u8 1, .int .i64 tt, .int .i64 si] 5) hB1
    have c1_14 : w1.cell? ⟨w.heap.size + 1, 6, none⟩ = some (.int .i64 x6) := keep_cell (box1 w 37 #[.int .i64 job, .int .i64 x1, .int .i64 x2, .int .i64 x3, .int .i64 x4, .int .i64 x5, .int .i64 x6, .bool t1, .bool t2, .bool t3, .int .u8 1, .int .i64 tt, .int .i64 si] 6) hB1
    have c1_15 : w1.cell? ⟨w.heap.size + 1, 7, none⟩ = some (.bool t1) := keep_cell (box1 w 37 #[.int .i64 job, .int .i64 x1, .int .i64 x2, .int .i64 x3, .int .i64 x4, .int .i64 x5, .int .i64 x6, .bool t1, .bool t2, .bool t3, .int .u8 1, .int .i64 tt, .int .i64 si] 7) hB1
    have c1_16 : w1.cell? ⟨w.heap.size + 1, 8, none⟩ = some (.bool t2) := keep_cell (box1 w 37 #[.int .i64 job, .int .i64 x1, .int .i64 x2, .int .i64 x3, .int .i64 x4, .int .i64 x5, .int .i64 x6, .bool t1, .bool t2, .bool t3, .int .u8 1, .int .i64 tt, .int .i64 si] 8) hB1
    have c1_17 : w1.cell? ⟨w.heap.size + 1, 9, none⟩ = some (.bool t3) := keep_cell (box1 w 37 #[.int .i64 job, .int .i64 x1, .int .i64 x2, .int .i64 x3, .int .i64 x4, .int .i64 x5, .int .i64 x6, .bool t1, .bool t2, .bool t3, .int .u8 1, .int .i64 tt, .int .i64 si] 9) hB1
    have c1_18 : w1.cell? ⟨w.heap.size + 1, 10, none⟩ = some (.int .u8 1) := keep_cell (box1 w 37 #[.int .i64 job, .int .i64 x1, .int .i64 x2, .int .i64 x3, .int .i64 x4, .int .i64 x5, .int .i64 x6, .bool t1, .bool t2, .bool t3, .int .u8 1, .int .i64 tt, .int .i64 si] 10) hB1
    have c1_19 : w1.cell? ⟨w.heap.size + 1, 11, none⟩ = some (.int .i64 tt) := keep_cell (box1 w 37 #[.int .i64 job, .int .i64 x1, .int .i64 x2, .int .i64 x3, .int .i64 x4, .int .i64 x5, .int .i64 x6, .bool t1, .bool t2, .bool t3, .int .u8 1, .int .i64 tt, .int .i64 si] 11) hB1
    have c1_20 : w1.cell? ⟨w.heap.size + 1, 12, none⟩ = some (.int .i64 si) := keep_cell (box1 w 37 #[.int .i64 job, .int .i64 x1, .int .i64 x2, .int .i64 x3, .int .i64 x4, .int .i64 x5, .int .i64 x6, .bool t1, .bool t2, .bool t3, .int .u8 1, .int .i64 tt, .int .i64 si] 12) hB1
    have z1_0 : w.heap.size < w1.heap.size := cell_lt c1_0
    have z1_1 : w.heap.size + 1 < w1.heap.size := cell_lt c1_8
    clear hB1  
    go_wp2_with fail
    have f2_0 : w1.cell? ⟨w.heap.size, 0, none⟩ = some (.int .i64 a) := c1_0
    have k2_0 := cell_regrown f2_0
    have f2_1 : w1.cell? ⟨w.heap.size, 1, none⟩ = some (.int .i64 b) := c1_1
    have k2_1 := cell_regrown f2_1
    have f2_2 : w1.cell? ⟨w.heap.size, 2, none⟩ = some (.int .i64 c) := c1_2
    have k2_2 := cell_regrown f2_2
    have f2_3 : w1.cell? ⟨w.heap.size, 3, none⟩ = some (.int .i64 bo) := c1_3
    have k2_3 := cell_regrown f2_3
    have f2_4 : w1.cell? ⟨w.heap.size, 4, none⟩ = some (.int .i64 fr) := c1_4
    have k2_4 := cell_regrown f2_4
    have f2_5 : w1.cell? ⟨w.heap.size, 5, none⟩ = some (.int .i64 tr) := c1_5
    have k2_5 := cell_regrown f2_5
    have f2_6 : w1.cell? ⟨w.heap.size, 6, none⟩ = some (.int .i64 ag) := c1_6
    have k2_6 := cell_regrown f2_6
    have f2_7 : w1.cell? ⟨w.heap.size, 7, none⟩ = some (.slice X ks.length cp) := c1_7
    have k2_7 := cell_regrown f2_7
    have f2_8 : w1.cell? ⟨w.heap.size + 1, 0, none⟩ = some (.int .i64 job) := c1_8
    have k2_8 := cell_regrown f2_8
    have f2_9 : w1.cell? ⟨w.heap.size + 1, 1, none⟩ = some (.int .i64 x1) := c1_9
    have k2_9 := cell_regrown f2_9
    have f2_10 : w1.cell? ⟨w.heap.size + 1, 2, none⟩ = some (.int .i64 x2) := c1_10
    have k2_10 := cell_regrown f2_10
    have f2_11 : w1.cell? ⟨w.heap.size + 1, 3, none⟩ = some (.int .i64 x3) := c1_11
    have k2_11 := cell_regrown f2_11
    have f2_12 : w1.cell? ⟨w.heap.size + 1, 4, none⟩ = some (.int .i64 x4) := c1_12
    have k2_12 := cell_regrown f2_12
    have f2_13 : w1.cell? ⟨w.heap.size + 1, 5, none⟩ = some (.int .i64 x5) := c1_13
    have k2_13 := cell_regrown f2_13
    have f2_14 : w1.cell? ⟨w.heap.size + 1, 6, none⟩ = some (.int .i64 x6) := c1_14
    have k2_14 := cell_regrown f2_14
    have f2_15 : w1.cell? ⟨w.heap.size + 1, 7, none⟩ = some (.bool t1) := c1_15
    have k2_15 := cell_regrown f2_15
    have f2_16 : w1.cell? ⟨w.heap.size + 1, 8, none⟩ = some (.bool t2) := c1_16
    have k2_16 := cell_regrown f2_16
    have f2_17 : w1.cell? ⟨w.heap.size + 1, 9, none⟩ = some (.bool t3) := c1_17
    have k2_17 := cell_regrown f2_17
    have f2_18 : w1.cell? ⟨w.heap.size + 1, 10, none⟩ = some (.int .u8 1) := c1_18
    have k2_18 := cell_regrown f2_18
    have f2_19 : w1.cell? ⟨w.heap.size + 1, 11, none⟩ = some (.int .i64 tt) := c1_19
    have k2_19 := cell_regrown f2_19
    have f2_20 : w1.cell? ⟨w.heap.size + 1, 12, none⟩ = some (.int .i64 si) := c1_20
    have k2_20 := cell_regrown f2_20
    refine wp_region_quiet_below (by kernel_rfl) (by kernel_rfl) ?_
    repeat (go_big_quiet_step (first | fail | exact Calls.regrown_of (rleft1 a b c bo fr tr ag X cp ks wall HF.out.1.1 HF.out.1.2 HF.out.2.1.1 HF.out.2.1.2 HF.out.2.2.1 HF.out.2.2.2 _)))
    refine wpQuiet_nil ?_
    intro _ hw'
    obtain ⟨⟨dq, osq⟩, hw''⟩ := hw'
    subst hw''
    have hB2 := below_regrown w1 dq osq
    have HB2 : Hid (Below w.heap.size w _) := below_up HB1.out hB2
    have c2_0 := keep_cell f2_0 hB2
    have c2_1 := keep_cell f2_1 hB2
    have c2_2 := keep_cell f2_2 hB2
    have c2_3 := keep_cell f2_3 hB2
    have c2_4 := keep_cell f2_4 hB2
    have c2_5 := keep_cell f2_5 hB2
    have c2_6 := keep_cell f2_6 hB2
    have c2_7 := keep_cell f2_7 hB2
    have c2_8 := keep_cell f2_8 hB2
    have c2_9 := keep_cell f2_9 hB2
    have c2_10 := keep_cell f2_10 hB2
    have c2_11 := keep_cell f2_11 hB2
    have c2_12 := keep_cell f2_12 hB2
    have c2_13 := keep_cell f2_13 hB2
    have c2_14 := keep_cell f2_14 hB2
    have c2_15 := keep_cell f2_15 hB2
    have c2_16 := keep_cell f2_16 hB2
    have c2_17 := keep_cell f2_17 hB2
    have c2_18 := keep_cell f2_18 hB2
    have c2_19 := keep_cell f2_19 hB2
    have c2_20 := keep_cell f2_20 hB2
    generalize hgw2 : grow (redrawn w1 dq) osq = w2 at *
    have z2_0 : w.heap.size < w2.heap.size := cell_lt c2_0
    have z2_1 : w.heap.size + 1 < w2.heap.size := cell_lt c2_8
    clear hgw2 hB2 c1_0 c1_1 c1_2 c1_3 c1_4 c1_5 c1_6 c1_7 c1_8 c1_9 c1_10 c1_11 c1_12 c1_13 c1_14 c1_15 c1_16 c1_17 c1_18 c1_19 c1_20 z1_0 z1_1 f2_0 k2_0 f2_1 k2_1 f2_2 k2_2 f2_3 k2_3 f2_4 k2_4 f2_5 k2_5 f2_6 k2_6 f2_7 k2_7 f2_8 k2_8 f2_9 k2_9 f2_10 k2_10 f2_11 k2_11 f2_12 k2_12 f2_13 k2_13 f2_14 k2_14 f2_15 k2_15 f2_16 k2_16 f2_17 k2_17 f2_18 k2_18 f2_19 k2_19 f2_20 k2_20
    go_wp2_with fail
    go_ret2
    exact ⟨ret_pair (by rw [capM_hi (v := si + (bo + wall + fr)) (by have := HV.out; omega)]), HB2.out⟩
set_option maxRecDepth 100000 in
set_option maxHeartbeats 2000000 in
theorem rends2 (a b c bo fr tr ag : Int) (X : Option Addr) (cp : Nat) (ks : List Cls) (hl : ks.length ≤ 9223372036854775807) (job x1 x2 x3 x4 x5 x6 : Int) (t1 t2 t3 : Bool) (tt si : Int) (wall : Int) (h : CfgOk a b c bo fr tr ag ks) (hp : PartOk job 2 tt si tr) (hW : inB wall 1 1048576 = true) (w : World) (hk : ClsAt w w.heap.size X ks) :
    Calls Try.prog 15 #[.agg #[.int .i64 a, .int .i64 b, .int .i64 c, .int .i64 bo, .int .i64 fr, .int .i64 tr, .int .i64 ag, .slice X ks.length cp], .agg #[.int .i64 job, .int .i64 x1, .int .i64 x2, .int .i64 x3, .int .i64 x4, .int .i64 x5, .int .i64 x6, .bool t1, .bool t2, .bool t3, .int .u8 2, .int .i64 tt, .int .i64 si], .int .i64 wall] w (fun e w' => e = .returned (.tuple #[.int .i64 (capM (si + leftR 2 bo wall fr)), .int .i64 0]) ∧ Below w.heap.size w w') := by
  have hv : si + leftR 2 bo wall fr = si + (wall + fr) := by simp [leftR]
  rw [hv]
  obtain ⟨⟨b1, b2⟩, ⟨f1, f2⟩, ⟨w1_, w2_⟩, ⟨s1, s2⟩⟩ := facts h hp hW
  have HF := Lib.hid (And.intro (And.intro b1 b2) (And.intro (And.intro f1 f2) (And.intro w1_ w2_)))
  have HS := Lib.hid (And.intro s1 s2)
  have HH := Lib.hid h
  have HKK := Lib.hid hk
  have HP := Lib.hid hp
  have HW := Lib.hid hW
  clear h hk hp hW hv
  by_cases hv : si + (wall + fr) ≤ 1099511627776
  · have HV := Lib.hid hv
    go_enter Try.func15, Try.ntmps15
    go_wp2_with fail
    refine (asked_ok a b c bo fr tr ag X cp ks hl job x1 x2 x3 x4 x5 x6 t1 t2 t3 2 tt si wall HH.out HP.out HW.out _ (HKK.out.up (below_alloc (below_alloc (Below.refl _ _))))).mono ?_
    rintro e w1 ⟨rfl, hB1⟩
    have HB1 : Hid (Below w.heap.size w w1) := below_up (below_alloc (below_alloc (Below.refl _ _))) hB1
    have c1_0 : w1.cell? ⟨w.heap.size, 0, none⟩ = some (.int .i64 a) := keep_cell (cell_over _ (box0 w 26 #[.int .i64 a, .int .i64 b, .int .i64 c, .int .i64 bo, .int .i64 fr, .int .i64 tr, .int .i64 ag, .slice X ks.length cp] 0)) hB1
    have c1_1 : w1.cell? ⟨w.heap.size, 1, none⟩ = some (.int .i64 b) := keep_cell (cell_over _ (box0 w 26 #[.int .i64 a, .int .i64 b, .int .i64 c, .int .i64 bo, .int .i64 fr, .int .i64 tr, .int .i64 ag, .slice X ks.length cp] 1)) hB1
    have c1_2 : w1.cell? ⟨w.heap.size, 2, none⟩ = some (.int .i64 c) := keep_cell (cell_over _ (box0 w 26 #[.int .i64 a, .int .i64 b, .int .i64 c, .int .i64 bo, .int .i64 fr, .int .i64 tr, .int .i64 ag, .slice X ks.length cp] 2)) hB1
    have c1_3 : w1.cell? ⟨w.heap.size, 3, none⟩ = some (.int .i64 bo) := keep_cell (cell_over _ (box0 w 26 #[.int .i64 a, .int .i64 b, .int .i64 c, .int .i64 bo, .int .i64 fr, .int .i64 tr, .int .i64 ag, .slice X ks.length cp] 3)) hB1
    have c1_4 : w1.cell? ⟨w.heap.size, 4, none⟩ = some (.int .i64 fr) := keep_cell (cell_over _ (box0 w 26 #[.int .i64 a, .int .i64 b, .int .i64 c, .int .i64 bo, .int .i64 fr, .int .i64 tr, .int .i64 ag, .slice X ks.length cp] 4)) hB1
    have c1_5 : w1.cell? ⟨w.heap.size, 5, none⟩ = some (.int .i64 tr) := keep_cell (cell_over _ (box0 w 26 #[.int .i64 a, .int .i64 b, .int .i64 c, .int .i64 bo, .int .i64 fr, .int .i64 tr, .int .i64 ag, .slice X ks.length cp] 5)) hB1
    have c1_6 : w1.cell? ⟨w.heap.size, 6, none⟩ = some (.int .i64 ag) := keep_cell (cell_over _ (box0 w 26 #[.int .i64 a, .int .i64 b, .int .i64 c, .int .i64 bo, .int .i64 fr, .int .i64 tr, .int .i64 ag, .slice X ks.length cp] 6)) hB1
    have c1_7 : w1.cell? ⟨w.heap.size, 7, none⟩ = some (.slice X ks.length cp) := keep_cell (cell_over _ (box0 w 26 #[.int .i64 a, .int .i64 b, .int .i64 c, .int .i64 bo, .int .i64 fr, .int .i64 tr, .int .i64 ag, .slice X ks.length cp] 7)) hB1
    have c1_8 : w1.cell? ⟨w.heap.size + 1, 0, none⟩ = some (.int .i64 job) := keep_cell (box1 w 37 #[.int .i64 job, .int .i64 x1, .int .i64 x2, .int .i64 x3, .int .i64 x4, .int .i64 x5, .int .i64 x6, .bool t1, .bool t2, .bool t3, .int .u8 2, .int .i64 tt, .int .i64 si] 0) hB1
    have c1_9 : w1.cell? ⟨w.heap.size + 1, 1, none⟩ = some (.int .i64 x1) := keep_cell (box1 w 37 #[.int .i64 job, .int .i64 x1, .int .i64 x2, .int .i64 x3, .int .i64 x4, .int .i64 x5, .int .i64 x6, .bool t1, .bool t2, .bool t3, .int .u8 2, .int .i64 tt, .int .i64 si] 1) hB1
    have c1_10 : w1.cell? ⟨w.heap.size + 1, 2, none⟩ = some (.int .i64 x2) := keep_cell (box1 w 37 #[.int .i64 job, .int .i64 x1, .int .i64 x2, .int .i64 x3, .int .i64 x4, .int .i64 x5, .int .i64 x6, .bool t1, .bool t2, .bool t3, .int .u8 2, .int .i64 tt, .int .i64 si] 2) hB1
    have c1_11 : w1.cell? ⟨w.heap.size + 1, 3, none⟩ = some (.int .i64 x3) := keep_cell (box1 w 37 #[.int .i64 job, .int .i64 x1, .int .i64 x2, .int .i64 x3, .int .i64 x4, .int .i64 x5, .int .i64 x6, .bool t1, .bool t2, .bool t3, .int .u8 2, .int .i64 tt, .int .i64 si] 3) hB1
    have c1_12 : w1.cell? ⟨w.heap.size + 1, 4, none⟩ = some (.int .i64 x4) := keep_cell (box1 w 37 #[.int .i64 job, .int .i64 x1, .int .i64 x2, .int .i64 x3, .int .i64 x4, .int .i64 x5, .int .i64 x6, .bool t1, .bool t2, .bool t3, .int .u8 2, .int .i64 tt, .int .i64 si] 4) hB1
    have c1_13 : w1.cell? ⟨w.heap.size + 1, 5, none⟩ = some (.int .i64 x5) := keep_cell (box1 w 37 #[.int .i64 job, .int .i64 x1, .int .i64 x2, .int .i64 x3, .int .i64 x4, .int .i64 x5, .int .i64 x6, .bool t1, .bool t2, .bool t3, .int .u8 2, .int .i64 tt, .int .i64 si] 5) hB1
    have c1_14 : w1.cell? ⟨w.heap.size + 1, 6, none⟩ = some (.int .i64 x6) := keep_cell (box1 w 37 #[.int .i64 job, .int .i64 x1, .int .i64 x2, .int .i64 x3, .int .i64 x4, .int .i64 x5, .int .i64 x6, .bool t1, .bool t2, .bool t3, .int .u8 2, .int .i64 tt, .int .i64 si] 6) hB1
    have c1_15 : w1.cell? ⟨w.heap.size + 1, 7, none⟩ = some (.bool t1) := keep_cell (box1 w 37 #[.int .i64 job, .int .i64 x1, .int .i64 x2, .int .i64 x3, .int .i64 x4, .int .i64 x5, .int .i64 x6, .bool t1, .bool t2, .bool t3, .int .u8 2, .int .i64 tt, .int .i64 si] 7) hB1
    have c1_16 : w1.cell? ⟨w.heap.size + 1, 8, none⟩ = some (.bool t2) := keep_cell (box1 w 37 #[.int .i64 job, .int .i64 x1, .int .i64 x2, .int .i64 x3, .int .i64 x4, .int .i64 x5, .int .i64 x6, .bool t1, .bool t2, .bool t3, .int .u8 2, .int .i64 tt, .int .i64 si] 8) hB1
    have c1_17 : w1.cell? ⟨w.heap.size + 1, 9, none⟩ = some (.bool t3) := keep_cell (box1 w 37 #[.int .i64 job, .int .i64 x1, .int .i64 x2, .int .i64 x3, .int .i64 x4, .int .i64 x5, .int .i64 x6, .bool t1, .bool t2, .bool t3, .int .u8 2, .int .i64 tt, .int .i64 si] 9) hB1
    have c1_18 : w1.cell? ⟨w.heap.size + 1, 10, none⟩ = some (.int .u8 2) := keep_cell (box1 w 37 #[.int .i64 job, .int .i64 x1, .int .i64 x2, .int .i64 x3, .int .i64 x4, .int .i64 x5, .int .i64 x6, .bool t1, .bool t2, .bool t3, .int .u8 2, .int .i64 tt, .int .i64 si] 10) hB1
    have c1_19 : w1.cell? ⟨w.heap.size + 1, 11, none⟩ = some (.int .i64 tt) := keep_cell (box1 w 37 #[.int .i64 job, .int .i64 x1, .int .i64 x2, .int .i64 x3, .int .i64 x4, .int .i64 x5, .int .i64 x6, .bool t1, .bool t2, .bool t3, .int .u8 2, .int .i64 tt, .int .i64 si] 11) hB1
    have c1_20 : w1.cell? ⟨w.heap.size + 1, 12, none⟩ = some (.int .i64 si) := keep_cell (box1 w 37 #[.int .i64 job, .int .i64 x1, .int .i64 x2, .int .i64 x3, .int .i64 x4, .int .i64 x5, .int .i64 x6, .bool t1, .bool t2, .bool t3, .int .u8 2, .int .i64 tt, .int .i64 si] 12) hB1
    have z1_0 : w.heap.size < w1.heap.size := cell_lt c1_0
    have z1_1 : w.heap.size + 1 < w1.heap.size := cell_lt c1_8
    clear hB1  
    go_wp2_with fail
    have f2_0 : w1.cell? ⟨w.heap.size, 0, none⟩ = some (.int .i64 a) := c1_0
    have k2_0 := cell_regrown f2_0
    have f2_1 : w1.cell? ⟨w.heap.size, 1, none⟩ = some (.int .i64 b) := c1_1
    have k2_1 := cell_regrown f2_1
    have f2_2 : w1.cell? ⟨w.heap.size, 2, none⟩ = some (.int .i64 c) := c1_2
    have k2_2 := cell_regrown f2_2
    have f2_3 : w1.cell? ⟨w.heap.size, 3, none⟩ = some (.int .i64 bo) := c1_3
    have k2_3 := cell_regrown f2_3
    have f2_4 : w1.cell? ⟨w.heap.size, 4, none⟩ = some (.int .i64 fr) := c1_4
    have k2_4 := cell_regrown f2_4
    have f2_5 : w1.cell? ⟨w.heap.size, 5, none⟩ = some (.int .i64 tr) := c1_5
    have k2_5 := cell_regrown f2_5
    have f2_6 : w1.cell? ⟨w.heap.size, 6, none⟩ = some (.int .i64 ag) := c1_6
    have k2_6 := cell_regrown f2_6
    have f2_7 : w1.cell? ⟨w.heap.size, 7, none⟩ = some (.slice X ks.length cp) := c1_7
    have k2_7 := cell_regrown f2_7
    have f2_8 : w1.cell? ⟨w.heap.size + 1, 0, none⟩ = some (.int .i64 job) := c1_8
    have k2_8 := cell_regrown f2_8
    have f2_9 : w1.cell? ⟨w.heap.size + 1, 1, none⟩ = some (.int .i64 x1) := c1_9
    have k2_9 := cell_regrown f2_9
    have f2_10 : w1.cell? ⟨w.heap.size + 1, 2, none⟩ = some (.int .i64 x2) := c1_10
    have k2_10 := cell_regrown f2_10
    have f2_11 : w1.cell? ⟨w.heap.size + 1, 3, none⟩ = some (.int .i64 x3) := c1_11
    have k2_11 := cell_regrown f2_11
    have f2_12 : w1.cell? ⟨w.heap.size + 1, 4, none⟩ = some (.int .i64 x4) := c1_12
    have k2_12 := cell_regrown f2_12
    have f2_13 : w1.cell? ⟨w.heap.size + 1, 5, none⟩ = some (.int .i64 x5) := c1_13
    have k2_13 := cell_regrown f2_13
    have f2_14 : w1.cell? ⟨w.heap.size + 1, 6, none⟩ = some (.int .i64 x6) := c1_14
    have k2_14 := cell_regrown f2_14
    have f2_15 : w1.cell? ⟨w.heap.size + 1, 7, none⟩ = some (.bool t1) := c1_15
    have k2_15 := cell_regrown f2_15
    have f2_16 : w1.cell? ⟨w.heap.size + 1, 8, none⟩ = some (.bool t2) := c1_16
    have k2_16 := cell_regrown f2_16
    have f2_17 : w1.cell? ⟨w.heap.size + 1, 9, none⟩ = some (.bool t3) := c1_17
    have k2_17 := cell_regrown f2_17
    have f2_18 : w1.cell? ⟨w.heap.size + 1, 10, none⟩ = some (.int .u8 2) := c1_18
    have k2_18 := cell_regrown f2_18
    have f2_19 : w1.cell? ⟨w.heap.size + 1, 11, none⟩ = some (.int .i64 tt) := c1_19
    have k2_19 := cell_regrown f2_19
    have f2_20 : w1.cell? ⟨w.heap.size + 1, 12, none⟩ = some (.int .i64 si) := c1_20
    have k2_20 := cell_regrown f2_20
    refine wp_region_quiet_below (by kernel_rfl) (by kernel_rfl) ?_
    repeat (go_big_quiet_step (first | fail | exact Calls.regrown_of (rleft2 a b c bo fr tr ag X cp ks wall HF.out.1.1 HF.out.1.2 HF.out.2.1.1 HF.out.2.1.2 HF.out.2.2.1 HF.out.2.2.2 _)))
    refine wpQuiet_nil ?_
    intro _ hw'
    obtain ⟨⟨dq, osq⟩, hw''⟩ := hw'
    subst hw''
    have hB2 := below_regrown w1 dq osq
    have HB2 : Hid (Below w.heap.size w _) := below_up HB1.out hB2
    have c2_0 := keep_cell f2_0 hB2
    have c2_1 := keep_cell f2_1 hB2
    have c2_2 := keep_cell f2_2 hB2
    have c2_3 := keep_cell f2_3 hB2
    have c2_4 := keep_cell f2_4 hB2
    have c2_5 := keep_cell f2_5 hB2
    have c2_6 := keep_cell f2_6 hB2
    have c2_7 := keep_cell f2_7 hB2
    have c2_8 := keep_cell f2_8 hB2
    have c2_9 := keep_cell f2_9 hB2
    have c2_10 := keep_cell f2_10 hB2
    have c2_11 := keep_cell f2_11 hB2
    have c2_12 := keep_cell f2_12 hB2
    have c2_13 := keep_cell f2_13 hB2
    have c2_14 := keep_cell f2_14 hB2
    have c2_15 := keep_cell f2_15 hB2
    have c2_16 := keep_cell f2_16 hB2
    have c2_17 := keep_cell f2_17 hB2
    have c2_18 := keep_cell f2_18 hB2
    have c2_19 := keep_cell f2_19 hB2
    have c2_20 := keep_cell f2_20 hB2
    generalize hgw2 : grow (redrawn w1 dq) osq = w2 at *
    have z2_0 : w.heap.size < w2.heap.size := cell_lt c2_0
    have z2_1 : w.heap.size + 1 < w2.heap.size := cell_lt c2_8
    clear hgw2 hB2 c1_0 c1_1 c1_2 c1_3 c1_4 c1_5 c1_6 c1_7 c1_8 c1_9 c1_10 c1_11 c1_12 c1_13 c1_14 c1_15 c1_16 c1_17 c1_18 c1_19 c1_20 z1_0 z1_1 f2_0 k2_0 f2_1 k2_1 f2_2 k2_2 f2_3 k2_3 f2_4 k2_4 f2_5 k2_5 f2_6 k2_6 f2_7 k2_7 f2_8 k2_8 f2_9 k2_9 f2_10 k2_10 f2_11 k2_11 f2_12 k2_12 f2_13 k2_13 f2_14 k2_14 f2_15 k2_15 f2_16 k2_16 f2_17 k2_17 f2_18 k2_18 f2_19 k2_19 f2_20 k2_20
    go_wp2_with fail
    go_ret2
    exact ⟨ret_pair (by rw [capM_lo (v := si + (wall + fr)) (by have := HV.out; omega)]), HB2.out⟩
  · have HV := Lib.hid hv
    go_enter Try.func15, Try.ntmps15
    go_wp2_with fail
    refine (asked_ok a b c bo fr tr ag X cp ks hl job x1 x2 x3 x4 x5 x6 t1 t2 t3 2 tt si wall HH.out HP.out HW.out _ (HKK.out.up (below_alloc (below_alloc (Below.refl _ _))))).mono ?_
    rintro e w1 ⟨rfl, hB1⟩
    have HB1 : Hid (Below w.heap.size w w1) := below_up (below_alloc (below_alloc (Below.refl _ _))) hB1
    have c1_0 : w1.cell? ⟨w.heap.size, 0, none⟩ = some (.int .i64 a) := keep_cell (cell_over _ (box0 w 26 #[.int .i64 a, .int .i64 b, .int .i64 c, .int .i64 bo, .int .i64 fr, .int .i64 tr, .int .i64 ag, .slice X ks.length cp] 0)) hB1
    have c1_1 : w1.cell? ⟨w.heap.size, 1, none⟩ = some (.int .i64 b) := keep_cell (cell_over _ (box0 w 26 #[.int .i64 a, .int .i64 b, .int .i64 c, .int .i64 bo, .int .i64 fr, .int .i64 tr, .int .i64 ag, .slice X ks.length cp] 1)) hB1
    have c1_2 : w1.cell? ⟨w.heap.size, 2, none⟩ = some (.int .i64 c) := keep_cell (cell_over _ (box0 w 26 #[.int .i64 a, .int .i64 b, .int .i64 c, .int .i64 bo, .int .i64 fr, .int .i64 tr, .int .i64 ag, .slice X ks.length cp] 2)) hB1
    have c1_3 : w1.cell? ⟨w.heap.size, 3, none⟩ = some (.int .i64 bo) := keep_cell (cell_over _ (box0 w 26 #[.int .i64 a, .int .i64 b, .int .i64 c, .int .i64 bo, .int .i64 fr, .int .i64 tr, .int .i64 ag, .slice X ks.length cp] 3)) hB1
    have c1_4 : w1.cell? ⟨w.heap.size, 4, none⟩ = some (.int .i64 fr) := keep_cell (cell_over _ (box0 w 26 #[.int .i64 a, .int .i64 b, .int .i64 c, .int .i64 bo, .int .i64 fr, .int .i64 tr, .int .i64 ag, .slice X ks.length cp] 4)) hB1
    have c1_5 : w1.cell? ⟨w.heap.size, 5, none⟩ = some (.int .i64 tr) := keep_cell (cell_over _ (box0 w 26 #[.int .i64 a, .int .i64 b, .int .i64 c, .int .i64 bo, .int .i64 fr, .int .i64 tr, .int .i64 ag, .slice X ks.length cp] 5)) hB1
    have c1_6 : w1.cell? ⟨w.heap.size, 6, none⟩ = some (.int .i64 ag) := keep_cell (cell_over _ (box0 w 26 #[.int .i64 a, .int .i64 b, .int .i64 c, .int .i64 bo, .int .i64 fr, .int .i64 tr, .int .i64 ag, .slice X ks.length cp] 6)) hB1
    have c1_7 : w1.cell? ⟨w.heap.size, 7, none⟩ = some (.slice X ks.length cp) := keep_cell (cell_over _ (box0 w 26 #[.int .i64 a, .int .i64 b, .int .i64 c, .int .i64 bo, .int .i64 fr, .int .i64 tr, .int .i64 ag, .slice X ks.length cp] 7)) hB1
    have c1_8 : w1.cell? ⟨w.heap.size + 1, 0, none⟩ = some (.int .i64 job) := keep_cell (box1 w 37 #[.int .i64 job, .int .i64 x1, .int .i64 x2, .int .i64 x3, .int .i64 x4, .int .i64 x5, .int .i64 x6, .bool t1, .bool t2, .bool t3, .int .u8 2, .int .i64 tt, .int .i64 si] 0) hB1
    have c1_9 : w1.cell? ⟨w.heap.size + 1, 1, none⟩ = some (.int .i64 x1) := keep_cell (box1 w 37 #[.int .i64 job, .int .i64 x1, .int .i64 x2, .int .i64 x3, .int .i64 x4, .int .i64 x5, .int .i64 x6, .bool t1, .bool t2, .bool t3, .int .u8 2, .int .i64 tt, .int .i64 si] 1) hB1
    have c1_10 : w1.cell? ⟨w.heap.size + 1, 2, none⟩ = some (.int .i64 x2) := keep_cell (box1 w 37 #[.int .i64 job, .int .i64 x1, .int .i64 x2, .int .i64 x3, .int .i64 x4, .int .i64 x5, .int .i64 x6, .bool t1, .bool t2, .bool t3, .int .u8 2, .int .i64 tt, .int .i64 si] 2) hB1
    have c1_11 : w1.cell? ⟨w.heap.size + 1, 3, none⟩ = some (.int .i64 x3) := keep_cell (box1 w 37 #[.int .i64 job, .int .i64 x1, .int .i64 x2, .int .i64 x3, .int .i64 x4, .int .i64 x5, .int .i64 x6, .bool t1, .bool t2, .bool t3, .int .u8 2, .int .i64 tt, .int .i64 si] 3) hB1
    have c1_12 : w1.cell? ⟨w.heap.size + 1, 4, none⟩ = some (.int .i64 x4) := keep_cell (box1 w 37 #[.int .i64 job, .int .i64 x1, .int .i64 x2, .int .i64 x3, .int .i64 x4, .int .i64 x5, .int .i64 x6, .bool t1, .bool t2, .bool t3, .int .u8 2, .int .i64 tt, .int .i64 si] 4) hB1
    have c1_13 : w1.cell? ⟨w.heap.size + 1, 5, none⟩ = some (.int .i64 x5) := keep_cell (box1 w 37 #[.int .i64 job, .int .i64 x1, .int .i64 x2, .int .i64 x3, .int .i64 x4, .int .i64 x5, .int .i64 x6, .bool t1, .bool t2, .bool t3, .int .u8 2, .int .i64 tt, .int .i64 si] 5) hB1
    have c1_14 : w1.cell? ⟨w.heap.size + 1, 6, none⟩ = some (.int .i64 x6) := keep_cell (box1 w 37 #[.int .i64 job, .int .i64 x1, .int .i64 x2, .int .i64 x3, .int .i64 x4, .int .i64 x5, .int .i64 x6, .bool t1, .bool t2, .bool t3, .int .u8 2, .int .i64 tt, .int .i64 si] 6) hB1
    have c1_15 : w1.cell? ⟨w.heap.size + 1, 7, none⟩ = some (.bool t1) := keep_cell (box1 w 37 #[.int .i64 job, .int .i64 x1, .int .i64 x2, .int .i64 x3, .int .i64 x4, .int .i64 x5, .int .i64 x6, .bool t1, .bool t2, .bool t3, .int .u8 2, .int .i64 tt, .int .i64 si] 7) hB1
    have c1_16 : w1.cell? ⟨w.heap.size + 1, 8, none⟩ = some (.bool t2) := keep_cell (box1 w 37 #[.int .i64 job, .int .i64 x1, .int .i64 x2, .int .i64 x3, .int .i64 x4, .int .i64 x5, .int .i64 x6, .bool t1, .bool t2, .bool t3, .int .u8 2, .int .i64 tt, .int .i64 si] 8) hB1
    have c1_17 : w1.cell? ⟨w.heap.size + 1, 9, none⟩ = some (.bool t3) := keep_cell (box1 w 37 #[.int .i64 job, .int .i64 x1, .int .i64 x2, .int .i64 x3, .int .i64 x4, .int .i64 x5, .int .i64 x6, .bool t1, .bool t2, .bool t3, .int .u8 2, .int .i64 tt, .int .i64 si] 9) hB1
    have c1_18 : w1.cell? ⟨w.heap.size + 1, 10, none⟩ = some (.int .u8 2) := keep_cell (box1 w 37 #[.int .i64 job, .int .i64 x1, .int .i64 x2, .int .i64 x3, .int .i64 x4, .int .i64 x5, .int .i64 x6, .bool t1, .bool t2, .bool t3, .int .u8 2, .int .i64 tt, .int .i64 si] 10) hB1
    have c1_19 : w1.cell? ⟨w.heap.size + 1, 11, none⟩ = some (.int .i64 tt) := keep_cell (box1 w 37 #[.int .i64 job, .int .i64 x1, .int .i64 x2, .int .i64 x3, .int .i64 x4, .int .i64 x5, .int .i64 x6, .bool t1, .bool t2, .bool t3, .int .u8 2, .int .i64 tt, .int .i64 si] 11) hB1
    have c1_20 : w1.cell? ⟨w.heap.size + 1, 12, none⟩ = some (.int .i64 si) := keep_cell (box1 w 37 #[.int .i64 job, .int .i64 x1, .int .i64 x2, .int .i64 x3, .int .i64 x4, .int .i64 x5, .int .i64 x6, .bool t1, .bool t2, .bool t3, .int .u8 2, .int .i64 tt, .int .i64 si] 12) hB1
    have z1_0 : w.heap.size < w1.heap.size := cell_lt c1_0
    have z1_1 : w.heap.size + 1 < w1.heap.size := cell_lt c1_8
    clear hB1  
    go_wp2_with fail
    have f2_0 : w1.cell? ⟨w.heap.size, 0, none⟩ = some (.int .i64 a) := c1_0
    have k2_0 := cell_regrown f2_0
    have f2_1 : w1.cell? ⟨w.heap.size, 1, none⟩ = some (.int .i64 b) := c1_1
    have k2_1 := cell_regrown f2_1
    have f2_2 : w1.cell? ⟨w.heap.size, 2, none⟩ = some (.int .i64 c) := c1_2
    have k2_2 := cell_regrown f2_2
    have f2_3 : w1.cell? ⟨w.heap.size, 3, none⟩ = some (.int .i64 bo) := c1_3
    have k2_3 := cell_regrown f2_3
    have f2_4 : w1.cell? ⟨w.heap.size, 4, none⟩ = some (.int .i64 fr) := c1_4
    have k2_4 := cell_regrown f2_4
    have f2_5 : w1.cell? ⟨w.heap.size, 5, none⟩ = some (.int .i64 tr) := c1_5
    have k2_5 := cell_regrown f2_5
    have f2_6 : w1.cell? ⟨w.heap.size, 6, none⟩ = some (.int .i64 ag) := c1_6
    have k2_6 := cell_regrown f2_6
    have f2_7 : w1.cell? ⟨w.heap.size, 7, none⟩ = some (.slice X ks.length cp) := c1_7
    have k2_7 := cell_regrown f2_7
    have f2_8 : w1.cell? ⟨w.heap.size + 1, 0, none⟩ = some (.int .i64 job) := c1_8
    have k2_8 := cell_regrown f2_8
    have f2_9 : w1.cell? ⟨w.heap.size + 1, 1, none⟩ = some (.int .i64 x1) := c1_9
    have k2_9 := cell_regrown f2_9
    have f2_10 : w1.cell? ⟨w.heap.size + 1, 2, none⟩ = some (.int .i64 x2) := c1_10
    have k2_10 := cell_regrown f2_10
    have f2_11 : w1.cell? ⟨w.heap.size + 1, 3, none⟩ = some (.int .i64 x3) := c1_11
    have k2_11 := cell_regrown f2_11
    have f2_12 : w1.cell? ⟨w.heap.size + 1, 4, none⟩ = some (.int .i64 x4) := c1_12
    have k2_12 := cell_regrown f2_12
    have f2_13 : w1.cell? ⟨w.heap.size + 1, 5, none⟩ = some (.int .i64 x5) := c1_13
    have k2_13 := cell_regrown f2_13
    have f2_14 : w1.cell? ⟨w.heap.size + 1, 6, none⟩ = some (.int .i64 x6) := c1_14
    have k2_14 := cell_regrown f2_14
    have f2_15 : w1.cell? ⟨w.heap.size + 1, 7, none⟩ = some (.bool t1) := c1_15
    have k2_15 := cell_regrown f2_15
    have f2_16 : w1.cell? ⟨w.heap.size + 1, 8, none⟩ = some (.bool t2) := c1_16
    have k2_16 := cell_regrown f2_16
    have f2_17 : w1.cell? ⟨w.heap.size + 1, 9, none⟩ = some (.bool t3) := c1_17
    have k2_17 := cell_regrown f2_17
    have f2_18 : w1.cell? ⟨w.heap.size + 1, 10, none⟩ = some (.int .u8 2) := c1_18
    have k2_18 := cell_regrown f2_18
    have f2_19 : w1.cell? ⟨w.heap.size + 1, 11, none⟩ = some (.int .i64 tt) := c1_19
    have k2_19 := cell_regrown f2_19
    have f2_20 : w1.cell? ⟨w.heap.size + 1, 12, none⟩ = some (.int .i64 si) := c1_20
    have k2_20 := cell_regrown f2_20
    refine wp_region_quiet_below (by kernel_rfl) (by kernel_rfl) ?_
    repeat (go_big_quiet_step (first | fail | exact Calls.regrown_of (rleft2 a b c bo fr tr ag X cp ks wall HF.out.1.1 HF.out.1.2 HF.out.2.1.1 HF.out.2.1.2 HF.out.2.2.1 HF.out.2.2.2 _)))
    refine wpQuiet_nil ?_
    intro _ hw'
    obtain ⟨⟨dq, osq⟩, hw''⟩ := hw'
    subst hw''
    have hB2 := below_regrown w1 dq osq
    have HB2 : Hid (Below w.heap.size w _) := below_up HB1.out hB2
    have c2_0 := keep_cell f2_0 hB2
    have c2_1 := keep_cell f2_1 hB2
    have c2_2 := keep_cell f2_2 hB2
    have c2_3 := keep_cell f2_3 hB2
    have c2_4 := keep_cell f2_4 hB2
    have c2_5 := keep_cell f2_5 hB2
    have c2_6 := keep_cell f2_6 hB2
    have c2_7 := keep_cell f2_7 hB2
    have c2_8 := keep_cell f2_8 hB2
    have c2_9 := keep_cell f2_9 hB2
    have c2_10 := keep_cell f2_10 hB2
    have c2_11 := keep_cell f2_11 hB2
    have c2_12 := keep_cell f2_12 hB2
    have c2_13 := keep_cell f2_13 hB2
    have c2_14 := keep_cell f2_14 hB2
    have c2_15 := keep_cell f2_15 hB2
    have c2_16 := keep_cell f2_16 hB2
    have c2_17 := keep_cell f2_17 hB2
    have c2_18 := keep_cell f2_18 hB2
    have c2_19 := keep_cell f2_19 hB2
    have c2_20 := keep_cell f2_20 hB2
    generalize hgw2 : grow (redrawn w1 dq) osq = w2 at *
    have z2_0 : w.heap.size < w2.heap.size := cell_lt c2_0
    have z2_1 : w.heap.size + 1 < w2.heap.size := cell_lt c2_8
    clear hgw2 hB2 c1_0 c1_1 c1_2 c1_3 c1_4 c1_5 c1_6 c1_7 c1_8 c1_9 c1_10 c1_11 c1_12 c1_13 c1_14 c1_15 c1_16 c1_17 c1_18 c1_19 c1_20 z1_0 z1_1 f2_0 k2_0 f2_1 k2_1 f2_2 k2_2 f2_3 k2_3 f2_4 k2_4 f2_5 k2_5 f2_6 k2_6 f2_7 k2_7 f2_8 k2_8 f2_9 k2_9 f2_10 k2_10 f2_11 k2_11 f2_12 k2_12 f2_13 k2_13 f2_14 k2_14 f2_15 k2_15 f2_16 k2_16 f2_17 k2_17 f2_18 k2_18 f2_19 k2_19 f2_20 k2_20
    go_wp2_with fail
    go_ret2
    exact ⟨ret_pair (by rw [capM_hi (v := si + (wall + fr)) (by have := HV.out; omega)]), HB2.out⟩
set_option maxRecDepth 100000 in
set_option maxHeartbeats 2000000 in
theorem rends3 (a b c bo fr tr ag : Int) (X : Option Addr) (cp : Nat) (ks : List Cls) (hl : ks.length ≤ 9223372036854775807) (job x1 x2 x3 x4 x5 x6 : Int) (t1 t2 t3 : Bool) (tt si : Int) (wall : Int) (h : CfgOk a b c bo fr tr ag ks) (hp : PartOk job 3 tt si tr) (hW : inB wall 1 1048576 = true) (w : World) (hk : ClsAt w w.heap.size X ks) :
    Calls Try.prog 15 #[.agg #[.int .i64 a, .int .i64 b, .int .i64 c, .int .i64 bo, .int .i64 fr, .int .i64 tr, .int .i64 ag, .slice X ks.length cp], .agg #[.int .i64 job, .int .i64 x1, .int .i64 x2, .int .i64 x3, .int .i64 x4, .int .i64 x5, .int .i64 x6, .bool t1, .bool t2, .bool t3, .int .u8 3, .int .i64 tt, .int .i64 si], .int .i64 wall] w (fun e w' => e = .returned (.tuple #[.int .i64 (capM (si + leftR 3 bo wall fr)), .int .i64 0]) ∧ Below w.heap.size w w') := by
  have hv : si + leftR 3 bo wall fr = si + fr := by simp [leftR]
  rw [hv]
  obtain ⟨⟨b1, b2⟩, ⟨f1, f2⟩, ⟨w1_, w2_⟩, ⟨s1, s2⟩⟩ := facts h hp hW
  have HF := Lib.hid (And.intro (And.intro b1 b2) (And.intro (And.intro f1 f2) (And.intro w1_ w2_)))
  have HS := Lib.hid (And.intro s1 s2)
  have HH := Lib.hid h
  have HKK := Lib.hid hk
  have HP := Lib.hid hp
  have HW := Lib.hid hW
  clear h hk hp hW hv
  by_cases hv : si + fr ≤ 1099511627776
  · have HV := Lib.hid hv
    go_enter Try.func15, Try.ntmps15
    go_wp2_with fail
    refine (asked_ok a b c bo fr tr ag X cp ks hl job x1 x2 x3 x4 x5 x6 t1 t2 t3 3 tt si wall HH.out HP.out HW.out _ (HKK.out.up (below_alloc (below_alloc (Below.refl _ _))))).mono ?_
    rintro e w1 ⟨rfl, hB1⟩
    have HB1 : Hid (Below w.heap.size w w1) := below_up (below_alloc (below_alloc (Below.refl _ _))) hB1
    have c1_0 : w1.cell? ⟨w.heap.size, 0, none⟩ = some (.int .i64 a) := keep_cell (cell_over _ (box0 w 26 #[.int .i64 a, .int .i64 b, .int .i64 c, .int .i64 bo, .int .i64 fr, .int .i64 tr, .int .i64 ag, .slice X ks.length cp] 0)) hB1
    have c1_1 : w1.cell? ⟨w.heap.size, 1, none⟩ = some (.int .i64 b) := keep_cell (cell_over _ (box0 w 26 #[.int .i64 a, .int .i64 b, .int .i64 c, .int .i64 bo, .int .i64 fr, .int .i64 tr, .int .i64 ag, .slice X ks.length cp] 1)) hB1
    have c1_2 : w1.cell? ⟨w.heap.size, 2, none⟩ = some (.int .i64 c) := keep_cell (cell_over _ (box0 w 26 #[.int .i64 a, .int .i64 b, .int .i64 c, .int .i64 bo, .int .i64 fr, .int .i64 tr, .int .i64 ag, .slice X ks.length cp] 2)) hB1
    have c1_3 : w1.cell? ⟨w.heap.size, 3, none⟩ = some (.int .i64 bo) := keep_cell (cell_over _ (box0 w 26 #[.int .i64 a, .int .i64 b, .int .i64 c, .int .i64 bo, .int .i64 fr, .int .i64 tr, .int .i64 ag, .slice X ks.length cp] 3)) hB1
    have c1_4 : w1.cell? ⟨w.heap.size, 4, none⟩ = some (.int .i64 fr) := keep_cell (cell_over _ (box0 w 26 #[.int .i64 a, .int .i64 b, .int .i64 c, .int .i64 bo, .int .i64 fr, .int .i64 tr, .int .i64 ag, .slice X ks.length cp] 4)) hB1
    have c1_5 : w1.cell? ⟨w.heap.size, 5, none⟩ = some (.int .i64 tr) := keep_cell (cell_over _ (box0 w 26 #[.int .i64 a, .int .i64 b, .int .i64 c, .int .i64 bo, .int .i64 fr, .int .i64 tr, .int .i64 ag, .slice X ks.length cp] 5)) hB1
    have c1_6 : w1.cell? ⟨w.heap.size, 6, none⟩ = some (.int .i64 ag) := keep_cell (cell_over _ (box0 w 26 #[.int .i64 a, .int .i64 b, .int .i64 c, .int .i64 bo, .int .i64 fr, .int .i64 tr, .int .i64 ag, .slice X ks.length cp] 6)) hB1
    have c1_7 : w1.cell? ⟨w.heap.size, 7, none⟩ = some (.slice X ks.length cp) := keep_cell (cell_over _ (box0 w 26 #[.int .i64 a, .int .i64 b, .int .i64 c, .int .i64 bo, .int .i64 fr, .int .i64 tr, .int .i64 ag, .slice X ks.length cp] 7)) hB1
    have c1_8 : w1.cell? ⟨w.heap.size + 1, 0, none⟩ = some (.int .i64 job) := keep_cell (box1 w 37 #[.int .i64 job, .int .i64 x1, .int .i64 x2, .int .i64 x3, .int .i64 x4, .int .i64 x5, .int .i64 x6, .bool t1, .bool t2, .bool t3, .int .u8 3, .int .i64 tt, .int .i64 si] 0) hB1
    have c1_9 : w1.cell? ⟨w.heap.size + 1, 1, none⟩ = some (.int .i64 x1) := keep_cell (box1 w 37 #[.int .i64 job, .int .i64 x1, .int .i64 x2, .int .i64 x3, .int .i64 x4, .int .i64 x5, .int .i64 x6, .bool t1, .bool t2, .bool t3, .int .u8 3, .int .i64 tt, .int .i64 si] 1) hB1
    have c1_10 : w1.cell? ⟨w.heap.size + 1, 2, none⟩ = some (.int .i64 x2) := keep_cell (box1 w 37 #[.int .i64 job, .int .i64 x1, .int .i64 x2, .int .i64 x3, .int .i64 x4, .int .i64 x5, .int .i64 x6, .bool t1, .bool t2, .bool t3, .int .u8 3, .int .i64 tt, .int .i64 si] 2) hB1
    have c1_11 : w1.cell? ⟨w.heap.size + 1, 3, none⟩ = some (.int .i64 x3) := keep_cell (box1 w 37 #[.int .i64 job, .int .i64 x1, .int .i64 x2, .int .i64 x3, .int .i64 x4, .int .i64 x5, .int .i64 x6, .bool t1, .bool t2, .bool t3, .int .u8 3, .int .i64 tt, .int .i64 si] 3) hB1
    have c1_12 : w1.cell? ⟨w.heap.size + 1, 4, none⟩ = some (.int .i64 x4) := keep_cell (box1 w 37 #[.int .i64 job, .int .i64 x1, .int .i64 x2, .int .i64 x3, .int .i64 x4, .int .i64 x5, .int .i64 x6, .bool t1, .bool t2, .bool t3, .int .u8 3, .int .i64 tt, .int .i64 si] 4) hB1
    have c1_13 : w1.cell? ⟨w.heap.size + 1, 5, none⟩ = some (.int .i64 x5) := keep_cell (box1 w 37 #[.int .i64 job, .int .i64 x1, .int .i64 x2, .int .i64 x3, .int .i64 x4, .int .i64 x5, .int .i64 x6, .bool t1, .bool t2, .bool t3, .int .u8 3, .int .i64 tt, .int .i64 si] 5) hB1
    have c1_14 : w1.cell? ⟨w.heap.size + 1, 6, none⟩ = some (.int .i64 x6) := keep_cell (box1 w 37 #[.int .i64 job, .int .i64 x1, .int .i64 x2, .int .i64 x3, .int .i64 x4, .int .i64 x5, .int .i64 x6, .bool t1, .bool t2, .bool t3, .int .u8 3, .int .i64 tt, .int .i64 si] 6) hB1
    have c1_15 : w1.cell? ⟨w.heap.size + 1, 7, none⟩ = some (.bool t1) := keep_cell (box1 w 37 #[.int .i64 job, .int .i64 x1, .int .i64 x2, .int .i64 x3, .int .i64 x4, .int .i64 x5, .int .i64 x6, .bool t1, .bool t2, .bool t3, .int .u8 3, .int .i64 tt, .int .i64 si] 7) hB1
    have c1_16 : w1.cell? ⟨w.heap.size + 1, 8, none⟩ = some (.bool t2) := keep_cell (box1 w 37 #[.int .i64 job, .int .i64 x1, .int .i64 x2, .int .i64 x3, .int .i64 x4, .int .i64 x5, .int .i64 x6, .bool t1, .bool t2, .bool t3, .int .u8 3, .int .i64 tt, .int .i64 si] 8) hB1
    have c1_17 : w1.cell? ⟨w.heap.size + 1, 9, none⟩ = some (.bool t3) := keep_cell (box1 w 37 #[.int .i64 job, .int .i64 x1, .int .i64 x2, .int .i64 x3, .int .i64 x4, .int .i64 x5, .int .i64 x6, .bool t1, .bool t2, .bool t3, .int .u8 3, .int .i64 tt, .int .i64 si] 9) hB1
    have c1_18 : w1.cell? ⟨w.heap.size + 1, 10, none⟩ = some (.int .u8 3) := keep_cell (box1 w 37 #[.int .i64 job, .int .i64 x1, .int .i64 x2, .int .i64 x3, .int .i64 x4, .int .i64 x5, .int .i64 x6, .bool t1, .bool t2, .bool t3, .int .u8 3, .int .i64 tt, .int .i64 si] 10) hB1
    have c1_19 : w1.cell? ⟨w.heap.size + 1, 11, none⟩ = some (.int .i64 tt) := keep_cell (box1 w 37 #[.int .i64 job, .int .i64 x1, .int .i64 x2, .int .i64 x3, .int .i64 x4, .int .i64 x5, .int .i64 x6, .bool t1, .bool t2, .bool t3, .int .u8 3, .int .i64 tt, .int .i64 si] 11) hB1
    have c1_20 : w1.cell? ⟨w.heap.size + 1, 12, none⟩ = some (.int .i64 si) := keep_cell (box1 w 37 #[.int .i64 job, .int .i64 x1, .int .i64 x2, .int .i64 x3, .int .i64 x4, .int .i64 x5, .int .i64 x6, .bool t1, .bool t2, .bool t3, .int .u8 3, .int .i64 tt, .int .i64 si] 12) hB1
    have z1_0 : w.heap.size < w1.heap.size := cell_lt c1_0
    have z1_1 : w.heap.size + 1 < w1.heap.size := cell_lt c1_8
    clear hB1  
    go_wp2_with fail
    have f2_0 : w1.cell? ⟨w.heap.size, 0, none⟩ = some (.int .i64 a) := c1_0
    have k2_0 := cell_regrown f2_0
    have f2_1 : w1.cell? ⟨w.heap.size, 1, none⟩ = some (.int .i64 b) := c1_1
    have k2_1 := cell_regrown f2_1
    have f2_2 : w1.cell? ⟨w.heap.size, 2, none⟩ = some (.int .i64 c) := c1_2
    have k2_2 := cell_regrown f2_2
    have f2_3 : w1.cell? ⟨w.heap.size, 3, none⟩ = some (.int .i64 bo) := c1_3
    have k2_3 := cell_regrown f2_3
    have f2_4 : w1.cell? ⟨w.heap.size, 4, none⟩ = some (.int .i64 fr) := c1_4
    have k2_4 := cell_regrown f2_4
    have f2_5 : w1.cell? ⟨w.heap.size, 5, none⟩ = some (.int .i64 tr) := c1_5
    have k2_5 := cell_regrown f2_5
    have f2_6 : w1.cell? ⟨w.heap.size, 6, none⟩ = some (.int .i64 ag) := c1_6
    have k2_6 := cell_regrown f2_6
    have f2_7 : w1.cell? ⟨w.heap.size, 7, none⟩ = some (.slice X ks.length cp) := c1_7
    have k2_7 := cell_regrown f2_7
    have f2_8 : w1.cell? ⟨w.heap.size + 1, 0, none⟩ = some (.int .i64 job) := c1_8
    have k2_8 := cell_regrown f2_8
    have f2_9 : w1.cell? ⟨w.heap.size + 1, 1, none⟩ = some (.int .i64 x1) := c1_9
    have k2_9 := cell_regrown f2_9
    have f2_10 : w1.cell? ⟨w.heap.size + 1, 2, none⟩ = some (.int .i64 x2) := c1_10
    have k2_10 := cell_regrown f2_10
    have f2_11 : w1.cell? ⟨w.heap.size + 1, 3, none⟩ = some (.int .i64 x3) := c1_11
    have k2_11 := cell_regrown f2_11
    have f2_12 : w1.cell? ⟨w.heap.size + 1, 4, none⟩ = some (.int .i64 x4) := c1_12
    have k2_12 := cell_regrown f2_12
    have f2_13 : w1.cell? ⟨w.heap.size + 1, 5, none⟩ = some (.int .i64 x5) := c1_13
    have k2_13 := cell_regrown f2_13
    have f2_14 : w1.cell? ⟨w.heap.size + 1, 6, none⟩ = some (.int .i64 x6) := c1_14
    have k2_14 := cell_regrown f2_14
    have f2_15 : w1.cell? ⟨w.heap.size + 1, 7, none⟩ = some (.bool t1) := c1_15
    have k2_15 := cell_regrown f2_15
    have f2_16 : w1.cell? ⟨w.heap.size + 1, 8, none⟩ = some (.bool t2) := c1_16
    have k2_16 := cell_regrown f2_16
    have f2_17 : w1.cell? ⟨w.heap.size + 1, 9, none⟩ = some (.bool t3) := c1_17
    have k2_17 := cell_regrown f2_17
    have f2_18 : w1.cell? ⟨w.heap.size + 1, 10, none⟩ = some (.int .u8 3) := c1_18
    have k2_18 := cell_regrown f2_18
    have f2_19 : w1.cell? ⟨w.heap.size + 1, 11, none⟩ = some (.int .i64 tt) := c1_19
    have k2_19 := cell_regrown f2_19
    have f2_20 : w1.cell? ⟨w.heap.size + 1, 12, none⟩ = some (.int .i64 si) := c1_20
    have k2_20 := cell_regrown f2_20
    refine wp_region_quiet_below (by kernel_rfl) (by kernel_rfl) ?_
    repeat (go_big_quiet_step (first | fail | exact Calls.regrown_of (rleft3 a b c bo fr tr ag X cp ks wall HF.out.1.1 HF.out.1.2 HF.out.2.1.1 HF.out.2.1.2 HF.out.2.2.1 HF.out.2.2.2 _)))
    refine wpQuiet_nil ?_
    intro _ hw'
    obtain ⟨⟨dq, osq⟩, hw''⟩ := hw'
    subst hw''
    have hB2 := below_regrown w1 dq osq
    have HB2 : Hid (Below w.heap.size w _) := below_up HB1.out hB2
    have c2_0 := keep_cell f2_0 hB2
    have c2_1 := keep_cell f2_1 hB2
    have c2_2 := keep_cell f2_2 hB2
    have c2_3 := keep_cell f2_3 hB2
    have c2_4 := keep_cell f2_4 hB2
    have c2_5 := keep_cell f2_5 hB2
    have c2_6 := keep_cell f2_6 hB2
    have c2_7 := keep_cell f2_7 hB2
    have c2_8 := keep_cell f2_8 hB2
    have c2_9 := keep_cell f2_9 hB2
    have c2_10 := keep_cell f2_10 hB2
    have c2_11 := keep_cell f2_11 hB2
    have c2_12 := keep_cell f2_12 hB2
    have c2_13 := keep_cell f2_13 hB2
    have c2_14 := keep_cell f2_14 hB2
    have c2_15 := keep_cell f2_15 hB2
    have c2_16 := keep_cell f2_16 hB2
    have c2_17 := keep_cell f2_17 hB2
    have c2_18 := keep_cell f2_18 hB2
    have c2_19 := keep_cell f2_19 hB2
    have c2_20 := keep_cell f2_20 hB2
    generalize hgw2 : grow (redrawn w1 dq) osq = w2 at *
    have z2_0 : w.heap.size < w2.heap.size := cell_lt c2_0
    have z2_1 : w.heap.size + 1 < w2.heap.size := cell_lt c2_8
    clear hgw2 hB2 c1_0 c1_1 c1_2 c1_3 c1_4 c1_5 c1_6 c1_7 c1_8 c1_9 c1_10 c1_11 c1_12 c1_13 c1_14 c1_15 c1_16 c1_17 c1_18 c1_19 c1_20 z1_0 z1_1 f2_0 k2_0 f2_1 k2_1 f2_2 k2_2 f2_3 k2_3 f2_4 k2_4 f2_5 k2_5 f2_6 k2_6 f2_7 k2_7 f2_8 k2_8 f2_9 k2_9 f2_10 k2_10 f2_11 k2_11 f2_12 k2_12 f2_13 k2_13 f2_14 k2_14 f2_15 k2_15 f2_16 k2_16 f2_17 k2_17 f2_18 k2_18 f2_19 k2_19 f2_20 k2_20
    go_wp2_with fail
    go_ret2
    exact ⟨ret_pair (by rw [capM_lo (v := si + fr) (by have := HV.out; omega)]), HB2.out⟩
  · have HV := Lib.hid hv
    go_enter Try.func15, Try.ntmps15
    go_wp2_with fail
    refine (asked_ok a b c bo fr tr ag X cp ks hl job x1 x2 x3 x4 x5 x6 t1 t2 t3 3 tt si wall HH.out HP.out HW.out _ (HKK.out.up (below_alloc (below_alloc (Below.refl _ _))))).mono ?_
    rintro e w1 ⟨rfl, hB1⟩
    have HB1 : Hid (Below w.heap.size w w1) := below_up (below_alloc (below_alloc (Below.refl _ _))) hB1
    have c1_0 : w1.cell? ⟨w.heap.size, 0, none⟩ = some (.int .i64 a) := keep_cell (cell_over _ (box0 w 26 #[.int .i64 a, .int .i64 b, .int .i64 c, .int .i64 bo, .int .i64 fr, .int .i64 tr, .int .i64 ag, .slice X ks.length cp] 0)) hB1
    have c1_1 : w1.cell? ⟨w.heap.size, 1, none⟩ = some (.int .i64 b) := keep_cell (cell_over _ (box0 w 26 #[.int .i64 a, .int .i64 b, .int .i64 c, .int .i64 bo, .int .i64 fr, .int .i64 tr, .int .i64 ag, .slice X ks.length cp] 1)) hB1
    have c1_2 : w1.cell? ⟨w.heap.size, 2, none⟩ = some (.int .i64 c) := keep_cell (cell_over _ (box0 w 26 #[.int .i64 a, .int .i64 b, .int .i64 c, .int .i64 bo, .int .i64 fr, .int .i64 tr, .int .i64 ag, .slice X ks.length cp] 2)) hB1
    have c1_3 : w1.cell? ⟨w.heap.size, 3, none⟩ = some (.int .i64 bo) := keep_cell (cell_over _ (box0 w 26 #[.int .i64 a, .int .i64 b, .int .i64 c, .int .i64 bo, .int .i64 fr, .int .i64 tr, .int .i64 ag, .slice X ks.length cp] 3)) hB1
    have c1_4 : w1.cell? ⟨w.heap.size, 4, none⟩ = some (.int .i64 fr) := keep_cell (cell_over _ (box0 w 26 #[.int .i64 a, .int .i64 b, .int .i64 c, .int .i64 bo, .int .i64 fr, .int .i64 tr, .int .i64 ag, .slice X ks.length cp] 4)) hB1
    have c1_5 : w1.cell? ⟨w.heap.size, 5, none⟩ = some (.int .i64 tr) := keep_cell (cell_over _ (box0 w 26 #[.int .i64 a, .int .i64 b, .int .i64 c, .int .i64 bo, .int .i64 fr, .int .i64 tr, .int .i64 ag, .slice X ks.length cp] 5)) hB1
    have c1_6 : w1.cell? ⟨w.heap.size, 6, none⟩ = some (.int .i64 ag) := keep_cell (cell_over _ (box0 w 26 #[.int .i64 a, .int .i64 b, .int .i64 c, .int .i64 bo, .int .i64 fr, .int .i64 tr, .int .i64 ag, .slice X ks.length cp] 6)) hB1
    have c1_7 : w1.cell? ⟨w.heap.size, 7, none⟩ = some (.slice X ks.length cp) := keep_cell (cell_over _ (box0 w 26 #[.int .i64 a, .int .i64 b, .int .i64 c, .int .i64 bo, .int .i64 fr, .int .i64 tr, .int .i64 ag, .slice X ks.length cp] 7)) hB1
    have c1_8 : w1.cell? ⟨w.heap.size + 1, 0, none⟩ = some (.int .i64 job) := keep_cell (box1 w 37 #[.int .i64 job, .int .i64 x1, .int .i64 x2, .int .i64 x3, .int .i64 x4, .int .i64 x5, .int .i64 x6, .bool t1, .bool t2, .bool t3, .int .u8 3, .int .i64 tt, .int .i64 si] 0) hB1
    have c1_9 : w1.cell? ⟨w.heap.size + 1, 1, none⟩ = some (.int .i64 x1) := keep_cell (box1 w 37 #[.int .i64 job, .int .i64 x1, .int .i64 x2, .int .i64 x3, .int .i64 x4, .int .i64 x5, .int .i64 x6, .bool t1, .bool t2, .bool t3, .int .u8 3, .int .i64 tt, .int .i64 si] 1) hB1
    have c1_10 : w1.cell? ⟨w.heap.size + 1, 2, none⟩ = some (.int .i64 x2) := keep_cell (box1 w 37 #[.int .i64 job, .int .i64 x1, .int .i64 x2, .int .i64 x3, .int .i64 x4, .int .i64 x5, .int .i64 x6, .bool t1, .bool t2, .bool t3, .int .u8 3, .int .i64 tt, .int .i64 si] 2) hB1
    have c1_11 : w1.cell? ⟨w.heap.size + 1, 3, none⟩ = some (.int .i64 x3) := keep_cell (box1 w 37 #[.int .i64 job, .int .i64 x1, .int .i64 x2, .int .i64 x3, .int .i64 x4, .int .i64 x5, .int .i64 x6, .bool t1, .bool t2, .bool t3, .int .u8 3, .int .i64 tt, .int .i64 si] 3) hB1
    have c1_12 : w1.cell? ⟨w.heap.size + 1, 4, none⟩ = some (.int .i64 x4) := keep_cell (box1 w 37 #[.int .i64 job, .int .i64 x1, .int .i64 x2, .int .i64 x3, .int .i64 x4, .int .i64 x5, .int .i64 x6, .bool t1, .bool t2, .bool t3, .int .u8 3, .int .i64 tt, .int .i64 si] 4) hB1
    have c1_13 : w1.cell? ⟨w.heap.size + 1, 5, none⟩ = some (.int .i64 x5) := keep_cell (box1 w 37 #[.int .i64 job, .int .i64 x1, .int .i64 x2, .int .i64 x3, .int .i64 x4, .int .i64 x5, .int .i64 x6, .bool t1, .bool t2, .bool t3, .int .u8 3, .int .i64 tt, .int .i64 si] 5) hB1
    have c1_14 : w1.cell? ⟨w.heap.size + 1, 6, none⟩ = some (.int .i64 x6) := keep_cell (box1 w 37 #[.int .i64 job, .int .i64 x1, .int .i64 x2, .int .i64 x3, .int .i64 x4, .int .i64 x5, .int .i64 x6, .bool t1, .bool t2, .bool t3, .int .u8 3, .int .i64 tt, .int .i64 si] 6) hB1
    have c1_15 : w1.cell? ⟨w.heap.size + 1, 7, none⟩ = some (.bool t1) := keep_cell (box1 w 37 #[.int .i64 job, .int .i64 x1, .int .i64 x2, .int .i64 x3, .int .i64 x4, .int .i64 x5, .int .i64 x6, .bool t1, .bool t2, .bool t3, .int .u8 3, .int .i64 tt, .int .i64 si] 7) hB1
    have c1_16 : w1.cell? ⟨w.heap.size + 1, 8, none⟩ = some (.bool t2) := keep_cell (box1 w 37 #[.int .i64 job, .int .i64 x1, .int .i64 x2, .int .i64 x3, .int .i64 x4, .int .i64 x5, .int .i64 x6, .bool t1, .bool t2, .bool t3, .int .u8 3, .int .i64 tt, .int .i64 si] 8) hB1
    have c1_17 : w1.cell? ⟨w.heap.size + 1, 9, none⟩ = some (.bool t3) := keep_cell (box1 w 37 #[.int .i64 job, .int .i64 x1, .int .i64 x2, .int .i64 x3, .int .i64 x4, .int .i64 x5, .int .i64 x6, .bool t1, .bool t2, .bool t3, .int .u8 3, .int .i64 tt, .int .i64 si] 9) hB1
    have c1_18 : w1.cell? ⟨w.heap.size + 1, 10, none⟩ = some (.int .u8 3) := keep_cell (box1 w 37 #[.int .i64 job, .int .i64 x1, .int .i64 x2, .int .i64 x3, .int .i64 x4, .int .i64 x5, .int .i64 x6, .bool t1, .bool t2, .bool t3, .int .u8 3, .int .i64 tt, .int .i64 si] 10) hB1
    have c1_19 : w1.cell? ⟨w.heap.size + 1, 11, none⟩ = some (.int .i64 tt) := keep_cell (box1 w 37 #[.int .i64 job, .int .i64 x1, .int .i64 x2, .int .i64 x3, .int .i64 x4, .int .i64 x5, .int .i64 x6, .bool t1, .bool t2, .bool t3, .int .u8 3, .int .i64 tt, .int .i64 si] 11) hB1
    have c1_20 : w1.cell? ⟨w.heap.size + 1, 12, none⟩ = some (.int .i64 si) := keep_cell (box1 w 37 #[.int .i64 job, .int .i64 x1, .int .i64 x2, .int .i64 x3, .int .i64 x4, .int .i64 x5, .int .i64 x6, .bool t1, .bool t2, .bool t3, .int .u8 3, .int .i64 tt, .int .i64 si] 12) hB1
    have z1_0 : w.heap.size < w1.heap.size := cell_lt c1_0
    have z1_1 : w.heap.size + 1 < w1.heap.size := cell_lt c1_8
    clear hB1  
    go_wp2_with fail
    have f2_0 : w1.cell? ⟨w.heap.size, 0, none⟩ = some (.int .i64 a) := c1_0
    have k2_0 := cell_regrown f2_0
    have f2_1 : w1.cell? ⟨w.heap.size, 1, none⟩ = some (.int .i64 b) := c1_1
    have k2_1 := cell_regrown f2_1
    have f2_2 : w1.cell? ⟨w.heap.size, 2, none⟩ = some (.int .i64 c) := c1_2
    have k2_2 := cell_regrown f2_2
    have f2_3 : w1.cell? ⟨w.heap.size, 3, none⟩ = some (.int .i64 bo) := c1_3
    have k2_3 := cell_regrown f2_3
    have f2_4 : w1.cell? ⟨w.heap.size, 4, none⟩ = some (.int .i64 fr) := c1_4
    have k2_4 := cell_regrown f2_4
    have f2_5 : w1.cell? ⟨w.heap.size, 5, none⟩ = some (.int .i64 tr) := c1_5
    have k2_5 := cell_regrown f2_5
    have f2_6 : w1.cell? ⟨w.heap.size, 6, none⟩ = some (.int .i64 ag) := c1_6
    have k2_6 := cell_regrown f2_6
    have f2_7 : w1.cell? ⟨w.heap.size, 7, none⟩ = some (.slice X ks.length cp) := c1_7
    have k2_7 := cell_regrown f2_7
    have f2_8 : w1.cell? ⟨w.heap.size + 1, 0, none⟩ = some (.int .i64 job) := c1_8
    have k2_8 := cell_regrown f2_8
    have f2_9 : w1.cell? ⟨w.heap.size + 1, 1, none⟩ = some (.int .i64 x1) := c1_9
    have k2_9 := cell_regrown f2_9
    have f2_10 : w1.cell? ⟨w.heap.size + 1, 2, none⟩ = some (.int .i64 x2) := c1_10
    have k2_10 := cell_regrown f2_10
    have f2_11 : w1.cell? ⟨w.heap.size + 1, 3, none⟩ = some (.int .i64 x3) := c1_11
    have k2_11 := cell_regrown f2_11
    have f2_12 : w1.cell? ⟨w.heap.size + 1, 4, none⟩ = some (.int .i64 x4) := c1_12
    have k2_12 := cell_regrown f2_12
    have f2_13 : w1.cell? ⟨w.heap.size + 1, 5, none⟩ = some (.int .i64 x5) := c1_13
    have k2_13 := cell_regrown f2_13
    have f2_14 : w1.cell? ⟨w.heap.size + 1, 6, none⟩ = some (.int .i64 x6) := c1_14
    have k2_14 := cell_regrown f2_14
    have f2_15 : w1.cell? ⟨w.heap.size + 1, 7, none⟩ = some (.bool t1) := c1_15
    have k2_15 := cell_regrown f2_15
    have f2_16 : w1.cell? ⟨w.heap.size + 1, 8, none⟩ = some (.bool t2) := c1_16
    have k2_16 := cell_regrown f2_16
    have f2_17 : w1.cell? ⟨w.heap.size + 1, 9, none⟩ = some (.bool t3) := c1_17
    have k2_17 := cell_regrown f2_17
    have f2_18 : w1.cell? ⟨w.heap.size + 1, 10, none⟩ = some (.int .u8 3) := c1_18
    have k2_18 := cell_regrown f2_18
    have f2_19 : w1.cell? ⟨w.heap.size + 1, 11, none⟩ = some (.int .i64 tt) := c1_19
    have k2_19 := cell_regrown f2_19
    have f2_20 : w1.cell? ⟨w.heap.size + 1, 12, none⟩ = some (.int .i64 si) := c1_20
    have k2_20 := cell_regrown f2_20
    refine wp_region_quiet_below (by kernel_rfl) (by kernel_rfl) ?_
    repeat (go_big_quiet_step (first | fail | exact Calls.regrown_of (rleft3 a b c bo fr tr ag X cp ks wall HF.out.1.1 HF.out.1.2 HF.out.2.1.1 HF.out.2.1.2 HF.out.2.2.1 HF.out.2.2.2 _)))
    refine wpQuiet_nil ?_
    intro _ hw'
    obtain ⟨⟨dq, osq⟩, hw''⟩ := hw'
    subst hw''
    have hB2 := below_regrown w1 dq osq
    have HB2 : Hid (Below w.heap.size w _) := below_up HB1.out hB2
    have c2_0 := keep_cell f2_0 hB2
    have c2_1 := keep_cell f2_1 hB2
    have c2_2 := keep_cell f2_2 hB2
    have c2_3 := keep_cell f2_3 hB2
    have c2_4 := keep_cell f2_4 hB2
    have c2_5 := keep_cell f2_5 hB2
    have c2_6 := keep_cell f2_6 hB2
    have c2_7 := keep_cell f2_7 hB2
    have c2_8 := keep_cell f2_8 hB2
    have c2_9 := keep_cell f2_9 hB2
    have c2_10 := keep_cell f2_10 hB2
    have c2_11 := keep_cell f2_11 hB2
    have c2_12 := keep_cell f2_12 hB2
    have c2_13 := keep_cell f2_13 hB2
    have c2_14 := keep_cell f2_14 hB2
    have c2_15 := keep_cell f2_15 hB2
    have c2_16 := keep_cell f2_16 hB2
    have c2_17 := keep_cell f2_17 hB2
    have c2_18 := keep_cell f2_18 hB2
    have c2_19 := keep_cell f2_19 hB2
    have c2_20 := keep_cell f2_20 hB2
    generalize hgw2 : grow (redrawn w1 dq) osq = w2 at *
    have z2_0 : w.heap.size < w2.heap.size := cell_lt c2_0
    have z2_1 : w.heap.size + 1 < w2.heap.size := cell_lt c2_8
    clear hgw2 hB2 c1_0 c1_1 c1_2 c1_3 c1_4 c1_5 c1_6 c1_7 c1_8 c1_9 c1_10 c1_11 c1_12 c1_13 c1_14 c1_15 c1_16 c1_17 c1_18 c1_19 c1_20 z1_0 z1_1 f2_0 k2_0 f2_1 k2_1 f2_2 k2_2 f2_3 k2_3 f2_4 k2_4 f2_5 k2_5 f2_6 k2_6 f2_7 k2_7 f2_8 k2_8 f2_9 k2_9 f2_10 k2_10 f2_11 k2_11 f2_12 k2_12 f2_13 k2_13 f2_14 k2_14 f2_15 k2_15 f2_16 k2_16 f2_17 k2_17 f2_18 k2_18 f2_19 k2_19 f2_20 k2_20
    go_wp2_with fail
    go_ret2
    exact ⟨ret_pair (by rw [capM_hi (v := si + fr) (by have := HV.out; omega)]), HB2.out⟩
set_option maxRecDepth 100000 in
set_option maxHeartbeats 2000000 in
theorem rturns_cfg (a b c bo fr tr ag : Int) (X : Option Addr) (cp : Nat) (ks : List Cls) (hl : ks.length ≤ 9223372036854775807) (job x1 x2 x3 x4 x5 x6 : Int) (t1 t2 t3 : Bool) (ph tt si : Int) (wall : Int) (h : ¬ CfgOk a b c bo fr tr ag ks) (w : World) (hk : ClsAt w w.heap.size X ks) :
    Calls Try.prog 17 #[.agg #[.int .i64 a, .int .i64 b, .int .i64 c, .int .i64 bo, .int .i64 fr, .int .i64 tr, .int .i64 ag, .slice X ks.length cp], .agg #[.int .i64 job, .int .i64 x1, .int .i64 x2, .int .i64 x3, .int .i64 x4, .int .i64 x5, .int .i64 x6, .bool t1, .bool t2, .bool t3, .int .u8 ph, .int .i64 tt, .int .i64 si], .int .i64 wall] w (fun e w' => e = .returned (.tuple #[.int .i64 0, .int .i64 8]) ∧ Below w.heap.size w w') := by
  have HH := Lib.hid h
  have HKK := Lib.hid hk
  clear h hk
  go_enter Try.func17, Try.ntmps17
  go_wp2_with fail
  refine (asked_cfg a b c bo fr tr ag X cp ks hl job x1 x2 x3 x4 x5 x6 t1 t2 t3 ph tt si wall HH.out _ (HKK.out.up (below_alloc (below_alloc (Below.refl _ _))))).mono ?_
  rintro e w1 ⟨rfl, hB1⟩
  have HB1 : Hid (Below w.heap.size w w1) := below_up (below_alloc (below_alloc (Below.refl _ _))) hB1
  have c1_0 : w1.cell? ⟨w.heap.size, 0, none⟩ = some (.int .i64 a) := keep_cell (cell_over _ (box0 w 26 #[.int .i64 a, .int .i64 b, .int .i64 c, .int .i64 bo, .int .i64 fr, .int .i64 tr, .int .i64 ag, .slice X ks.length cp] 0)) hB1
  have c1_1 : w1.cell? ⟨w.heap.size, 1, none⟩ = some (.int .i64 b) := keep_cell (cell_over _ (box0 w 26 #[.int .i64 a, .int .i64 b, .int .i64 c, .int .i64 bo, .int .i64 fr, .int .i64 tr, .int .i64 ag, .slice X ks.length cp] 1)) hB1
  have c1_2 : w1.cell? ⟨w.heap.size, 2, none⟩ = some (.int .i64 c) := keep_cell (cell_over _ (box0 w 26 #[.int .i64 a, .int .i64 b, .int .i64 c, .int .i64 bo, .int .i64 fr, .int .i64 tr, .int .i64 ag, .slice X ks.length cp] 2)) hB1
  have c1_3 : w1.cell? ⟨w.heap.size, 3, none⟩ = some (.int .i64 bo) := keep_cell (cell_over _ (box0 w 26 #[.int .i64 a, .int .i64 b, .int .i64 c, .int .i64 bo, .int .i64 fr, .int .i64 tr, .int .i64 ag, .slice X ks.length cp] 3)) hB1
  have c1_4 : w1.cell? ⟨w.heap.size, 4, none⟩ = some (.int .i64 fr) := keep_cell (cell_over _ (box0 w 26 #[.int .i64 a, .int .i64 b, .int .i64 c, .int .i64 bo, .int .i64 fr, .int .i64 tr, .int .i64 ag, .slice X ks.length cp] 4)) hB1
  have c1_5 : w1.cell? ⟨w.heap.size, 5, none⟩ = some (.int .i64 tr) := keep_cell (cell_over _ (box0 w 26 #[.int .i64 a, .int .i64 b, .int .i64 c, .int .i64 bo, .int .i64 fr, .int .i64 tr, .int .i64 ag, .slice X ks.length cp] 5)) hB1
  have c1_6 : w1.cell? ⟨w.heap.size, 6, none⟩ = some (.int .i64 ag) := keep_cell (cell_over _ (box0 w 26 #[.int .i64 a, .int .i64 b, .int .i64 c, .int .i64 bo, .int .i64 fr, .int .i64 tr, .int .i64 ag, .slice X ks.length cp] 6)) hB1
  have c1_7 : w1.cell? ⟨w.heap.size, 7, none⟩ = some (.slice X ks.length cp) := keep_cell (cell_over _ (box0 w 26 #[.int .i64 a, .int .i64 b, .int .i64 c, .int .i64 bo, .int .i64 fr, .int .i64 tr, .int .i64 ag, .slice X ks.length cp] 7)) hB1
  have c1_8 : w1.cell? ⟨w.heap.size + 1, 0, none⟩ = some (.int .i64 job) := keep_cell (box1 w 37 #[.int .i64 job, .int .i64 x1, .int .i64 x2, .int .i64 x3, .int .i64 x4, .int .i64 x5, .int .i64 x6, .bool t1, .bool t2, .bool t3, .int .u8 ph, .int .i64 tt, .int .i64 si] 0) hB1
  have c1_9 : w1.cell? ⟨w.heap.size + 1, 1, none⟩ = some (.int .i64 x1) := keep_cell (box1 w 37 #[.int .i64 job, .int .i64 x1, .int .i64 x2, .int .i64 x3, .int .i64 x4, .int .i64 x5, .int .i64 x6, .bool t1, .bool t2, .bool t3, .int .u8 ph, .int .i64 tt, .int .i64 si] 1) hB1
  have c1_10 : w1.cell? ⟨w.heap.size + 1, 2, none⟩ = some (.int .i64 x2) := keep_cell (box1 w 37 #[.int .i64 job, .int .i64 x1, .int .i64 x2, .int .i64 x3, .int .i64 x4, .int .i64 x5, .int .i64 x6, .bool t1, .bool t2, .bool t3, .int .u8 ph, .int .i64 tt, .int .i64 si] 2) hB1
  have c1_11 : w1.cell? ⟨w.heap.size + 1, 3, none⟩ = some (.int .i64 x3) := keep_cell (box1 w 37 #[.int .i64 job, .int .i64 x1, .int .i64 x2, .int .i64 x3, .int .i64 x4, .int .i64 x5, .int .i64 x6, .bool t1, .bool t2, .bool t3, .int .u8 ph, .int .i64 tt, .int .i64 si] 3) hB1
  have c1_12 : w1.cell? ⟨w.heap.size + 1, 4, none⟩ = some (.int .i64 x4) := keep_cell (box1 w 37 #[.int .i64 job, .int .i64 x1, .int .i64 x2, .int .i64 x3, .int .i64 x4, .int .i64 x5, .int .i64 x6, .bool t1, .bool t2, .bool t3, .int .u8 ph, .int .i64 tt, .int .i64 si] 4) hB1
  have c1_13 : w1.cell? ⟨w.heap.size + 1, 5, none⟩ = some (.int .i64 x5) := keep_cell (box1 w 37 #[.int .i64 job, .int .i64 x1, .int .i64 x2, .int .i64 x3, .int .i64 x4, .int .i64 x5, .int .i64 x6, .bool t1, .bool t2, .bool t3, .int .u8 ph, .int .i64 tt, .int .i64 si] 5) hB1
  have c1_14 : w1.cell? ⟨w.heap.size + 1, 6, none⟩ = some (.int .i64 x6) := keep_cell (box1 w 37 #[.int .i64 job, .int .i64 x1, .int .i64 x2, .int .i64 x3, .int .i64 x4, .int .i64 x5, .int .i64 x6, .bool t1, .bool t2, .bool t3, .int .u8 ph, .int .i64 tt, .int .i64 si] 6) hB1
  have c1_15 : w1.cell? ⟨w.heap.size + 1, 7, none⟩ = some (.bool t1) := keep_cell (box1 w 37 #[.int .i64 job, .int .i64 x1, .int .i64 x2, .int .i64 x3, .int .i64 x4, .int .i64 x5, .int .i64 x6, .bool t1, .bool t2, .bool t3, .int .u8 ph, .int .i64 tt, .int .i64 si] 7) hB1
  have c1_16 : w1.cell? ⟨w.heap.size + 1, 8, none⟩ = some (.bool t2) := keep_cell (box1 w 37 #[.int .i64 job, .int .i64 x1, .int .i64 x2, .int .i64 x3, .int .i64 x4, .int .i64 x5, .int .i64 x6, .bool t1, .bool t2, .bool t3, .int .u8 ph, .int .i64 tt, .int .i64 si] 8) hB1
  have c1_17 : w1.cell? ⟨w.heap.size + 1, 9, none⟩ = some (.bool t3) := keep_cell (box1 w 37 #[.int .i64 job, .int .i64 x1, .int .i64 x2, .int .i64 x3, .int .i64 x4, .int .i64 x5, .int .i64 x6, .bool t1, .bool t2, .bool t3, .int .u8 ph, .int .i64 tt, .int .i64 si] 9) hB1
  have c1_18 : w1.cell? ⟨w.heap.size + 1, 10, none⟩ = some (.int .u8 ph) := keep_cell (box1 w 37 #[.int .i64 job, .int .i64 x1, .int .i64 x2, .int .i64 x3, .int .i64 x4, .int .i64 x5, .int .i64 x6, .bool t1, .bool t2, .bool t3, .int .u8 ph, .int .i64 tt, .int .i64 si] 10) hB1
  have c1_19 : w1.cell? ⟨w.heap.size + 1, 11, none⟩ = some (.int .i64 tt) := keep_cell (box1 w 37 #[.int .i64 job, .int .i64 x1, .int .i64 x2, .int .i64 x3, .int .i64 x4, .int .i64 x5, .int .i64 x6, .bool t1, .bool t2, .bool t3, .int .u8 ph, .int .i64 tt, .int .i64 si] 11) hB1
  have c1_20 : w1.cell? ⟨w.heap.size + 1, 12, none⟩ = some (.int .i64 si) := keep_cell (box1 w 37 #[.int .i64 job, .int .i64 x1, .int .i64 x2, .int .i64 x3, .int .i64 x4, .int .i64 x5, .int .i64 x6, .bool t1, .bool t2, .bool t3, .int .u8 ph, .int .i64 tt, .int .i64 si] 12) hB1
  have z1_0 : w.heap.size < w1.heap.size := cell_lt c1_0
  have z1_1 : w.heap.size + 1 < w1.heap.size := cell_lt c1_8
  clear hB1  
  go_wp2_with fail
  go_ret2
  exact ⟨rfl, HB1.out⟩
set_option maxRecDepth 100000 in
set_option maxHeartbeats 2000000 in
theorem rturns_part (a b c bo fr tr ag : Int) (X : Option Addr) (cp : Nat) (ks : List Cls) (hl : ks.length ≤ 9223372036854775807) (job x1 x2 x3 x4 x5 x6 : Int) (t1 t2 t3 : Bool) (ph tt si : Int) (wall : Int) (h : CfgOk a b c bo fr tr ag ks) (hp : ¬ PartOk job ph tt si tr) (w : World) (hk : ClsAt w w.heap.size X ks) :
    Calls Try.prog 17 #[.agg #[.int .i64 a, .int .i64 b, .int .i64 c, .int .i64 bo, .int .i64 fr, .int .i64 tr, .int .i64 ag, .slice X ks.length cp], .agg #[.int .i64 job, .int .i64 x1, .int .i64 x2, .int .i64 x3, .int .i64 x4, .int .i64 x5, .int .i64 x6, .bool t1, .bool t2, .bool t3, .int .u8 ph, .int .i64 tt, .int .i64 si], .int .i64 wall] w (fun e w' => e = .returned (.tuple #[.int .i64 0, .int .i64 8]) ∧ Below w.heap.size w w') := by
  have HH := Lib.hid h
  have HKK := Lib.hid hk
  clear h hk
  have HP := Lib.hid hp
  clear hp
  go_enter Try.func17, Try.ntmps17
  go_wp2_with fail
  refine (asked_part a b c bo fr tr ag X cp ks hl job x1 x2 x3 x4 x5 x6 t1 t2 t3 ph tt si wall HH.out HP.out _ (HKK.out.up (below_alloc (below_alloc (Below.refl _ _))))).mono ?_
  rintro e w1 ⟨rfl, hB1⟩
  have HB1 : Hid (Below w.heap.size w w1) := below_up (below_alloc (below_alloc (Below.refl _ _))) hB1
  have c1_0 : w1.cell? ⟨w.heap.size, 0, none⟩ = some (.int .i64 a) := keep_cell (cell_over _ (box0 w 26 #[.int .i64 a, .int .i64 b, .int .i64 c, .int .i64 bo, .int .i64 fr, .int .i64 tr, .int .i64 ag, .slice X ks.length cp] 0)) hB1
  have c1_1 : w1.cell? ⟨w.heap.size, 1, none⟩ = some (.int .i64 b) := keep_cell (cell_over _ (box0 w 26 #[.int .i64 a, .int .i64 b, .int .i64 c, .int .i64 bo, .int .i64 fr, .int .i64 tr, .int .i64 ag, .slice X ks.length cp] 1)) hB1
  have c1_2 : w1.cell? ⟨w.heap.size, 2, none⟩ = some (.int .i64 c) := keep_cell (cell_over _ (box0 w 26 #[.int .i64 a, .int .i64 b, .int .i64 c, .int .i64 bo, .int .i64 fr, .int .i64 tr, .int .i64 ag, .slice X ks.length cp] 2)) hB1
  have c1_3 : w1.cell? ⟨w.heap.size, 3, none⟩ = some (.int .i64 bo) := keep_cell (cell_over _ (box0 w 26 #[.int .i64 a, .int .i64 b, .int .i64 c, .int .i64 bo, .int .i64 fr, .int .i64 tr, .int .i64 ag, .slice X ks.length cp] 3)) hB1
  have c1_4 : w1.cell? ⟨w.heap.size, 4, none⟩ = some (.int .i64 fr) := keep_cell (cell_over _ (box0 w 26 #[.int .i64 a, .int .i64 b, .int .i64 c, .int .i64 bo, .int .i64 fr, .int .i64 tr, .int .i64 ag, .slice X ks.length cp] 4)) hB1
  have c1_5 : w1.cell? ⟨w.heap.size, 5, none⟩ = some (.int .i64 tr) := keep_cell (cell_over _ (box0 w 26 #[.int .i64 a, .int .i64 b, .int .i64 c, .int .i64 bo, .int .i64 fr, .int .i64 tr, .int .i64 ag, .slice X ks.length cp] 5)) hB1
  have c1_6 : w1.cell? ⟨w.heap.size, 6, none⟩ = some (.int .i64 ag) := keep_cell (cell_over _ (box0 w 26 #[.int .i64 a, .int .i64 b, .int .i64 c, .int .i64 bo, .int .i64 fr, .int .i64 tr, .int .i64 ag, .slice X ks.length cp] 6)) hB1
  have c1_7 : w1.cell? ⟨w.heap.size, 7, none⟩ = some (.slice X ks.length cp) := keep_cell (cell_over _ (box0 w 26 #[.int .i64 a, .int .i64 b, .int .i64 c, .int .i64 bo, .int .i64 fr, .int .i64 tr, .int .i64 ag, .slice X ks.length cp] 7)) hB1
  have c1_8 : w1.cell? ⟨w.heap.size + 1, 0, none⟩ = some (.int .i64 job) := keep_cell (box1 w 37 #[.int .i64 job, .int .i64 x1, .int .i64 x2, .int .i64 x3, .int .i64 x4, .int .i64 x5, .int .i64 x6, .bool t1, .bool t2, .bool t3, .int .u8 ph, .int .i64 tt, .int .i64 si] 0) hB1
  have c1_9 : w1.cell? ⟨w.heap.size + 1, 1, none⟩ = some (.int .i64 x1) := keep_cell (box1 w 37 #[.int .i64 job, .int .i64 x1, .int .i64 x2, .int .i64 x3, .int .i64 x4, .int .i64 x5, .int .i64 x6, .bool t1, .bool t2, .bool t3, .int .u8 ph, .int .i64 tt, .int .i64 si] 1) hB1
  have c1_10 : w1.cell? ⟨w.heap.size + 1, 2, none⟩ = some (.int .i64 x2) := keep_cell (box1 w 37 #[.int .i64 job, .int .i64 x1, .int .i64 x2, .int .i64 x3, .int .i64 x4, .int .i64 x5, .int .i64 x6, .bool t1, .bool t2, .bool t3, .int .u8 ph, .int .i64 tt, .int .i64 si] 2) hB1
  have c1_11 : w1.cell? ⟨w.heap.size + 1, 3, none⟩ = some (.int .i64 x3) := keep_cell (box1 w 37 #[.int .i64 job, .int .i64 x1, .int .i64 x2, .int .i64 x3, .int .i64 x4, .int .i64 x5, .int .i64 x6, .bool t1, .bool t2, .bool t3, .int .u8 ph, .int .i64 tt, .int .i64 si] 3) hB1
  have c1_12 : w1.cell? ⟨w.heap.size + 1, 4, none⟩ = some (.int .i64 x4) := keep_cell (box1 w 37 #[.int .i64 job, .int .i64 x1, .int .i64 x2, .int .i64 x3, .int .i64 x4, .int .i64 x5, .int .i64 x6, .bool t1, .bool t2, .bool t3, .int .u8 ph, .int .i64 tt, .int .i64 si] 4) hB1
  have c1_13 : w1.cell? ⟨w.heap.size + 1, 5, none⟩ = some (.int .i64 x5) := keep_cell (box1 w 37 #[.int .i64 job, .int .i64 x1, .int .i64 x2, .int .i64 x3, .int .i64 x4, .int .i64 x5, .int .i64 x6, .bool t1, .bool t2, .bool t3, .int .u8 ph, .int .i64 tt, .int .i64 si] 5) hB1
  have c1_14 : w1.cell? ⟨w.heap.size + 1, 6, none⟩ = some (.int .i64 x6) := keep_cell (box1 w 37 #[.int .i64 job, .int .i64 x1, .int .i64 x2, .int .i64 x3, .int .i64 x4, .int .i64 x5, .int .i64 x6, .bool t1, .bool t2, .bool t3, .int .u8 ph, .int .i64 tt, .int .i64 si] 6) hB1
  have c1_15 : w1.cell? ⟨w.heap.size + 1, 7, none⟩ = some (.bool t1) := keep_cell (box1 w 37 #[.int .i64 job, .int .i64 x1, .int .i64 x2, .int .i64 x3, .int .i64 x4, .int .i64 x5, .int .i64 x6, .bool t1, .bool t2, .bool t3, .int .u8 ph, .int .i64 tt, .int .i64 si] 7) hB1
  have c1_16 : w1.cell? ⟨w.heap.size + 1, 8, none⟩ = some (.bool t2) := keep_cell (box1 w 37 #[.int .i64 job, .int .i64 x1, .int .i64 x2, .int .i64 x3, .int .i64 x4, .int .i64 x5, .int .i64 x6, .bool t1, .bool t2, .bool t3, .int .u8 ph, .int .i64 tt, .int .i64 si] 8) hB1
  have c1_17 : w1.cell? ⟨w.heap.size + 1, 9, none⟩ = some (.bool t3) := keep_cell (box1 w 37 #[.int .i64 job, .int .i64 x1, .int .i64 x2, .int .i64 x3, .int .i64 x4, .int .i64 x5, .int .i64 x6, .bool t1, .bool t2, .bool t3, .int .u8 ph, .int .i64 tt, .int .i64 si] 9) hB1
  have c1_18 : w1.cell? ⟨w.heap.size + 1, 10, none⟩ = some (.int .u8 ph) := keep_cell (box1 w 37 #[.int .i64 job, .int .i64 x1, .int .i64 x2, .int .i64 x3, .int .i64 x4, .int .i64 x5, .int .i64 x6, .bool t1, .bool t2, .bool t3, .int .u8 ph, .int .i64 tt, .int .i64 si] 10) hB1
  have c1_19 : w1.cell? ⟨w.heap.size + 1, 11, none⟩ = some (.int .i64 tt) := keep_cell (box1 w 37 #[.int .i64 job, .int .i64 x1, .int .i64 x2, .int .i64 x3, .int .i64 x4, .int .i64 x5, .int .i64 x6, .bool t1, .bool t2, .bool t3, .int .u8 ph, .int .i64 tt, .int .i64 si] 11) hB1
  have c1_20 : w1.cell? ⟨w.heap.size + 1, 12, none⟩ = some (.int .i64 si) := keep_cell (box1 w 37 #[.int .i64 job, .int .i64 x1, .int .i64 x2, .int .i64 x3, .int .i64 x4, .int .i64 x5, .int .i64 x6, .bool t1, .bool t2, .bool t3, .int .u8 ph, .int .i64 tt, .int .i64 si] 12) hB1
  have z1_0 : w.heap.size < w1.heap.size := cell_lt c1_0
  have z1_1 : w.heap.size + 1 < w1.heap.size := cell_lt c1_8
  clear hB1  
  go_wp2_with fail
  go_ret2
  exact ⟨rfl, HB1.out⟩
set_option maxRecDepth 100000 in
set_option maxHeartbeats 2000000 in
theorem rturns_wall (a b c bo fr tr ag : Int) (X : Option Addr) (cp : Nat) (ks : List Cls) (hl : ks.length ≤ 9223372036854775807) (job x1 x2 x3 x4 x5 x6 : Int) (t1 t2 t3 : Bool) (ph tt si : Int) (wall : Int) (h : CfgOk a b c bo fr tr ag ks) (hp : PartOk job ph tt si tr) (hW : inB wall 1 1048576 = false) (w : World) (hk : ClsAt w w.heap.size X ks) :
    Calls Try.prog 17 #[.agg #[.int .i64 a, .int .i64 b, .int .i64 c, .int .i64 bo, .int .i64 fr, .int .i64 tr, .int .i64 ag, .slice X ks.length cp], .agg #[.int .i64 job, .int .i64 x1, .int .i64 x2, .int .i64 x3, .int .i64 x4, .int .i64 x5, .int .i64 x6, .bool t1, .bool t2, .bool t3, .int .u8 ph, .int .i64 tt, .int .i64 si], .int .i64 wall] w (fun e w' => e = .returned (.tuple #[.int .i64 0, .int .i64 2]) ∧ Below w.heap.size w w') := by
  have HH := Lib.hid h
  have HKK := Lib.hid hk
  clear h hk
  have HP := Lib.hid hp
  clear hp
  have HW := Lib.hid hW
  clear hW
  go_enter Try.func17, Try.ntmps17
  go_wp2_with fail
  refine (asked_wall a b c bo fr tr ag X cp ks hl job x1 x2 x3 x4 x5 x6 t1 t2 t3 ph tt si wall HH.out HP.out HW.out _ (HKK.out.up (below_alloc (below_alloc (Below.refl _ _))))).mono ?_
  rintro e w1 ⟨rfl, hB1⟩
  have HB1 : Hid (Below w.heap.size w w1) := below_up (below_alloc (below_alloc (Below.refl _ _))) hB1
  have c1_0 : w1.cell? ⟨w.heap.size, 0, none⟩ = some (.int .i64 a) := keep_cell (cell_over _ (box0 w 26 #[.int .i64 a, .int .i64 b, .int .i64 c, .int .i64 bo, .int .i64 fr, .int .i64 tr, .int .i64 ag, .slice X ks.length cp] 0)) hB1
  have c1_1 : w1.cell? ⟨w.heap.size, 1, none⟩ = some (.int .i64 b) := keep_cell (cell_over _ (box0 w 26 #[.int .i64 a, .int .i64 b, .int .i64 c, .int .i64 bo, .int .i64 fr, .int .i64 tr, .int .i64 ag, .slice X ks.length cp] 1)) hB1
  have c1_2 : w1.cell? ⟨w.heap.size, 2, none⟩ = some (.int .i64 c) := keep_cell (cell_over _ (box0 w 26 #[.int .i64 a, .int .i64 b, .int .i64 c, .int .i64 bo, .int .i64 fr, .int .i64 tr, .int .i64 ag, .slice X ks.length cp] 2)) hB1
  have c1_3 : w1.cell? ⟨w.heap.size, 3, none⟩ = some (.int .i64 bo) := keep_cell (cell_over _ (box0 w 26 #[.int .i64 a, .int .i64 b, .int .i64 c, .int .i64 bo, .int .i64 fr, .int .i64 tr, .int .i64 ag, .slice X ks.length cp] 3)) hB1
  have c1_4 : w1.cell? ⟨w.heap.size, 4, none⟩ = some (.int .i64 fr) := keep_cell (cell_over _ (box0 w 26 #[.int .i64 a, .int .i64 b, .int .i64 c, .int .i64 bo, .int .i64 fr, .int .i64 tr, .int .i64 ag, .slice X ks.length cp] 4)) hB1
  have c1_5 : w1.cell? ⟨w.heap.size, 5, none⟩ = some (.int .i64 tr) := keep_cell (cell_over _ (box0 w 26 #[.int .i64 a, .int .i64 b, .int .i64 c, .int .i64 bo, .int .i64 fr, .int .i64 tr, .int .i64 ag, .slice X ks.length cp] 5)) hB1
  have c1_6 : w1.cell? ⟨w.heap.size, 6, none⟩ = some (.int .i64 ag) := keep_cell (cell_over _ (box0 w 26 #[.int .i64 a, .int .i64 b, .int .i64 c, .int .i64 bo, .int .i64 fr, .int .i64 tr, .int .i64 ag, .slice X ks.length cp] 6)) hB1
  have c1_7 : w1.cell? ⟨w.heap.size, 7, none⟩ = some (.slice X ks.length cp) := keep_cell (cell_over _ (box0 w 26 #[.int .i64 a, .int .i64 b, .int .i64 c, .int .i64 bo, .int .i64 fr, .int .i64 tr, .int .i64 ag, .slice X ks.length cp] 7)) hB1
  have c1_8 : w1.cell? ⟨w.heap.size + 1, 0, none⟩ = some (.int .i64 job) := keep_cell (box1 w 37 #[.int .i64 job, .int .i64 x1, .int .i64 x2, .int .i64 x3, .int .i64 x4, .int .i64 x5, .int .i64 x6, .bool t1, .bool t2, .bool t3, .int .u8 ph, .int .i64 tt, .int .i64 si] 0) hB1
  have c1_9 : w1.cell? ⟨w.heap.size + 1, 1, none⟩ = some (.int .i64 x1) := keep_cell (box1 w 37 #[.int .i64 job, .int .i64 x1, .int .i64 x2, .int .i64 x3, .int .i64 x4, .int .i64 x5, .int .i64 x6, .bool t1, .bool t2, .bool t3, .int .u8 ph, .int .i64 tt, .int .i64 si] 1) hB1
  have c1_10 : w1.cell? ⟨w.heap.size + 1, 2, none⟩ = some (.int .i64 x2) := keep_cell (box1 w 37 #[.int .i64 job, .int .i64 x1, .int .i64 x2, .int .i64 x3, .int .i64 x4, .int .i64 x5, .int .i64 x6, .bool t1, .bool t2, .bool t3, .int .u8 ph, .int .i64 tt, .int .i64 si] 2) hB1
  have c1_11 : w1.cell? ⟨w.heap.size + 1, 3, none⟩ = some (.int .i64 x3) := keep_cell (box1 w 37 #[.int .i64 job, .int .i64 x1, .int .i64 x2, .int .i64 x3, .int .i64 x4, .int .i64 x5, .int .i64 x6, .bool t1, .bool t2, .bool t3, .int .u8 ph, .int .i64 tt, .int .i64 si] 3) hB1
  have c1_12 : w1.cell? ⟨w.heap.size + 1, 4, none⟩ = some (.int .i64 x4) := keep_cell (box1 w 37 #[.int .i64 job, .int .i64 x1, .int .i64 x2, .int .i64 x3, .int .i64 x4, .int .i64 x5, .int .i64 x6, .bool t1, .bool t2, .bool t3, .int .u8 ph, .int .i64 tt, .int .i64 si] 4) hB1
  have c1_13 : w1.cell? ⟨w.heap.size + 1, 5, none⟩ = some (.int .i64 x5) := keep_cell (box1 w 37 #[.int .i64 job, .int .i64 x1, .int .i64 x2, .int .i64 x3, .int .i64 x4, .int .i64 x5, .int .i64 x6, .bool t1, .bool t2, .bool t3, .int .u8 ph, .int .i64 tt, .int .i64 si] 5) hB1
  have c1_14 : w1.cell? ⟨w.heap.size + 1, 6, none⟩ = some (.int .i64 x6) := keep_cell (box1 w 37 #[.int .i64 job, .int .i64 x1, .int .i64 x2, .int .i64 x3, .int .i64 x4, .int .i64 x5, .int .i64 x6, .bool t1, .bool t2, .bool t3, .int .u8 ph, .int .i64 tt, .int .i64 si] 6) hB1
  have c1_15 : w1.cell? ⟨w.heap.size + 1, 7, none⟩ = some (.bool t1) := keep_cell (box1 w 37 #[.int .i64 job, .int .i64 x1, .int .i64 x2, .int .i64 x3, .int .i64 x4, .int .i64 x5, .int .i64 x6, .bool t1, .bool t2, .bool t3, .int .u8 ph, .int .i64 tt, .int .i64 si] 7) hB1
  have c1_16 : w1.cell? ⟨w.heap.size + 1, 8, none⟩ = some (.bool t2) := keep_cell (box1 w 37 #[.int .i64 job, .int .i64 x1, .int .i64 x2, .int .i64 x3, .int .i64 x4, .int .i64 x5, .int .i64 x6, .bool t1, .bool t2, .bool t3, .int .u8 ph, .int .i64 tt, .int .i64 si] 8) hB1
  have c1_17 : w1.cell? ⟨w.heap.size + 1, 9, none⟩ = some (.bool t3) := keep_cell (box1 w 37 #[.int .i64 job, .int .i64 x1, .int .i64 x2, .int .i64 x3, .int .i64 x4, .int .i64 x5, .int .i64 x6, .bool t1, .bool t2, .bool t3, .int .u8 ph, .int .i64 tt, .int .i64 si] 9) hB1
  have c1_18 : w1.cell? ⟨w.heap.size + 1, 10, none⟩ = some (.int .u8 ph) := keep_cell (box1 w 37 #[.int .i64 job, .int .i64 x1, .int .i64 x2, .int .i64 x3, .int .i64 x4, .int .i64 x5, .int .i64 x6, .bool t1, .bool t2, .bool t3, .int .u8 ph, .int .i64 tt, .int .i64 si] 10) hB1
  have c1_19 : w1.cell? ⟨w.heap.size + 1, 11, none⟩ = some (.int .i64 tt) := keep_cell (box1 w 37 #[.int .i64 job, .int .i64 x1, .int .i64 x2, .int .i64 x3, .int .i64 x4, .int .i64 x5, .int .i64 x6, .bool t1, .bool t2, .bool t3, .int .u8 ph, .int .i64 tt, .int .i64 si] 11) hB1
  have c1_20 : w1.cell? ⟨w.heap.size + 1, 12, none⟩ = some (.int .i64 si) := keep_cell (box1 w 37 #[.int .i64 job, .int .i64 x1, .int .i64 x2, .int .i64 x3, .int .i64 x4, .int .i64 x5, .int .i64 x6, .bool t1, .bool t2, .bool t3, .int .u8 ph, .int .i64 tt, .int .i64 si] 12) hB1
  have z1_0 : w.heap.size < w1.heap.size := cell_lt c1_0
  have z1_1 : w.heap.size + 1 < w1.heap.size := cell_lt c1_8
  clear hB1  
  go_wp2_with fail
  go_ret2
  exact ⟨rfl, HB1.out⟩
set_option maxRecDepth 100000 in
set_option maxHeartbeats 2000000 in
theorem rturns1 (a b c bo fr tr ag : Int) (X : Option Addr) (cp : Nat) (ks : List Cls) (hl : ks.length ≤ 9223372036854775807) (job x1 x2 x3 x4 x5 x6 : Int) (t1 t2 t3 : Bool) (tt si : Int) (wall : Int) (h : CfgOk a b c bo fr tr ag ks) (hp : PartOk job 1 tt si tr) (hW : inB wall 1 1048576 = true) (w : World) (hk : ClsAt w w.heap.size X ks) :
    Calls Try.prog 17 #[.agg #[.int .i64 a, .int .i64 b, .int .i64 c, .int .i64 bo, .int .i64 fr, .int .i64 tr, .int .i64 ag, .slice X ks.length cp], .agg #[.int .i64 job, .int .i64 x1, .int .i64 x2, .int .i64 x3, .int .i64 x4, .int .i64 x5, .int .i64 x6, .bool t1, .bool t2, .bool t3, .int .u8 1, .int .i64 tt, .int .i64 si], .int .i64 wall] w (fun e w' => e = .returned (.tuple #[.int .i64 (capM (si + clockR 1 bo wall fr)), .int .i64 0]) ∧ Below w.heap.size w w') := by
  have hv : si + clockR 1 bo wall fr = si + bo := by simp [clockR]
  rw [hv]
  obtain ⟨⟨b1, b2⟩, ⟨f1, f2⟩, ⟨w1_, w2_⟩, ⟨s1, s2⟩⟩ := facts h hp hW
  have HF := Lib.hid (And.intro (And.intro b1 b2) (And.intro (And.intro f1 f2) (And.intro w1_ w2_)))
  have HS := Lib.hid (And.intro s1 s2)
  have HH := Lib.hid h
  have HKK := Lib.hid hk
  have HP := Lib.hid hp
  have HW := Lib.hid hW
  clear h hk hp hW hv
  by_cases hv : si + bo ≤ 1099511627776
  · have HV := Lib.hid hv
    go_enter Try.func17, Try.ntmps17
    go_wp2_with fail
    refine (asked_ok a b c bo fr tr ag X cp ks hl job x1 x2 x3 x4 x5 x6 t1 t2 t3 1 tt si wall HH.out HP.out HW.out _ (HKK.out.up (below_alloc (below_alloc (Below.refl _ _))))).mono ?_
    rintro e w1 ⟨rfl, hB1⟩
    have HB1 : Hid (Below w.heap.size w w1) := below_up (below_alloc (below_alloc (Below.refl _ _))) hB1
    have c1_0 : w1.cell? ⟨w.heap.size, 0, none⟩ = some (.int .i64 a) := keep_cell (cell_over _ (box0 w 26 #[.int .i64 a, .int .i64 b, .int .i64 c, .int .i64 bo, .int .i64 fr, .int .i64 tr, .int .i64 ag, .slice X ks.length cp] 0)) hB1
    have c1_1 : w1.cell? ⟨w.heap.size, 1, none⟩ = some (.int .i64 b) := keep_cell (cell_over _ (box0 w 26 #[.int .i64 a, .int .i64 b, .int .i64 c, .int .i64 bo, .int .i64 fr, .int .i64 tr, .int .i64 ag, .slice X ks.length cp] 1)) hB1
    have c1_2 : w1.cell? ⟨w.heap.size, 2, none⟩ = some (.int .i64 c) := keep_cell (cell_over _ (box0 w 26 #[.int .i64 a, .int .i64 b, .int .i64 c, .int .i64 bo, .int .i64 fr, .int .i64 tr, .int .i64 ag, .slice X ks.length cp] 2)) hB1
    have c1_3 : w1.cell? ⟨w.heap.size, 3, none⟩ = some (.int .i64 bo) := keep_cell (cell_over _ (box0 w 26 #[.int .i64 a, .int .i64 b, .int .i64 c, .int .i64 bo, .int .i64 fr, .int .i64 tr, .int .i64 ag, .slice X ks.length cp] 3)) hB1
    have c1_4 : w1.cell? ⟨w.heap.size, 4, none⟩ = some (.int .i64 fr) := keep_cell (cell_over _ (box0 w 26 #[.int .i64 a, .int .i64 b, .int .i64 c, .int .i64 bo, .int .i64 fr, .int .i64 tr, .int .i64 ag, .slice X ks.length cp] 4)) hB1
    have c1_5 : w1.cell? ⟨w.heap.size, 5, none⟩ = some (.int .i64 tr) := keep_cell (cell_over _ (box0 w 26 #[.int .i64 a, .int .i64 b, .int .i64 c, .int .i64 bo, .int .i64 fr, .int .i64 tr, .int .i64 ag, .slice X ks.length cp] 5)) hB1
    have c1_6 : w1.cell? ⟨w.heap.size, 6, none⟩ = some (.int .i64 ag) := keep_cell (cell_over _ (box0 w 26 #[.int .i64 a, .int .i64 b, .int .i64 c, .int .i64 bo, .int .i64 fr, .int .i64 tr, .int .i64 ag, .slice X ks.length cp] 6)) hB1
    have c1_7 : w1.cell? ⟨w.heap.size, 7, none⟩ = some (.slice X ks.length cp) := keep_cell (cell_over _ (box0 w 26 #[.int .i64 a, .int .i64 b, .int .i64 c, .int .i64 bo, .int .i64 fr, .int .i64 tr, .int .i64 ag, .slice X ks.length cp] 7)) hB1
    have c1_8 : w1.cell? ⟨w.heap.size + 1, 0, none⟩ = some (.int .i64 job) := keep_cell (box1 w 37 #[.int .i64 job, .int .i64 x1, .int .i64 x2, .int .i64 x3, .int .i64 x4, .int .i64 x5, .int .i64 x6, .bool t1, .bool t2, .bool t3, .int .u8 1, .int .i64 tt, .int .i64 si] 0) hB1
    have c1_9 : w1.cell? ⟨w.heap.size + 1, 1, none⟩ = some (.int .i64 x1) := keep_cell (box1 w 37 #[.int .i64 job, .int .i64 x1, .int .i64 x2, .int .i64 x3, .int .i64 x4, .int .i64 x5, .int .i64 x6, .bool t1, .bool t2, .bool t3, .int .u8 1, .int .i64 tt, .int .i64 si] 1) hB1
    have c1_10 : w1.cell? ⟨w.heap.size + 1, 2, none⟩ = some (.int .i64 x2) := keep_cell (box1 w 37 #[.int .i64 job, .int .i64 x1, .int .i64 x2, .int .i64 x3, .int .i64 x4, .int .i64 x5, .int .i64 x6, .bool t1, .bool t2, .bool t3, .int .u8 1, .int .i64 tt, .int .i64 si] 2) hB1
    have c1_11 : w1.cell? ⟨w.heap.size + 1, 3, none⟩ = some (.int .i64 x3) := keep_cell (box1 w 37 #[.int .i64 job, .int .i64 x1, .int .i64 x2, .int .i64 x3, .int .i64 x4, .int .i64 x5, .int .i64 x6, .bool t1, .bool t2, .bool t3, .int .u8 1, .int .i64 tt, .int .i64 si] 3) hB1
    have c1_12 : w1.cell? ⟨w.heap.size + 1, 4, none⟩ = some (.int .i64 x4) := keep_cell (box1 w 37 #[.int .i64 job, .int .i64 x1, .int .i64 x2, .int .i64 x3, .int .i64 x4, .int .i64 x5, .int .i64 x6, .bool t1, .bool t2, .bool t3, .int .u8 1, .int .i64 tt, .int .i64 si] 4) hB1
    have c1_13 : w1.cell? ⟨w.heap.size + 1, 5, none⟩ = some (.int .i64 x5) := keep_cell (box1 w 37 #[.int .i64 job, .int .i64 x1, .int .i64 x2, .int .i64 x3, .int .i64 x4, .int .i64 x5, .int .i64 x6, .bool t1, .bool t2, .bool t3, .int .u8 1, .int .i64 tt, .int .i64 si] 5) hB1
    have c1_14 : w1.cell? ⟨w.heap.size + 1, 6, none⟩ = some (.int .i64 x6) := keep_cell (box1 w 37 #[.int .i64 job, .int .i64 x1, .int .i64 x2, .int .i64 x3, .int .i64 x4, .int .i64 x5, .int .i64 x6, .bool t1, .bool t2, .bool t3, .int .u8 1, .int .i64 tt, .int .i64 si] 6) hB1
    have c1_15 : w1.cell? ⟨w.heap.size + 1, 7, none⟩ = some (.bool t1) := keep_cell (box1 w 37 #[.int .i64 job, .int .i64 x1, .int .i64 x2, .int .i64 x3, .int .i64 x4, .int .i64 x5, .int .i64 x6, .bool t1, .bool t2, .bool t3, .int .u8 1, .int .i64 tt, .int .i64 si] 7) hB1
    have c1_16 : w1.cell? ⟨w.heap.size + 1, 8, none⟩ = some (.bool t2) := keep_cell (box1 w 37 #[.int .i64 job, .int .i64 x1, .int .i64 x2, .int .i64 x3, .int .i64 x4, .int .i64 x5, .int .i64 x6, .bool t1, .bool t2, .bool t3, .int .u8 1, .int .i64 tt, .int .i64 si] 8) hB1
    have c1_17 : w1.cell? ⟨w.heap.size + 1, 9, none⟩ = some (.bool t3) := keep_cell (box1 w 37 #[.int .i64 job, .int .i64 x1, .int .i64 x2, .int .i64 x3, .int .i64 x4, .int .i64 x5, .int .i64 x6, .bool t1, .bool t2, .bool t3, .int .u8 1, .int .i64 tt, .int .i64 si] 9) hB1
    have c1_18 : w1.cell? ⟨w.heap.size + 1, 10, none⟩ = some (.int .u8 1) := keep_cell (box1 w 37 #[.int .i64 job, .int .i64 x1, .int .i64 x2, .int .i64 x3, .int .i64 x4, .int .i64 x5, .int .i64 x6, .bool t1, .bool t2, .bool t3, .int .u8 1, .int .i64 tt, .int .i64 si] 10) hB1
    have c1_19 : w1.cell? ⟨w.heap.size + 1, 11, none⟩ = some (.int .i64 tt) := keep_cell (box1 w 37 #[.int .i64 job, .int .i64 x1, .int .i64 x2, .int .i64 x3, .int .i64 x4, .int .i64 x5, .int .i64 x6, .bool t1, .bool t2, .bool t3, .int .u8 1, .int .i64 tt, .int .i64 si] 11) hB1
    have c1_20 : w1.cell? ⟨w.heap.size + 1, 12, none⟩ = some (.int .i64 si) := keep_cell (box1 w 37 #[.int .i64 job, .int .i64 x1, .int .i64 x2, .int .i64 x3, .int .i64 x4, .int .i64 x5, .int .i64 x6, .bool t1, .bool t2, .bool t3, .int .u8 1, .int .i64 tt, .int .i64 si] 12) hB1
    have z1_0 : w.heap.size < w1.heap.size := cell_lt c1_0
    have z1_1 : w.heap.size + 1 < w1.heap.size := cell_lt c1_8
    clear hB1  
    go_wp2_with fail
    refine (rclock1 a b c bo fr tr ag X cp ks job x1 x2 x3 x4 x5 x6 t1 t2 t3 tt si wall HF.out.1.1 HF.out.1.2 HF.out.2.1.1 HF.out.2.1.2 HF.out.2.2.1 HF.out.2.2.2 HS.out.1 HS.out.2 _).mono ?_
    rintro e w2 ⟨rfl, hB2⟩
    have HB2 : Hid (Below w.heap.size w w2) := below_up HB1.out hB2
    have c2_0 : w2.cell? ⟨w.heap.size, 0, none⟩ = some (.int .i64 a) := keep_cell c1_0 hB2
    have c2_1 : w2.cell? ⟨w.heap.size, 1, none⟩ = some (.int .i64 b) := keep_cell c1_1 hB2
    have c2_2 : w2.cell? ⟨w.heap.size, 2, none⟩ = some (.int .i64 c) := keep_cell c1_2 hB2
    have c2_3 : w2.cell? ⟨w.heap.size, 3, none⟩ = some (.int .i64 bo) := keep_cell c1_3 hB2
    have c2_4 : w2.cell? ⟨w.heap.size, 4, none⟩ = some (.int .i64 fr) := keep_cell c1_4 hB2
    have c2_5 : w2.cell? ⟨w.heap.size, 5, none⟩ = some (.int .i64 tr) := keep_cell c1_5 hB2
    have c2_6 : w2.cell? ⟨w.heap.size, 6, none⟩ = some (.int .i64 ag) := keep_cell c1_6 hB2
    have c2_7 : w2.cell? ⟨w.heap.size, 7, none⟩ = some (.slice X ks.length cp) := keep_cell c1_7 hB2
    have c2_8 : w2.cell? ⟨w.heap.size + 1, 0, none⟩ = some (.int .i64 job) := keep_cell c1_8 hB2
    have c2_9 : w2.cell? ⟨w.heap.size + 1, 1, none⟩ = some (.int .i64 x1) := keep_cell c1_9 hB2
    have c2_10 : w2.cell? ⟨w.heap.size + 1, 2, none⟩ = some (.int .i64 x2) := keep_cell c1_10 hB2
    have c2_11 : w2.cell? ⟨w.heap.size + 1, 3, none⟩ = some (.int .i64 x3) := keep_cell c1_11 hB2
    have c2_12 : w2.cell? ⟨w.heap.size + 1, 4, none⟩ = some (.int .i64 x4) := keep_cell c1_12 hB2
    have c2_13 : w2.cell? ⟨w.heap.size + 1, 5, none⟩ = some (.int .i64 x5) := keep_cell c1_13 hB2
    have c2_14 : w2.cell? ⟨w.heap.size + 1, 6, none⟩ = some (.int .i64 x6) := keep_cell c1_14 hB2
    have c2_15 : w2.cell? ⟨w.heap.size + 1, 7, none⟩ = some (.bool t1) := keep_cell c1_15 hB2
    have c2_16 : w2.cell? ⟨w.heap.size + 1, 8, none⟩ = some (.bool t2) := keep_cell c1_16 hB2
    have c2_17 : w2.cell? ⟨w.heap.size + 1, 9, none⟩ = some (.bool t3) := keep_cell c1_17 hB2
    have c2_18 : w2.cell? ⟨w.heap.size + 1, 10, none⟩ = some (.int .u8 1) := keep_cell c1_18 hB2
    have c2_19 : w2.cell? ⟨w.heap.size + 1, 11, none⟩ = some (.int .i64 tt) := keep_cell c1_19 hB2
    have c2_20 : w2.cell? ⟨w.heap.size + 1, 12, none⟩ = some (.int .i64 si) := keep_cell c1_20 hB2
    have z2_0 : w.heap.size < w2.heap.size := cell_lt c2_0
    have z2_1 : w.heap.size + 1 < w2.heap.size := cell_lt c2_8
    clear hB2 c1_0 c1_1 c1_2 c1_3 c1_4 c1_5 c1_6 c1_7 c1_8 c1_9 c1_10 c1_11 c1_12 c1_13 c1_14 c1_15 c1_16 c1_17 c1_18 c1_19 c1_20 z1_0 z1_1
    go_wp2_with fail
    go_ret2
    exact ⟨ret_pair (by rw [capM_lo (v := si + bo) (by have := HV.out; omega)]), HB2.out⟩
  · have HV := Lib.hid hv
    go_enter Try.func17, Try.ntmps17
    go_wp2_with fail
    refine (asked_ok a b c bo fr tr ag X cp ks hl job x1 x2 x3 x4 x5 x6 t1 t2 t3 1 tt si wall HH.out HP.out HW.out _ (HKK.out.up (below_alloc (below_alloc (Below.refl _ _))))).mono ?_
    rintro e w1 ⟨rfl, hB1⟩
    have HB1 : Hid (Below w.heap.size w w1) := below_up (below_alloc (below_alloc (Below.refl _ _))) hB1
    have c1_0 : w1.cell? ⟨w.heap.size, 0, none⟩ = some (.int .i64 a) := keep_cell (cell_over _ (box0 w 26 #[.int .i64 a, .int .i64 b, .int .i64 c, .int .i64 bo, .int .i64 fr, .int .i64 tr, .int .i64 ag, .slice X ks.length cp] 0)) hB1
    have c1_1 : w1.cell? ⟨w.heap.size, 1, none⟩ = some (.int .i64 b) := keep_cell (cell_over _ (box0 w 26 #[.int .i64 a, .int .i64 b, .int .i64 c, .int .i64 bo, .int .i64 fr, .int .i64 tr, .int .i64 ag, .slice X ks.length cp] 1)) hB1
    have c1_2 : w1.cell? ⟨w.heap.size, 2, none⟩ = some (.int .i64 c) := keep_cell (cell_over _ (box0 w 26 #[.int .i64 a, .int .i64 b, .int .i64 c, .int .i64 bo, .int .i64 fr, .int .i64 tr, .int .i64 ag, .slice X ks.length cp] 2)) hB1
    have c1_3 : w1.cell? ⟨w.heap.size, 3, none⟩ = some (.int .i64 bo) := keep_cell (cell_over _ (box0 w 26 #[.int .i64 a, .int .i64 b, .int .i64 c, .int .i64 bo, .int .i64 fr, .int .i64 tr, .int .i64 ag, .slice X ks.length cp] 3)) hB1
    have c1_4 : w1.cell? ⟨w.heap.size, 4, none⟩ = some (.int .i64 fr) := keep_cell (cell_over _ (box0 w 26 #[.int .i64 a, .int .i64 b, .int .i64 c, .int .i64 bo, .int .i64 fr, .int .i64 tr, .int .i64 ag, .slice X ks.length cp] 4)) hB1
    have c1_5 : w1.cell? ⟨w.heap.size, 5, none⟩ = some (.int .i64 tr) := keep_cell (cell_over _ (box0 w 26 #[.int .i64 a, .int .i64 b, .int .i64 c, .int .i64 bo, .int .i64 fr, .int .i64 tr, .int .i64 ag, .slice X ks.length cp] 5)) hB1
    have c1_6 : w1.cell? ⟨w.heap.size, 6, none⟩ = some (.int .i64 ag) := keep_cell (cell_over _ (box0 w 26 #[.int .i64 a, .int .i64 b, .int .i64 c, .int .i64 bo, .int .i64 fr, .int .i64 tr, .int .i64 ag, .slice X ks.length cp] 6)) hB1
    have c1_7 : w1.cell? ⟨w.heap.size, 7, none⟩ = some (.slice X ks.length cp) := keep_cell (cell_over _ (box0 w 26 #[.int .i64 a, .int .i64 b, .int .i64 c, .int .i64 bo, .int .i64 fr, .int .i64 tr, .int .i64 ag, .slice X ks.length cp] 7)) hB1
    have c1_8 : w1.cell? ⟨w.heap.size + 1, 0, none⟩ = some (.int .i64 job) := keep_cell (box1 w 37 #[.int .i64 job, .int .i64 x1, .int .i64 x2, .int .i64 x3, .int .i64 x4, .int .i64 x5, .int .i64 x6, .bool t1, .bool t2, .bool t3, .int .u8 1, .int .i64 tt, .int .i64 si] 0) hB1
    have c1_9 : w1.cell? ⟨w.heap.size + 1, 1, none⟩ = some (.int .i64 x1) := keep_cell (box1 w 37 #[.int .i64 job, .int .i64 x1, .int .i64 x2, .int .i64 x3, .int .i64 x4, .int .i64 x5, .int .i64 x6, .bool t1, .bool t2, .bool t3, .int .u8 1, .int .i64 tt, .int .i64 si] 1) hB1
    have c1_10 : w1.cell? ⟨w.heap.size + 1, 2, none⟩ = some (.int .i64 x2) := keep_cell (box1 w 37 #[.int .i64 job, .int .i64 x1, .int .i64 x2, .int .i64 x3, .int .i64 x4, .int .i64 x5, .int .i64 x6, .bool t1, .bool t2, .bool t3, .int .u8 1, .int .i64 tt, .int .i64 si] 2) hB1
    have c1_11 : w1.cell? ⟨w.heap.size + 1, 3, none⟩ = some (.int .i64 x3) := keep_cell (box1 w 37 #[.int .i64 job, .int .i64 x1, .int .i64 x2, .int .i64 x3, .int .i64 x4, .int .i64 x5, .int .i64 x6, .bool t1, .bool t2, .bool t3, .int .u8 1, .int .i64 tt, .int .i64 si] 3) hB1
    have c1_12 : w1.cell? ⟨w.heap.size + 1, 4, none⟩ = some (.int .i64 x4) := keep_cell (box1 w 37 #[.int .i64 job, .int .i64 x1, .int .i64 x2, .int .i64 x3, .int .i64 x4, .int .i64 x5, .int .i64 x6, .bool t1, .bool t2, .bool t3, .int .u8 1, .int .i64 tt, .int .i64 si] 4) hB1
    have c1_13 : w1.cell? ⟨w.heap.size + 1, 5, none⟩ = some (.int .i64 x5) := keep_cell (box1 w 37 #[.int .i64 job, .int .i64 x1, .int .i64 x2, .int .i64 x3, .int .i64 x4, .int .i64 x5, .int .i64 x6, .bool t1, .bool t2, .bool t3, .int .u8 1, .int .i64 tt, .int .i64 si] 5) hB1
    have c1_14 : w1.cell? ⟨w.heap.size + 1, 6, none⟩ = some (.int .i64 x6) := keep_cell (box1 w 37 #[.int .i64 job, .int .i64 x1, .int .i64 x2, .int .i64 x3, .int .i64 x4, .int .i64 x5, .int .i64 x6, .bool t1, .bool t2, .bool t3, .int .u8 1, .int .i64 tt, .int .i64 si] 6) hB1
    have c1_15 : w1.cell? ⟨w.heap.size + 1, 7, none⟩ = some (.bool t1) := keep_cell (box1 w 37 #[.int .i64 job, .int .i64 x1, .int .i64 x2, .int .i64 x3, .int .i64 x4, .int .i64 x5, .int .i64 x6, .bool t1, .bool t2, .bool t3, .int .u8 1, .int .i64 tt, .int .i64 si] 7) hB1
    have c1_16 : w1.cell? ⟨w.heap.size + 1, 8, none⟩ = some (.bool t2) := keep_cell (box1 w 37 #[.int .i64 job, .int .i64 x1, .int .i64 x2, .int .i64 x3, .int .i64 x4, .int .i64 x5, .int .i64 x6, .bool t1, .bool t2, .bool t3, .int .u8 1, .int .i64 tt, .int .i64 si] 8) hB1
    have c1_17 : w1.cell? ⟨w.heap.size + 1, 9, none⟩ = some (.bool t3) := keep_cell (box1 w 37 #[.int .i64 job, .int .i64 x1, .int .i64 x2, .int .i64 x3, .int .i64 x4, .int .i64 x5, .int .i64 x6, .bool t1, .bool t2, .bool t3, .int .u8 1, .int .i64 tt, .int .i64 si] 9) hB1
    have c1_18 : w1.cell? ⟨w.heap.size + 1, 10, none⟩ = some (.int .u8 1) := keep_cell (box1 w 37 #[.int .i64 job, .int .i64 x1, .int .i64 x2, .int .i64 x3, .int .i64 x4, .int .i64 x5, .int .i64 x6, .bool t1, .bool t2, .bool t3, .int .u8 1, .int .i64 tt, .int .i64 si] 10) hB1
    have c1_19 : w1.cell? ⟨w.heap.size + 1, 11, none⟩ = some (.int .i64 tt) := keep_cell (box1 w 37 #[.int .i64 job, .int .i64 x1, .int .i64 x2, .int .i64 x3, .int .i64 x4, .int .i64 x5, .int .i64 x6, .bool t1, .bool t2, .bool t3, .int .u8 1, .int .i64 tt, .int .i64 si] 11) hB1
    have c1_20 : w1.cell? ⟨w.heap.size + 1, 12, none⟩ = some (.int .i64 si) := keep_cell (box1 w 37 #[.int .i64 job, .int .i64 x1, .int .i64 x2, .int .i64 x3, .int .i64 x4, .int .i64 x5, .int .i64 x6, .bool t1, .bool t2, .bool t3, .int .u8 1, .int .i64 tt, .int .i64 si] 12) hB1
    have z1_0 : w.heap.size < w1.heap.size := cell_lt c1_0
    have z1_1 : w.heap.size + 1 < w1.heap.size := cell_lt c1_8
    clear hB1  
    go_wp2_with fail
    refine (rclock1 a b c bo fr tr ag X cp ks job x1 x2 x3 x4 x5 x6 t1 t2 t3 tt si wall HF.out.1.1 HF.out.1.2 HF.out.2.1.1 HF.out.2.1.2 HF.out.2.2.1 HF.out.2.2.2 HS.out.1 HS.out.2 _).mono ?_
    rintro e w2 ⟨rfl, hB2⟩
    have HB2 : Hid (Below w.heap.size w w2) := below_up HB1.out hB2
    have c2_0 : w2.cell? ⟨w.heap.size, 0, none⟩ = some (.int .i64 a) := keep_cell c1_0 hB2
    have c2_1 : w2.cell? ⟨w.heap.size, 1, none⟩ = some (.int .i64 b) := keep_cell c1_1 hB2
    have c2_2 : w2.cell? ⟨w.heap.size, 2, none⟩ = some (.int .i64 c) := keep_cell c1_2 hB2
    have c2_3 : w2.cell? ⟨w.heap.size, 3, none⟩ = some (.int .i64 bo) := keep_cell c1_3 hB2
    have c2_4 : w2.cell? ⟨w.heap.size, 4, none⟩ = some (.int .i64 fr) := keep_cell c1_4 hB2
    have c2_5 : w2.cell? ⟨w.heap.size, 5, none⟩ = some (.int .i64 tr) := keep_cell c1_5 hB2
    have c2_6 : w2.cell? ⟨w.heap.size, 6, none⟩ = some (.int .i64 ag) := keep_cell c1_6 hB2
    have c2_7 : w2.cell? ⟨w.heap.size, 7, none⟩ = some (.slice X ks.length cp) := keep_cell c1_7 hB2
    have c2_8 : w2.cell? ⟨w.heap.size + 1, 0, none⟩ = some (.int .i64 job) := keep_cell c1_8 hB2
    have c2_9 : w2.cell? ⟨w.heap.size + 1, 1, none⟩ = some (.int .i64 x1) := keep_cell c1_9 hB2
    have c2_10 : w2.cell? ⟨w.heap.size + 1, 2, none⟩ = some (.int .i64 x2) := keep_cell c1_10 hB2
    have c2_11 : w2.cell? ⟨w.heap.size + 1, 3, none⟩ = some (.int .i64 x3) := keep_cell c1_11 hB2
    have c2_12 : w2.cell? ⟨w.heap.size + 1, 4, none⟩ = some (.int .i64 x4) := keep_cell c1_12 hB2
    have c2_13 : w2.cell? ⟨w.heap.size + 1, 5, none⟩ = some (.int .i64 x5) := keep_cell c1_13 hB2
    have c2_14 : w2.cell? ⟨w.heap.size + 1, 6, none⟩ = some (.int .i64 x6) := keep_cell c1_14 hB2
    have c2_15 : w2.cell? ⟨w.heap.size + 1, 7, none⟩ = some (.bool t1) := keep_cell c1_15 hB2
    have c2_16 : w2.cell? ⟨w.heap.size + 1, 8, none⟩ = some (.bool t2) := keep_cell c1_16 hB2
    have c2_17 : w2.cell? ⟨w.heap.size + 1, 9, none⟩ = some (.bool t3) := keep_cell c1_17 hB2
    have c2_18 : w2.cell? ⟨w.heap.size + 1, 10, none⟩ = some (.int .u8 1) := keep_cell c1_18 hB2
    have c2_19 : w2.cell? ⟨w.heap.size + 1, 11, none⟩ = some (.int .i64 tt) := keep_cell c1_19 hB2
    have c2_20 : w2.cell? ⟨w.heap.size + 1, 12, none⟩ = some (.int .i64 si) := keep_cell c1_20 hB2
    have z2_0 : w.heap.size < w2.heap.size := cell_lt c2_0
    have z2_1 : w.heap.size + 1 < w2.heap.size := cell_lt c2_8
    clear hB2 c1_0 c1_1 c1_2 c1_3 c1_4 c1_5 c1_6 c1_7 c1_8 c1_9 c1_10 c1_11 c1_12 c1_13 c1_14 c1_15 c1_16 c1_17 c1_18 c1_19 c1_20 z1_0 z1_1
    go_wp2_with fail
    go_ret2
    exact ⟨ret_pair (by rw [capM_hi (v := si + bo) (by have := HV.out; omega)]), HB2.out⟩
set_option maxRecDepth 100000 in
set_option maxHeartbeats 2000000 in
theorem rturns2 (a b c bo fr tr ag : Int) (X : Option Addr) (cp : Nat) (ks : List Cls) (hl : ks.length ≤ 9223372036854775807) (job x1 x2 x3 x4 x5 x6 : Int) (t1 t2 t3 : Bool) (tt si : Int) (wall : Int) (h : CfgOk a b c bo fr tr ag ks) (hp : PartOk job 2 tt si tr) (hW : inB wall 1 1048576 = true) (w : World) (hk : ClsAt w w.heap.size X ks) :
    Calls Try.prog 17 #[.agg #[.int .i64 a, .int .i64 b, .int .i64 c, .int .i64 bo, .int .i64 fr, .int .i64 tr, .int .i64 ag, .slice X ks.length cp], .agg #[.int .i64 job, .int .i64 x1, .int .i64 x2, .int .i64 x3, .int .i64 x4, .int .i64 x5, .int .i64 x6, .bool t1, .bool t2, .bool t3, .int .u8 2, .int .i64 tt, .int .i64 si], .int .i64 wall] w (fun e w' => e = .returned (.tuple #[.int .i64 (capM (si + clockR 2 bo wall fr)), .int .i64 0]) ∧ Below w.heap.size w w') := by
  have hv : si + clockR 2 bo wall fr = si + wall := by simp [clockR]
  rw [hv]
  obtain ⟨⟨b1, b2⟩, ⟨f1, f2⟩, ⟨w1_, w2_⟩, ⟨s1, s2⟩⟩ := facts h hp hW
  have HF := Lib.hid (And.intro (And.intro b1 b2) (And.intro (And.intro f1 f2) (And.intro w1_ w2_)))
  have HS := Lib.hid (And.intro s1 s2)
  have HH := Lib.hid h
  have HKK := Lib.hid hk
  have HP := Lib.hid hp
  have HW := Lib.hid hW
  clear h hk hp hW hv
  by_cases hv : si + wall ≤ 1099511627776
  · have HV := Lib.hid hv
    go_enter Try.func17, Try.ntmps17
    go_wp2_with fail
    refine (asked_ok a b c bo fr tr ag X cp ks hl job x1 x2 x3 x4 x5 x6 t1 t2 t3 2 tt si wall HH.out HP.out HW.out _ (HKK.out.up (below_alloc (below_alloc (Below.refl _ _))))).mono ?_
    rintro e w1 ⟨rfl, hB1⟩
    have HB1 : Hid (Below w.heap.size w w1) := below_up (below_alloc (below_alloc (Below.refl _ _))) hB1
    have c1_0 : w1.cell? ⟨w.heap.size, 0, none⟩ = some (.int .i64 a) := keep_cell (cell_over _ (box0 w 26 #[.int .i64 a, .int .i64 b, .int .i64 c, .int .i64 bo, .int .i64 fr, .int .i64 tr, .int .i64 ag, .slice X ks.length cp] 0)) hB1
    have c1_1 : w1.cell? ⟨w.heap.size, 1, none⟩ = some (.int .i64 b) := keep_cell (cell_over _ (box0 w 26 #[.int .i64 a, .int .i64 b, .int .i64 c, .int .i64 bo, .int .i64 fr, .int .i64 tr, .int .i64 ag, .slice X ks.length cp] 1)) hB1
    have c1_2 : w1.cell? ⟨w.heap.size, 2, none⟩ = some (.int .i64 c) := keep_cell (cell_over _ (box0 w 26 #[.int .i64 a, .int .i64 b, .int .i64 c, .int .i64 bo, .int .i64 fr, .int .i64 tr, .int .i64 ag, .slice X ks.length cp] 2)) hB1
    have c1_3 : w1.cell? ⟨w.heap.size, 3, none⟩ = some (.int .i64 bo) := keep_cell (cell_over _ (box0 w 26 #[.int .i64 a, .int .i64 b, .int .i64 c, .int .i64 bo, .int .i64 fr, .int .i64 tr, .int .i64 ag, .slice X ks.length cp] 3)) hB1
    have c1_4 : w1.cell? ⟨w.heap.size, 4, none⟩ = some (.int .i64 fr) := keep_cell (cell_over _ (box0 w 26 #[.int .i64 a, .int .i64 b, .int .i64 c, .int .i64 bo, .int .i64 fr, .int .i64 tr, .int .i64 ag, .slice X ks.length cp] 4)) hB1
    have c1_5 : w1.cell? ⟨w.heap.size, 5, none⟩ = some (.int .i64 tr) := keep_cell (cell_over _ (box0 w 26 #[.int .i64 a, .int .i64 b, .int .i64 c, .int .i64 bo, .int .i64 fr, .int .i64 tr, .int .i64 ag, .slice X ks.length cp] 5)) hB1
    have c1_6 : w1.cell? ⟨w.heap.size, 6, none⟩ = some (.int .i64 ag) := keep_cell (cell_over _ (box0 w 26 #[.int .i64 a, .int .i64 b, .int .i64 c, .int .i64 bo, .int .i64 fr, .int .i64 tr, .int .i64 ag, .slice X ks.length cp] 6)) hB1
    have c1_7 : w1.cell? ⟨w.heap.size, 7, none⟩ = some (.slice X ks.length cp) := keep_cell (cell_over _ (box0 w 26 #[.int .i64 a, .int .i64 b, .int .i64 c, .int .i64 bo, .int .i64 fr, .int .i64 tr, .int .i64 ag, .slice X ks.length cp] 7)) hB1
    have c1_8 : w1.cell? ⟨w.heap.size + 1, 0, none⟩ = some (.int .i64 job) := keep_cell (box1 w 37 #[.int .i64 job, .int .i64 x1, .int .i64 x2, .int .i64 x3, .int .i64 x4, .int .i64 x5, .int .i64 x6, .bool t1, .bool t2, .bool t3, .int .u8 2, .int .i64 tt, .int .i64 si] 0) hB1
    have c1_9 : w1.cell? ⟨w.heap.size + 1, 1, none⟩ = some (.int .i64 x1) := keep_cell (box1 w 37 #[.int .i64 job, .int .i64 x1, .int .i64 x2, .int .i64 x3, .int .i64 x4, .int .i64 x5, .int .i64 x6, .bool t1, .bool t2, .bool t3, .int .u8 2, .int .i64 tt, .int .i64 si] 1) hB1
    have c1_10 : w1.cell? ⟨w.heap.size + 1, 2, none⟩ = some (.int .i64 x2) := keep_cell (box1 w 37 #[.int .i64 job, .int .i64 x1, .int .i64 x2, .int .i64 x3, .int .i64 x4, .int .i64 x5, .int .i64 x6, .bool t1, .bool t2, .bool t3, .int .u8 2, .int .i64 tt, .int .i64 si] 2) hB1
    have c1_11 : w1.cell? ⟨w.heap.size + 1, 3, none⟩ = some (.int .i64 x3) := keep_cell (box1 w 37 #[.int .i64 job, .int .i64 x1, .int .i64 x2, .int .i64 x3, .int .i64 x4, .int .i64 x5, .int .i64 x6, .bool t1, .bool t2, .bool t3, .int .u8 2, .int .i64 tt, .int .i64 si] 3) hB1
    have c1_12 : w1.cell? ⟨w.heap.size + 1, 4, none⟩ = some (.int .i64 x4) := keep_cell (box1 w 37 #[.int .i64 job, .int .i64 x1, .int .i64 x2, .int .i64 x3, .int .i64 x4, .int .i64 x5, .int .i64 x6, .bool t1, .bool t2, .bool t3, .int .u8 2, .int .i64 tt, .int .i64 si] 4) hB1
    have c1_13 : w1.cell? ⟨w.heap.size + 1, 5, none⟩ = some (.int .i64 x5) := keep_cell (box1 w 37 #[.int .i64 job, .int .i64 x1, .int .i64 x2, .int .i64 x3, .int .i64 x4, .int .i64 x5, .int .i64 x6, .bool t1, .bool t2, .bool t3, .int .u8 2, .int .i64 tt, .int .i64 si] 5) hB1
    have c1_14 : w1.cell? ⟨w.heap.size + 1, 6, none⟩ = some (.int .i64 x6) := keep_cell (box1 w 37 #[.int .i64 job, .int .i64 x1, .int .i64 x2, .int .i64 x3, .int .i64 x4, .int .i64 x5, .int .i64 x6, .bool t1, .bool t2, .bool t3, .int .u8 2, .int .i64 tt, .int .i64 si] 6) hB1
    have c1_15 : w1.cell? ⟨w.heap.size + 1, 7, none⟩ = some (.bool t1) := keep_cell (box1 w 37 #[.int .i64 job, .int .i64 x1, .int .i64 x2, .int .i64 x3, .int .i64 x4, .int .i64 x5, .int .i64 x6, .bool t1, .bool t2, .bool t3, .int .u8 2, .int .i64 tt, .int .i64 si] 7) hB1
    have c1_16 : w1.cell? ⟨w.heap.size + 1, 8, none⟩ = some (.bool t2) := keep_cell (box1 w 37 #[.int .i64 job, .int .i64 x1, .int .i64 x2, .int .i64 x3, .int .i64 x4, .int .i64 x5, .int .i64 x6, .bool t1, .bool t2, .bool t3, .int .u8 2, .int .i64 tt, .int .i64 si] 8) hB1
    have c1_17 : w1.cell? ⟨w.heap.size + 1, 9, none⟩ = some (.bool t3) := keep_cell (box1 w 37 #[.int .i64 job, .int .i64 x1, .int .i64 x2, .int .i64 x3, .int .i64 x4, .int .i64 x5, .int .i64 x6, .bool t1, .bool t2, .bool t3, .int .u8 2, .int .i64 tt, .int .i64 si] 9) hB1
    have c1_18 : w1.cell? ⟨w.heap.size + 1, 10, none⟩ = some (.int .u8 2) := keep_cell (box1 w 37 #[.int .i64 job, .int .i64 x1, .int .i64 x2, .int .i64 x3, .int .i64 x4, .int .i64 x5, .int .i64 x6, .bool t1, .bool t2, .bool t3, .int .u8 2, .int .i64 tt, .int .i64 si] 10) hB1
    have c1_19 : w1.cell? ⟨w.heap.size + 1, 11, none⟩ = some (.int .i64 tt) := keep_cell (box1 w 37 #[.int .i64 job, .int .i64 x1, .int .i64 x2, .int .i64 x3, .int .i64 x4, .int .i64 x5, .int .i64 x6, .bool t1, .bool t2, .bool t3, .int .u8 2, .int .i64 tt, .int .i64 si] 11) hB1
    have c1_20 : w1.cell? ⟨w.heap.size + 1, 12, none⟩ = some (.int .i64 si) := keep_cell (box1 w 37 #[.int .i64 job, .int .i64 x1, .int .i64 x2, .int .i64 x3, .int .i64 x4, .int .i64 x5, .int .i64 x6, .bool t1, .bool t2, .bool t3, .int .u8 2, .int .i64 tt, .int .i64 si] 12) hB1
    have z1_0 : w.heap.size < w1.heap.size := cell_lt c1_0
    have z1_1 : w.heap.size + 1 < w1.heap.size := cell_lt c1_8
    clear hB1  
    go_wp2_with fail
    refine (rclock2 a b c bo fr tr ag X cp ks job x1 x2 x3 x4 x5 x6 t1 t2 t3 tt si wall HF.out.1.1 HF.out.1.2 HF.out.2.1.1 HF.out.2.1.2 HF.out.2.2.1 HF.out.2.2.2 HS.out.1 HS.out.2 _).mono ?_
    rintro e w2 ⟨rfl, hB2⟩
    have HB2 : Hid (Below w.heap.size w w2) := below_up HB1.out hB2
    have c2_0 : w2.cell? ⟨w.heap.size, 0, none⟩ = some (.int .i64 a) := keep_cell c1_0 hB2
    have c2_1 : w2.cell? ⟨w.heap.size, 1, none⟩ = some (.int .i64 b) := keep_cell c1_1 hB2
    have c2_2 : w2.cell? ⟨w.heap.size, 2, none⟩ = some (.int .i64 c) := keep_cell c1_2 hB2
    have c2_3 : w2.cell? ⟨w.heap.size, 3, none⟩ = some (.int .i64 bo) := keep_cell c1_3 hB2
    have c2_4 : w2.cell? ⟨w.heap.size, 4, none⟩ = some (.int .i64 fr) := keep_cell c1_4 hB2
    have c2_5 : w2.cell? ⟨w.heap.size, 5, none⟩ = some (.int .i64 tr) := keep_cell c1_5 hB2
    have c2_6 : w2.cell? ⟨w.heap.size, 6, none⟩ = some (.int .i64 ag) := keep_cell c1_6 hB2
    have c2_7 : w2.cell? ⟨w.heap.size, 7, none⟩ = some (.slice X ks.length cp) := keep_cell c1_7 hB2
    have c2_8 : w2.cell? ⟨w.heap.size + 1, 0, none⟩ = some (.int .i64 job) := keep_cell c1_8 hB2
    have c2_9 : w2.cell? ⟨w.heap.size + 1, 1, none⟩ = some (.int .i64 x1) := keep_cell c1_9 hB2
    have c2_10 : w2.cell? ⟨w.heap.size + 1, 2, none⟩ = some (.int .i64 x2) := keep_cell c1_10 hB2
    have c2_11 : w2.cell? ⟨w.heap.size + 1, 3, none⟩ = some (.int .i64 x3) := keep_cell c1_11 hB2
    have c2_12 : w2.cell? ⟨w.heap.size + 1, 4, none⟩ = some (.int .i64 x4) := keep_cell c1_12 hB2
    have c2_13 : w2.cell? ⟨w.heap.size + 1, 5, none⟩ = some (.int .i64 x5) := keep_cell c1_13 hB2
    have c2_14 : w2.cell? ⟨w.heap.size + 1, 6, none⟩ = some (.int .i64 x6) := keep_cell c1_14 hB2
    have c2_15 : w2.cell? ⟨w.heap.size + 1, 7, none⟩ = some (.bool t1) := keep_cell c1_15 hB2
    have c2_16 : w2.cell? ⟨w.heap.size + 1, 8, none⟩ = some (.bool t2) := keep_cell c1_16 hB2
    have c2_17 : w2.cell? ⟨w.heap.size + 1, 9, none⟩ = some (.bool t3) := keep_cell c1_17 hB2
    have c2_18 : w2.cell? ⟨w.heap.size + 1, 10, none⟩ = some (.int .u8 2) := keep_cell c1_18 hB2
    have c2_19 : w2.cell? ⟨w.heap.size + 1, 11, none⟩ = some (.int .i64 tt) := keep_cell c1_19 hB2
    have c2_20 : w2.cell? ⟨w.heap.size + 1, 12, none⟩ = some (.int .i64 si) := keep_cell c1_20 hB2
    have z2_0 : w.heap.size < w2.heap.size := cell_lt c2_0
    have z2_1 : w.heap.size + 1 < w2.heap.size := cell_lt c2_8
    clear hB2 c1_0 c1_1 c1_2 c1_3 c1_4 c1_5 c1_6 c1_7 c1_8 c1_9 c1_10 c1_11 c1_12 c1_13 c1_14 c1_15 c1_16 c1_17 c1_18 c1_19 c1_20 z1_0 z1_1
    go_wp2_with fail
    go_ret2
    exact ⟨ret_pair (by rw [capM_lo (v := si + wall) (by have := HV.out; omega)]), HB2.out⟩
  · have HV := Lib.hid hv
    go_enter Try.func17, Try.ntmps17
    go_wp2_with fail
    refine (asked_ok a b c bo fr tr ag X cp ks hl job x1 x2 x3 x4 x5 x6 t1 t2 t3 2 tt si wall HH.out HP.out HW.out _ (HKK.out.up (below_alloc (below_alloc (Below.refl _ _))))).mono ?_
    rintro e w1 ⟨rfl, hB1⟩
    have HB1 : Hid (Below w.heap.size w w1) := below_up (below_alloc (below_alloc (Below.refl _ _))) hB1
    have c1_0 : w1.cell? ⟨w.heap.size, 0, none⟩ = some (.int .i64 a) := keep_cell (cell_over _ (box0 w 26 #[.int .i64 a, .int .i64 b, .int .i64 c, .int .i64 bo, .int .i64 fr, .int .i64 tr, .int .i64 ag, .slice X ks.length cp] 0)) hB1
    have c1_1 : w1.cell? ⟨w.heap.size, 1, none⟩ = some (.int .i64 b) := keep_cell (cell_over _ (box0 w 26 #[.int .i64 a, .int .i64 b, .int .i64 c, .int .i64 bo, .int .i64 fr, .int .i64 tr, .int .i64 ag, .slice X ks.length cp] 1)) hB1
    have c1_2 : w1.cell? ⟨w.heap.size, 2, none⟩ = some (.int .i64 c) := keep_cell (cell_over _ (box0 w 26 #[.int .i64 a, .int .i64 b, .int .i64 c, .int .i64 bo, .int .i64 fr, .int .i64 tr, .int .i64 ag, .slice X ks.length cp] 2)) hB1
    have c1_3 : w1.cell? ⟨w.heap.size, 3, none⟩ = some (.int .i64 bo) := keep_cell (cell_over _ (box0 w 26 #[.int .i64 a, .int .i64 b, .int .i64 c, .int .i64 bo, .int .i64 fr, .int .i64 tr, .int .i64 ag, .slice X ks.length cp] 3)) hB1
    have c1_4 : w1.cell? ⟨w.heap.size, 4, none⟩ = some (.int .i64 fr) := keep_cell (cell_over _ (box0 w 26 #[.int .i64 a, .int .i64 b, .int .i64 c, .int .i64 bo, .int .i64 fr, .int .i64 tr, .int .i64 ag, .slice X ks.length cp] 4)) hB1
    have c1_5 : w1.cell? ⟨w.heap.size, 5, none⟩ = some (.int .i64 tr) := keep_cell (cell_over _ (box0 w 26 #[.int .i64 a, .int .i64 b, .int .i64 c, .int .i64 bo, .int .i64 fr, .int .i64 tr, .int .i64 ag, .slice X ks.length cp] 5)) hB1
    have c1_6 : w1.cell? ⟨w.heap.size, 6, none⟩ = some (.int .i64 ag) := keep_cell (cell_over _ (box0 w 26 #[.int .i64 a, .int .i64 b, .int .i64 c, .int .i64 bo, .int .i64 fr, .int .i64 tr, .int .i64 ag, .slice X ks.length cp] 6)) hB1
    have c1_7 : w1.cell? ⟨w.heap.size, 7, none⟩ = some (.slice X ks.length cp) := keep_cell (cell_over _ (box0 w 26 #[.int .i64 a, .int .i64 b, .int .i64 c, .int .i64 bo, .int .i64 fr, .int .i64 tr, .int .i64 ag, .slice X ks.length cp] 7)) hB1
    have c1_8 : w1.cell? ⟨w.heap.size + 1, 0, none⟩ = some (.int .i64 job) := keep_cell (box1 w 37 #[.int .i64 job, .int .i64 x1, .int .i64 x2, .int .i64 x3, .int .i64 x4, .int .i64 x5, .int .i64 x6, .bool t1, .bool t2, .bool t3, .int .u8 2, .int .i64 tt, .int .i64 si] 0) hB1
    have c1_9 : w1.cell? ⟨w.heap.size + 1, 1, none⟩ = some (.int .i64 x1) := keep_cell (box1 w 37 #[.int .i64 job, .int .i64 x1, .int .i64 x2, .int .i64 x3, .int .i64 x4, .int .i64 x5, .int .i64 x6, .bool t1, .bool t2, .bool t3, .int .u8 2, .int .i64 tt, .int .i64 si] 1) hB1
    have c1_10 : w1.cell? ⟨w.heap.size + 1, 2, none⟩ = some (.int .i64 x2) := keep_cell (box1 w 37 #[.int .i64 job, .int .i64 x1, .int .i64 x2, .int .i64 x3, .int .i64 x4, .int .i64 x5, .int .i64 x6, .bool t1, .bool t2, .bool t3, .int .u8 2, .int .i64 tt, .int .i64 si] 2) hB1
    have c1_11 : w1.cell? ⟨w.heap.size + 1, 3, none⟩ = some (.int .i64 x3) := keep_cell (box1 w 37 #[.int .i64 job, .int .i64 x1, .int .i64 x2, .int .i64 x3, .int .i64 x4, .int .i64 x5, .int .i64 x6, .bool t1, .bool t2, .bool t3, .int .u8 2, .int .i64 tt, .int .i64 si] 3) hB1
    have c1_12 : w1.cell? ⟨w.heap.size + 1, 4, none⟩ = some (.int .i64 x4) := keep_cell (box1 w 37 #[.int .i64 job, .int .i64 x1, .int .i64 x2, .int .i64 x3, .int .i64 x4, .int .i64 x5, .int .i64 x6, .bool t1, .bool t2, .bool t3, .int .u8 2, .int .i64 tt, .int .i64 si] 4) hB1
    have c1_13 : w1.cell? ⟨w.heap.size + 1, 5, none⟩ = some (.int .i64 x5) := keep_cell (box1 w 37 #[.int .i64 job, .int .i64 x1, .int .i64 x2, .int .i64 x3, .int .i64 x4, .int .i64 x5, .int .i64 x6, .bool t1, .bool t2, .bool t3, .int .u8 2, .int .i64 tt, .int .i64 si] 5) hB1
    have c1_14 : w1.cell? ⟨w.heap.size + 1, 6, none⟩ = some (.int .i64 x6) := keep_cell (box1 w 37 #[.int .i64 job, .int .i64 x1, .int .i64 x2, .int .i64 x3, .int .i64 x4, .int .i64 x5, .int .i64 x6, .bool t1, .bool t2, .bool t3, .int .u8 2, .int .i64 tt, .int .i64 si] 6) hB1
    have c1_15 : w1.cell? ⟨w.heap.size + 1, 7, none⟩ = some (.bool t1) := keep_cell (box1 w 37 #[.int .i64 job, .int .i64 x1, .int .i64 x2, .int .i64 x3, .int .i64 x4, .int .i64 x5, .int .i64 x6, .bool t1, .bool t2, .bool t3, .int .u8 2, .int .i64 tt, .int .i64 si] 7) hB1
    have c1_16 : w1.cell? ⟨w.heap.size + 1, 8, none⟩ = some (.bool t2) := keep_cell (box1 w 37 #[.int .i64 job, .int .i64 x1, .int .i64 x2, .int .i64 x3, .int .i64 x4, .int .i64 x5, .int .i64 x6, .bool t1, .bool t2, .bool t3, .int .u8 2, .int .i64 tt, .int .i64 si] 8) hB1
    have c1_17 : w1.cell? ⟨w.heap.size + 1, 9, none⟩ = some (.bool t3) := keep_cell (box1 w 37 #[.int .i64 job, .int .i64 x1, .int .i64 x2, .int .i64 x3, .int .i64 x4, .int .i64 x5, .int .i64 x6, .bool t1, .bool t2, .bool t3, .int .u8 2, .int .i64 tt, .int .i64 si] 9) hB1
    have c1_18 : w1.cell? ⟨w.heap.size + 1, 10, none⟩ = some (.int .u8 2) := keep_cell (box1 w 37 #[.int .i64 job, .int .i64 x1, .int .i64 x2, .int .i64 x3, .int .i64 x4, .int .i64 x5, .int .i64 x6, .bool t1, .bool t2, .bool t3, .int .u8 2, .int .i64 tt, .int .i64 si] 10) hB1
    have c1_19 : w1.cell? ⟨w.heap.size + 1, 11, none⟩ = some (.int .i64 tt) := keep_cell (box1 w 37 #[.int .i64 job, .int .i64 x1, .int .i64 x2, .int .i64 x3, .int .i64 x4, .int .i64 x5, .int .i64 x6, .bool t1, .bool t2, .bool t3, .int .u8 2, .int .i64 tt, .int .i64 si] 11) hB1
    have c1_20 : w1.cell? ⟨w.heap.size + 1, 12, none⟩ = some (.int .i64 si) := keep_cell (box1 w 37 #[.int .i64 job, .int .i64 x1, .int .i64 x2, .int .i64 x3, .int .i64 x4, .int .i64 x5, .int .i64 x6, .bool t1, .bool t2, .bool t3, .int .u8 2, .int .i64 tt, .int .i64 si] 12) hB1
    have z1_0 : w.heap.size < w1.heap.size := cell_lt c1_0
    have z1_1 : w.heap.size + 1 < w1.heap.size := cell_lt c1_8
    clear hB1  
    go_wp2_with fail
    refine (rclock2 a b c bo fr tr ag X cp ks job x1 x2 x3 x4 x5 x6 t1 t2 t3 tt si wall HF.out.1.1 HF.out.1.2 HF.out.2.1.1 HF.out.2.1.2 HF.out.2.2.1 HF.out.2.2.2 HS.out.1 HS.out.2 _).mono ?_
    rintro e w2 ⟨rfl, hB2⟩
    have HB2 : Hid (Below w.heap.size w w2) := below_up HB1.out hB2
    have c2_0 : w2.cell? ⟨w.heap.size, 0, none⟩ = some (.int .i64 a) := keep_cell c1_0 hB2
    have c2_1 : w2.cell? ⟨w.heap.size, 1, none⟩ = some (.int .i64 b) := keep_cell c1_1 hB2
    have c2_2 : w2.cell? ⟨w.heap.size, 2, none⟩ = some (.int .i64 c) := keep_cell c1_2 hB2
    have c2_3 : w2.cell? ⟨w.heap.size, 3, none⟩ = some (.int .i64 bo) := keep_cell c1_3 hB2
    have c2_4 : w2.cell? ⟨w.heap.size, 4, none⟩ = some (.int .i64 fr) := keep_cell c1_4 hB2
    have c2_5 : w2.cell? ⟨w.heap.size, 5, none⟩ = some (.int .i64 tr) := keep_cell c1_5 hB2
    have c2_6 : w2.cell? ⟨w.heap.size, 6, none⟩ = some (.int .i64 ag) := keep_cell c1_6 hB2
    have c2_7 : w2.cell? ⟨w.heap.size, 7, none⟩ = some (.slice X ks.length cp) := keep_cell c1_7 hB2
    have c2_8 : w2.cell? ⟨w.heap.size + 1, 0, none⟩ = some (.int .i64 job) := keep_cell c1_8 hB2
    have c2_9 : w2.cell? ⟨w.heap.size + 1, 1, none⟩ = some (.int .i64 x1) := keep_cell c1_9 hB2
    have c2_10 : w2.cell? ⟨w.heap.size + 1, 2, none⟩ = some (.int .i64 x2) := keep_cell c1_10 hB2
    have c2_11 : w2.cell? ⟨w.heap.size + 1, 3, none⟩ = some (.int .i64 x3) := keep_cell c1_11 hB2
    have c2_12 : w2.cell? ⟨w.heap.size + 1, 4, none⟩ = some (.int .i64 x4) := keep_cell c1_12 hB2
    have c2_13 : w2.cell? ⟨w.heap.size + 1, 5, none⟩ = some (.int .i64 x5) := keep_cell c1_13 hB2
    have c2_14 : w2.cell? ⟨w.heap.size + 1, 6, none⟩ = some (.int .i64 x6) := keep_cell c1_14 hB2
    have c2_15 : w2.cell? ⟨w.heap.size + 1, 7, none⟩ = some (.bool t1) := keep_cell c1_15 hB2
    have c2_16 : w2.cell? ⟨w.heap.size + 1, 8, none⟩ = some (.bool t2) := keep_cell c1_16 hB2
    have c2_17 : w2.cell? ⟨w.heap.size + 1, 9, none⟩ = some (.bool t3) := keep_cell c1_17 hB2
    have c2_18 : w2.cell? ⟨w.heap.size + 1, 10, none⟩ = some (.int .u8 2) := keep_cell c1_18 hB2
    have c2_19 : w2.cell? ⟨w.heap.size + 1, 11, none⟩ = some (.int .i64 tt) := keep_cell c1_19 hB2
    have c2_20 : w2.cell? ⟨w.heap.size + 1, 12, none⟩ = some (.int .i64 si) := keep_cell c1_20 hB2
    have z2_0 : w.heap.size < w2.heap.size := cell_lt c2_0
    have z2_1 : w.heap.size + 1 < w2.heap.size := cell_lt c2_8
    clear hB2 c1_0 c1_1 c1_2 c1_3 c1_4 c1_5 c1_6 c1_7 c1_8 c1_9 c1_10 c1_11 c1_12 c1_13 c1_14 c1_15 c1_16 c1_17 c1_18 c1_19 c1_20 z1_0 z1_1
    go_wp2_with fail
    go_ret2
    exact ⟨ret_pair (by rw [capM_hi (v := si + wall) (by have := HV.out; omega)]), HB2.out⟩
set_option maxRecDepth 100000 in
set_option maxHeartbeats 2000000 in
theorem rturns3 (a b c bo fr tr ag : Int) (X : Option Addr) (cp : Nat) (ks : List Cls) (hl : ks.length ≤ 9223372036854775807) (job x1 x2 x3 x4 x5 x6 : Int) (t1 t2 t3 : Bool) (tt si : Int) (wall : Int) (h : CfgOk a b c bo fr tr ag ks) (hp : PartOk job 3 tt si tr) (hW : inB wall 1 1048576 = true) (w : World) (hk : ClsAt w w.heap.size X ks) :
    Calls Try.prog 17 #[.agg #[.int .i64 a, .int .i64 b, .int .i64 c, .int .i64 bo, .int .i64 fr, .int .i64 tr, .int .i64 ag, .slice X ks.length cp], .agg #[.int .i64 job, .int .i64 x1, .int .i64 x2, .int .i64 x3, .int .i64 x4, .int .i64 x5, .int .i64 x6, .bool t1, .bool t2, .bool t3, .int .u8 3, .int .i64 tt, .int .i64 si], .int .i64 wall] w (fun e w' => e = .returned (.tuple #[.int .i64 (capM (si + clockR 3 bo wall fr)), .int .i64 0]) ∧ Below w.heap.size w w') := by
  have hv : si + clockR 3 bo wall fr = si + fr := by simp [clockR]
  rw [hv]
  obtain ⟨⟨b1, b2⟩, ⟨f1, f2⟩, ⟨w1_, w2_⟩, ⟨s1, s2⟩⟩ := facts h hp hW
  have HF := Lib.hid (And.intro (And.intro b1 b2) (And.intro (And.intro f1 f2) (And.intro w1_ w2_)))
  have HS := Lib.hid (And.intro s1 s2)
  have HH := Lib.hid h
  have HKK := Lib.hid hk
  have HP := Lib.hid hp
  have HW := Lib.hid hW
  clear h hk hp hW hv
  by_cases hv : si + fr ≤ 1099511627776
  · have HV := Lib.hid hv
    go_enter Try.func17, Try.ntmps17
    go_wp2_with fail
    refine (asked_ok a b c bo fr tr ag X cp ks hl job x1 x2 x3 x4 x5 x6 t1 t2 t3 3 tt si wall HH.out HP.out HW.out _ (HKK.out.up (below_alloc (below_alloc (Below.refl _ _))))).mono ?_
    rintro e w1 ⟨rfl, hB1⟩
    have HB1 : Hid (Below w.heap.size w w1) := below_up (below_alloc (below_alloc (Below.refl _ _))) hB1
    have c1_0 : w1.cell? ⟨w.heap.size, 0, none⟩ = some (.int .i64 a) := keep_cell (cell_over _ (box0 w 26 #[.int .i64 a, .int .i64 b, .int .i64 c, .int .i64 bo, .int .i64 fr, .int .i64 tr, .int .i64 ag, .slice X ks.length cp] 0)) hB1
    have c1_1 : w1.cell? ⟨w.heap.size, 1, none⟩ = some (.int .i64 b) := keep_cell (cell_over _ (box0 w 26 #[.int .i64 a, .int .i64 b, .int .i64 c, .int .i64 bo, .int .i64 fr, .int .i64 tr, .int .i64 ag, .slice X ks.length cp] 1)) hB1
    have c1_2 : w1.cell? ⟨w.heap.size, 2, none⟩ = some (.int .i64 c) := keep_cell (cell_over _ (box0 w 26 #[.int .i64 a, .int .i64 b, .int .i64 c, .int .i64 bo, .int .i64 fr, .int .i64 tr, .int .i64 ag, .slice X ks.length cp] 2)) hB1
    have c1_3 : w1.cell? ⟨w.heap.size, 3, none⟩ = some (.int .i64 bo) := keep_cell (cell_over _ (box0 w 26 #[.int .i64 a, .int .i64 b, .int .i64 c, .int .i64 bo, .int .i64 fr, .int .i64 tr, .int .i64 ag, .slice X ks.length cp] 3)) hB1
    have c1_4 : w1.cell? ⟨w.heap.size, 4, none⟩ = some (.int .i64 fr) := keep_cell (cell_over _ (box0 w 26 #[.int .i64 a, .int .i64 b, .int .i64 c, .int .i64 bo, .int .i64 fr, .int .i64 tr, .int .i64 ag, .slice X ks.length cp] 4)) hB1
    have c1_5 : w1.cell? ⟨w.heap.size, 5, none⟩ = some (.int .i64 tr) := keep_cell (cell_over _ (box0 w 26 #[.int .i64 a, .int .i64 b, .int .i64 c, .int .i64 bo, .int .i64 fr, .int .i64 tr, .int .i64 ag, .slice X ks.length cp] 5)) hB1
    have c1_6 : w1.cell? ⟨w.heap.size, 6, none⟩ = some (.int .i64 ag) := keep_cell (cell_over _ (box0 w 26 #[.int .i64 a, .int .i64 b, .int .i64 c, .int .i64 bo, .int .i64 fr, .int .i64 tr, .int .i64 ag, .slice X ks.length cp] 6)) hB1
    have c1_7 : w1.cell? ⟨w.heap.size, 7, none⟩ = some (.slice X ks.length cp) := keep_cell (cell_over _ (box0 w 26 #[.int .i64 a, .int .i64 b, .int .i64 c, .int .i64 bo, .int .i64 fr, .int .i64 tr, .int .i64 ag, .slice X ks.length cp] 7)) hB1
    have c1_8 : w1.cell? ⟨w.heap.size + 1, 0, none⟩ = some (.int .i64 job) := keep_cell (box1 w 37 #[.int .i64 job, .int .i64 x1, .int .i64 x2, .int .i64 x3, .int .i64 x4, .int .i64 x5, .int .i64 x6, .bool t1, .bool t2, .bool t3, .int .u8 3, .int .i64 tt, .int .i64 si] 0) hB1
    have c1_9 : w1.cell? ⟨w.heap.size + 1, 1, none⟩ = some (.int .i64 x1) := keep_cell (box1 w 37 #[.int .i64 job, .int .i64 x1, .int .i64 x2, .int .i64 x3, .int .i64 x4, .int .i64 x5, .int .i64 x6, .bool t1, .bool t2, .bool t3, .int .u8 3, .int .i64 tt, .int .i64 si] 1) hB1
    have c1_10 : w1.cell? ⟨w.heap.size + 1, 2, none⟩ = some (.int .i64 x2) := keep_cell (box1 w 37 #[.int .i64 job, .int .i64 x1, .int .i64 x2, .int .i64 x3, .int .i64 x4, .int .i64 x5, .int .i64 x6, .bool t1, .bool t2, .bool t3, .int .u8 3, .int .i64 tt, .int .i64 si] 2) hB1
    have c1_11 : w1.cell? ⟨w.heap.size + 1, 3, none⟩ = some (.int .i64 x3) := keep_cell (box1 w 37 #[.int .i64 job, .int .i64 x1, .int .i64 x2, .int .i64 x3, .int .i64 x4, .int .i64 x5, .int .i64 x6, .bool t1, .bool t2, .bool t3, .int .u8 3, .int .i64 tt, .int .i64 si] 3) hB1
    have c1_12 : w1.cell? ⟨w.heap.size + 1, 4, none⟩ = some (.int .i64 x4) := keep_cell (box1 w 37 #[.int .i64 job, .int .i64 x1, .int .i64 x2, .int .i64 x3, .int .i64 x4, .int .i64 x5, .int .i64 x6, .bool t1, .bool t2, .bool t3, .int .u8 3, .int .i64 tt, .int .i64 si] 4) hB1
    have c1_13 : w1.cell? ⟨w.heap.size + 1, 5, none⟩ = some (.int .i64 x5) := keep_cell (box1 w 37 #[.int .i64 job, .int .i64 x1, .int .i64 x2, .int .i64 x3, .int .i64 x4, .int .i64 x5, .int .i64 x6, .bool t1, .bool t2, .bool t3, .int .u8 3, .int .i64 tt, .int .i64 si] 5) hB1
    have c1_14 : w1.cell? ⟨w.heap.size + 1, 6, none⟩ = some (.int .i64 x6) := keep_cell (box1 w 37 #[.int .i64 job, .int .i64 x1, .int .i64 x2, .int .i64 x3, .int .i64 x4, .int .i64 x5, .int .i64 x6, .bool t1, .bool t2, .bool t3, .int .u8 3, .int .i64 tt, .int .i64 si] 6) hB1
    have c1_15 : w1.cell? ⟨w.heap.size + 1, 7, none⟩ = some (.bool t1) := keep_cell (box1 w 37 #[.int .i64 job, .int .i64 x1, .int .i64 x2, .int .i64 x3, .int .i64 x4, .int .i64 x5, .int .i64 x6, .bool t1, .bool t2, .bool t3, .int .u8 3, .int .i64 tt, .int .i64 si] 7) hB1
    have c1_16 : w1.cell? ⟨w.heap.size + 1, 8, none⟩ = some (.bool t2) := keep_cell (box1 w 37 #[.int .i64 job, .int .i64 x1, .int .i64 x2, .int .i64 x3, .int .i64 x4, .int .i64 x5, .int .i64 x6, .bool t1, .bool t2, .bool t3, .int .u8 3, .int .i64 tt, .int .i64 si] 8) hB1
    have c1_17 : w1.cell? ⟨w.heap.size + 1, 9, none⟩ = some (.bool t3) := keep_cell (box1 w 37 #[.int .i64 job, .int .i64 x1, .int .i64 x2, .int .i64 x3, .int .i64 x4, .int .i64 x5, .int .i64 x6, .bool t1, .bool t2, .bool t3, .int .u8 3, .int .i64 tt, .int .i64 si] 9) hB1
    have c1_18 : w1.cell? ⟨w.heap.size + 1, 10, none⟩ = some (.int .u8 3) := keep_cell (box1 w 37 #[.int .i64 job, .int .i64 x1, .int .i64 x2, .int .i64 x3, .int .i64 x4, .int .i64 x5, .int .i64 x6, .bool t1, .bool t2, .bool t3, .int .u8 3, .int .i64 tt, .int .i64 si] 10) hB1
    have c1_19 : w1.cell? ⟨w.heap.size + 1, 11, none⟩ = some (.int .i64 tt) := keep_cell (box1 w 37 #[.int .i64 job, .int .i64 x1, .int .i64 x2, .int .i64 x3, .int .i64 x4, .int .i64 x5, .int .i64 x6, .bool t1, .bool t2, .bool t3, .int .u8 3, .int .i64 tt, .int .i64 si] 11) hB1
    have c1_20 : w1.cell? ⟨w.heap.size + 1, 12, none⟩ = some (.int .i64 si) := keep_cell (box1 w 37 #[.int .i64 job, .int .i64 x1, .int .i64 x2, .int .i64 x3, .int .i64 x4, .int .i64 x5, .int .i64 x6, .bool t1, .bool t2, .bool t3, .int .u8 3, .int .i64 tt, .int .i64 si] 12) hB1
    have z1_0 : w.heap.size < w1.heap.size := cell_lt c1_0
    have z1_1 : w.heap.size + 1 < w1.heap.size := cell_lt c1_8
    clear hB1  
    go_wp2_with fail
    refine (rclock3 a b c bo fr tr ag X cp ks job x1 x2 x3 x4 x5 x6 t1 t2 t3 tt si wall HF.out.1.1 HF.out.1.2 HF.out.2.1.1 HF.out.2.1.2 HF.out.2.2.1 HF.out.2.2.2 HS.out.1 HS.out.2 _).mono ?_
    rintro e w2 ⟨rfl, hB2⟩
    have HB2 : Hid (Below w.heap.size w w2) := below_up HB1.out hB2
    have c2_0 : w2.cell? ⟨w.heap.size, 0, none⟩ = some (.int .i64 a) := keep_cell c1_0 hB2
    have c2_1 : w2.cell? ⟨w.heap.size, 1, none⟩ = some (.int .i64 b) := keep_cell c1_1 hB2
    have c2_2 : w2.cell? ⟨w.heap.size, 2, none⟩ = some (.int .i64 c) := keep_cell c1_2 hB2
    have c2_3 : w2.cell? ⟨w.heap.size, 3, none⟩ = some (.int .i64 bo) := keep_cell c1_3 hB2
    have c2_4 : w2.cell? ⟨w.heap.size, 4, none⟩ = some (.int .i64 fr) := keep_cell c1_4 hB2
    have c2_5 : w2.cell? ⟨w.heap.size, 5, none⟩ = some (.int .i64 tr) := keep_cell c1_5 hB2
    have c2_6 : w2.cell? ⟨w.heap.size, 6, none⟩ = some (.int .i64 ag) := keep_cell c1_6 hB2
    have c2_7 : w2.cell? ⟨w.heap.size, 7, none⟩ = some (.slice X ks.length cp) := keep_cell c1_7 hB2
    have c2_8 : w2.cell? ⟨w.heap.size + 1, 0, none⟩ = some (.int .i64 job) := keep_cell c1_8 hB2
    have c2_9 : w2.cell? ⟨w.heap.size + 1, 1, none⟩ = some (.int .i64 x1) := keep_cell c1_9 hB2
    have c2_10 : w2.cell? ⟨w.heap.size + 1, 2, none⟩ = some (.int .i64 x2) := keep_cell c1_10 hB2
    have c2_11 : w2.cell? ⟨w.heap.size + 1, 3, none⟩ = some (.int .i64 x3) := keep_cell c1_11 hB2
    have c2_12 : w2.cell? ⟨w.heap.size + 1, 4, none⟩ = some (.int .i64 x4) := keep_cell c1_12 hB2
    have c2_13 : w2.cell? ⟨w.heap.size + 1, 5, none⟩ = some (.int .i64 x5) := keep_cell c1_13 hB2
    have c2_14 : w2.cell? ⟨w.heap.size + 1, 6, none⟩ = some (.int .i64 x6) := keep_cell c1_14 hB2
    have c2_15 : w2.cell? ⟨w.heap.size + 1, 7, none⟩ = some (.bool t1) := keep_cell c1_15 hB2
    have c2_16 : w2.cell? ⟨w.heap.size + 1, 8, none⟩ = some (.bool t2) := keep_cell c1_16 hB2
    have c2_17 : w2.cell? ⟨w.heap.size + 1, 9, none⟩ = some (.bool t3) := keep_cell c1_17 hB2
    have c2_18 : w2.cell? ⟨w.heap.size + 1, 10, none⟩ = some (.int .u8 3) := keep_cell c1_18 hB2
    have c2_19 : w2.cell? ⟨w.heap.size + 1, 11, none⟩ = some (.int .i64 tt) := keep_cell c1_19 hB2
    have c2_20 : w2.cell? ⟨w.heap.size + 1, 12, none⟩ = some (.int .i64 si) := keep_cell c1_20 hB2
    have z2_0 : w.heap.size < w2.heap.size := cell_lt c2_0
    have z2_1 : w.heap.size + 1 < w2.heap.size := cell_lt c2_8
    clear hB2 c1_0 c1_1 c1_2 c1_3 c1_4 c1_5 c1_6 c1_7 c1_8 c1_9 c1_10 c1_11 c1_12 c1_13 c1_14 c1_15 c1_16 c1_17 c1_18 c1_19 c1_20 z1_0 z1_1
    go_wp2_with fail
    go_ret2
    exact ⟨ret_pair (by rw [capM_lo (v := si + fr) (by have := HV.out; omega)]), HB2.out⟩
  · have HV := Lib.hid hv
    go_enter Try.func17, Try.ntmps17
    go_wp2_with fail
    refine (asked_ok a b c bo fr tr ag X cp ks hl job x1 x2 x3 x4 x5 x6 t1 t2 t3 3 tt si wall HH.out HP.out HW.out _ (HKK.out.up (below_alloc (below_alloc (Below.refl _ _))))).mono ?_
    rintro e w1 ⟨rfl, hB1⟩
    have HB1 : Hid (Below w.heap.size w w1) := below_up (below_alloc (below_alloc (Below.refl _ _))) hB1
    have c1_0 : w1.cell? ⟨w.heap.size, 0, none⟩ = some (.int .i64 a) := keep_cell (cell_over _ (box0 w 26 #[.int .i64 a, .int .i64 b, .int .i64 c, .int .i64 bo, .int .i64 fr, .int .i64 tr, .int .i64 ag, .slice X ks.length cp] 0)) hB1
    have c1_1 : w1.cell? ⟨w.heap.size, 1, none⟩ = some (.int .i64 b) := keep_cell (cell_over _ (box0 w 26 #[.int .i64 a, .int .i64 b, .int .i64 c, .int .i64 bo, .int .i64 fr, .int .i64 tr, .int .i64 ag, .slice X ks.length cp] 1)) hB1
    have c1_2 : w1.cell? ⟨w.heap.size, 2, none⟩ = some (.int .i64 c) := keep_cell (cell_over _ (box0 w 26 #[.int .i64 a, .int .i64 b, .int .i64 c, .int .i64 bo, .int .i64 fr, .int .i64 tr, .int .i64 ag, .slice X ks.length cp] 2)) hB1
    have c1_3 : w1.cell? ⟨w.heap.size, 3, none⟩ = some (.int .i64 bo) := keep_cell (cell_over _ (box0 w 26 #[.int .i64 a, .int .i64 b, .int .i64 c, .int .i64 bo, .int .i64 fr, .int .i64 tr, .int .i64 ag, .slice X ks.length cp] 3)) hB1
    have c1_4 : w1.cell? ⟨w.heap.size, 4, none⟩ = some (.int .i64 fr) := keep_cell (cell_over _ (box0 w 26 #[.int .i64 a, .int .i64 b, .int .i64 c, .int .i64 bo, .int .i64 fr, .int .i64 tr, .int .i64 ag, .slice X ks.length cp] 4)) hB1
    have c1_5 : w1.cell? ⟨w.heap.size, 5, none⟩ = some (.int .i64 tr) := keep_cell (cell_over _ (box0 w 26 #[.int .i64 a, .int .i64 b, .int .i64 c, .int .i64 bo, .int .i64 fr, .int .i64 tr, .int .i64 ag, .slice X ks.length cp] 5)) hB1
    have c1_6 : w1.cell? ⟨w.heap.size, 6, none⟩ = some (.int .i64 ag) := keep_cell (cell_over _ (box0 w 26 #[.int .i64 a, .int .i64 b, .int .i64 c, .int .i64 bo, .int .i64 fr, .int .i64 tr, .int .i64 ag, .slice X ks.length cp] 6)) hB1
    have c1_7 : w1.cell? ⟨w.heap.size, 7, none⟩ = some (.slice X ks.length cp) := keep_cell (cell_over _ (box0 w 26 #[.int .i64 a, .int .i64 b, .int .i64 c, .int .i64 bo, .int .i64 fr, .int .i64 tr, .int .i64 ag, .slice X ks.length cp] 7)) hB1
    have c1_8 : w1.cell? ⟨w.heap.size + 1, 0, none⟩ = some (.int .i64 job) := keep_cell (box1 w 37 #[.int .i64 job, .int .i64 x1, .int .i64 x2, .int .i64 x3, .int .i64 x4, .int .i64 x5, .int .i64 x6, .bool t1, .bool t2, .bool t3, .int .u8 3, .int .i64 tt, .int .i64 si] 0) hB1
    have c1_9 : w1.cell? ⟨w.heap.size + 1, 1, none⟩ = some (.int .i64 x1) := keep_cell (box1 w 37 #[.int .i64 job, .int .i64 x1, .int .i64 x2, .int .i64 x3, .int .i64 x4, .int .i64 x5, .int .i64 x6, .bool t1, .bool t2, .bool t3, .int .u8 3, .int .i64 tt, .int .i64 si] 1) hB1
    have c1_10 : w1.cell? ⟨w.heap.size + 1, 2, none⟩ = some (.int .i64 x2) := keep_cell (box1 w 37 #[.int .i64 job, .int .i64 x1, .int .i64 x2, .int .i64 x3, .int .i64 x4, .int .i64 x5, .int .i64 x6, .bool t1, .bool t2, .bool t3, .int .u8 3, .int .i64 tt, .int .i64 si] 2) hB1
    have c1_11 : w1.cell? ⟨w.heap.size + 1, 3, none⟩ = some (.int .i64 x3) := keep_cell (box1 w 37 #[.int .i64 job, .int .i64 x1, .int .i64 x2, .int .i64 x3, .int .i64 x4, .int .i64 x5, .int .i64 x6, .bool t1, .bool t2, .bool t3, .int .u8 3, .int .i64 tt, .int .i64 si] 3) hB1
    have c1_12 : w1.cell? ⟨w.heap.size + 1, 4, none⟩ = some (.int .i64 x4) := keep_cell (box1 w 37 #[.int .i64 job, .int .i64 x1, .int .i64 x2, .int .i64 x3, .int .i64 x4, .int .i64 x5, .int .i64 x6, .bool t1, .bool t2, .bool t3, .int .u8 3, .int .i64 tt, .int .i64 si] 4) hB1
    have c1_13 : w1.cell? ⟨w.heap.size + 1, 5, none⟩ = some (.int .i64 x5) := keep_cell (box1 w 37 #[.int .i64 job, .int .i64 x1, .int .i64 x2, .int .i64 x3, .int .i64 x4, .int .i64 x5, .int .i64 x6, .bool t1, .bool t2, .bool t3, .int .u8 3, .int .i64 tt, .int .i64 si] 5) hB1
    have c1_14 : w1.cell? ⟨w.heap.size + 1, 6, none⟩ = some (.int .i64 x6) := keep_cell (box1 w 37 #[.int .i64 job, .int .i64 x1, .int .i64 x2, .int .i64 x3, .int .i64 x4, .int .i64 x5, .int .i64 x6, .bool t1, .bool t2, .bool t3, .int .u8 3, .int .i64 tt, .int .i64 si] 6) hB1
    have c1_15 : w1.cell? ⟨w.heap.size + 1, 7, none⟩ = some (.bool t1) := keep_cell (box1 w 37 #[.int .i64 job, .int .i64 x1, .int .i64 x2, .int .i64 x3, .int .i64 x4, .int .i64 x5, .int .i64 x6, .bool t1, .bool t2, .bool t3, .int .u8 3, .int .i64 tt, .int .i64 si] 7) hB1
    have c1_16 : w1.cell? ⟨w.heap.size + 1, 8, none⟩ = some (.bool t2) := keep_cell (box1 w 37 #[.int .i64 job, .int .i64 x1, .int .i64 x2, .int .i64 x3, .int .i64 x4, .int .i64 x5, .int .i64 x6, .bool t1, .bool t2, .bool t3, .int .u8 3, .int .i64 tt, .int .i64 si] 8) hB1
    have c1_17 : w1.cell? ⟨w.heap.size + 1, 9, none⟩ = some (.bool t3) := keep_cell (box1 w 37 #[.int .i64 job, .int .i64 x1, .int .i64 x2, .int .i64 x3, .int .i64 x4, .int .i64 x5, .int .i64 x6, .bool t1, .bool t2, .bool t3, .int .u8 3, .int .i64 tt, .int .i64 si] 9) hB1
    have c1_18 : w1.cell? ⟨w.heap.size + 1, 10, none⟩ = some (.int .u8 3) := keep_cell (box1 w 37 #[.int .i64 job, .int .i64 x1, .int .i64 x2, .int .i64 x3, .int .i64 x4, .int .i64 x5, .int .i64 x6, .bool t1, .bool t2, .bool t3, .int .u8 3, .int .i64 tt, .int .i64 si] 10) hB1
    have c1_19 : w1.cell? ⟨w.heap.size + 1, 11, none⟩ = some (.int .i64 tt) := keep_cell (box1 w 37 #[.int .i64 job, .int .i64 x1, .int .i64 x2, .int .i64 x3, .int .i64 x4, .int .i64 x5, .int .i64 x6, .bool t1, .bool t2, .bool t3, .int .u8 3, .int .i64 tt, .int .i64 si] 11) hB1
    have c1_20 : w1.cell? ⟨w.heap.size + 1, 12, none⟩ = some (.int .i64 si) := keep_cell (box1 w 37 #[.int .i64 job, .int .i64 x1, .int .i64 x2, .int .i64 x3, .int .i64 x4, .int .i64 x5, .int .i64 x6, .bool t1, .bool t2, .bool t3, .int .u8 3, .int .i64 tt, .int .i64 si] 12) hB1
    have z1_0 : w.heap.size < w1.heap.size := cell_lt c1_0
    have z1_1 : w.heap.size + 1 < w1.heap.size := cell_lt c1_8
    clear hB1  
    go_wp2_with fail
    refine (rclock3 a b c bo fr tr ag X cp ks job x1 x2 x3 x4 x5 x6 t1 t2 t3 tt si wall HF.out.1.1 HF.out.1.2 HF.out.2.1.1 HF.out.2.1.2 HF.out.2.2.1 HF.out.2.2.2 HS.out.1 HS.out.2 _).mono ?_
    rintro e w2 ⟨rfl, hB2⟩
    have HB2 : Hid (Below w.heap.size w w2) := below_up HB1.out hB2
    have c2_0 : w2.cell? ⟨w.heap.size, 0, none⟩ = some (.int .i64 a) := keep_cell c1_0 hB2
    have c2_1 : w2.cell? ⟨w.heap.size, 1, none⟩ = some (.int .i64 b) := keep_cell c1_1 hB2
    have c2_2 : w2.cell? ⟨w.heap.size, 2, none⟩ = some (.int .i64 c) := keep_cell c1_2 hB2
    have c2_3 : w2.cell? ⟨w.heap.size, 3, none⟩ = some (.int .i64 bo) := keep_cell c1_3 hB2
    have c2_4 : w2.cell? ⟨w.heap.size, 4, none⟩ = some (.int .i64 fr) := keep_cell c1_4 hB2
    have c2_5 : w2.cell? ⟨w.heap.size, 5, none⟩ = some (.int .i64 tr) := keep_cell c1_5 hB2
    have c2_6 : w2.cell? ⟨w.heap.size, 6, none⟩ = some (.int .i64 ag) := keep_cell c1_6 hB2
    have c2_7 : w2.cell? ⟨w.heap.size, 7, none⟩ = some (.slice X ks.length cp) := keep_cell c1_7 hB2
    have c2_8 : w2.cell? ⟨w.heap.size + 1, 0, none⟩ = some (.int .i64 job) := keep_cell c1_8 hB2
    have c2_9 : w2.cell? ⟨w.heap.size + 1, 1, none⟩ = some (.int .i64 x1) := keep_cell c1_9 hB2
    have c2_10 : w2.cell? ⟨w.heap.size + 1, 2, none⟩ = some (.int .i64 x2) := keep_cell c1_10 hB2
    have c2_11 : w2.cell? ⟨w.heap.size + 1, 3, none⟩ = some (.int .i64 x3) := keep_cell c1_11 hB2
    have c2_12 : w2.cell? ⟨w.heap.size + 1, 4, none⟩ = some (.int .i64 x4) := keep_cell c1_12 hB2
    have c2_13 : w2.cell? ⟨w.heap.size + 1, 5, none⟩ = some (.int .i64 x5) := keep_cell c1_13 hB2
    have c2_14 : w2.cell? ⟨w.heap.size + 1, 6, none⟩ = some (.int .i64 x6) := keep_cell c1_14 hB2
    have c2_15 : w2.cell? ⟨w.heap.size + 1, 7, none⟩ = some (.bool t1) := keep_cell c1_15 hB2
    have c2_16 : w2.cell? ⟨w.heap.size + 1, 8, none⟩ = some (.bool t2) := keep_cell c1_16 hB2
    have c2_17 : w2.cell? ⟨w.heap.size + 1, 9, none⟩ = some (.bool t3) := keep_cell c1_17 hB2
    have c2_18 : w2.cell? ⟨w.heap.size + 1, 10, none⟩ = some (.int .u8 3) := keep_cell c1_18 hB2
    have c2_19 : w2.cell? ⟨w.heap.size + 1, 11, none⟩ = some (.int .i64 tt) := keep_cell c1_19 hB2
    have c2_20 : w2.cell? ⟨w.heap.size + 1, 12, none⟩ = some (.int .i64 si) := keep_cell c1_20 hB2
    have z2_0 : w.heap.size < w2.heap.size := cell_lt c2_0
    have z2_1 : w.heap.size + 1 < w2.heap.size := cell_lt c2_8
    clear hB2 c1_0 c1_1 c1_2 c1_3 c1_4 c1_5 c1_6 c1_7 c1_8 c1_9 c1_10 c1_11 c1_12 c1_13 c1_14 c1_15 c1_16 c1_17 c1_18 c1_19 c1_20 z1_0 z1_1
    go_wp2_with fail
    go_ret2
    exact ⟨ret_pair (by rw [capM_hi (v := si + fr) (by have := HV.out; omega)]), HB2.out⟩
end Go.Proofs.Ytfndopemfhmhgaa.PartEnds2
