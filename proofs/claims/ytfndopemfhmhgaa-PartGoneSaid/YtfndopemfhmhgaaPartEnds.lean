/- The contracts of part.check, part.spans and of the reference's MayPart and asked. -/
import Derived.Test.YtfndopemfhmhgaaPartCheck
namespace Go.Proofs.Ytfndopemfhmhgaa.PartEnds
open Go.RowKit Mem PosMath PosCheck PartMath PartClass PartCheck
set_option linter.unusedVariables false

set_option maxRecDepth 100000 in
set_option maxHeartbeats 2000000 in
theorem pc_cfg (a b c bo fr tr ag : Int) (X : Option Addr) (cp : Nat) (ks : List Cls) (hl : ks.length ≤ 9223372036854775807) (job x1 x2 x3 x4 x5 x6 : Int) (t1 t2 t3 : Bool) (ph tt si : Int) (h : ¬ CfgOk a b c bo fr tr ag ks) (w : World) (hk : ClsAt w w.heap.size X ks) :
    Calls Try.prog 24 #[.agg #[.int .i64 a, .int .i64 b, .int .i64 c, .int .i64 bo, .int .i64 fr, .int .i64 tr, .int .i64 ag, .slice X ks.length cp], .agg #[.int .i64 job, .int .i64 x1, .int .i64 x2, .int .i64 x3, .int .i64 x4, .int .i64 x5, .int .i64 x6, .bool t1, .bool t2, .bool t3, .int .u8 ph, .int .i64 tt, .int .i64 si]] w (fun e w' => e = .returned (.int .i64 8) ∧ Below w.heap.size w w') := by
  have HH := Lib.hid h
  have HKK := Lib.hid hk
  clear h hk
  go_enter Try.func24, Try.ntmps24
  go_wp2_with fail
  refine (pcheck_bad a b c bo fr tr ag X cp ks hl HH.out _ (HKK.out.up (below_alloc (below_alloc (Below.refl _ _))))).mono ?_
  rintro e w1 ⟨rfl, hB1⟩
  have HB1 : Hid (Below w.heap.size w w1) := below_up (below_alloc (below_alloc (Below.refl _ _))) hB1
  have c1_0 : w1.cell? ⟨w.heap.size, 0, none⟩ = some (.int .i64 a) := keep_cell (cell_over _ (box0 w 26 #[.int .i64 a, .int .i64 b, .int .i64 c, .int .i64 bo, .int .i64 fr, .int .i64 tr, .int .i64 ag, .slice X ks.length cp] 0)) hB1
  have c1_1 : w1.cell? ⟨w.heap.size, 1, none⟩ = some (.int .i64 b) := keep_cell (cell_over _ (box0 w 26 #[.int .i64 a, .int .i64 b, .int .i64 c, .int .i64 bo, .int .i64 fr, .int .i64 tr, .int .i64 ag, .slice X ks.length cp] 1)) hB1
  have c1_2 : w1.cell? ⟨w.heap.size, 2, none⟩ = some (.int .i64 c) := keep_cell (cell_over _ (box0 w 26 #[.int .i64 a, .int .i64 b, .int .i64 c, .int .i64 bo, .int .i64 fr, .int .i64 tr, .int .i64 ag, .slice X ks.length cp] 2)) hB1
  have c1_3 : w1.cell? ⟨w.heap.size, 3, none⟩ = some (.int .i64 bo) := keep_cell (cell_over _ (box0 w 26 #[.int .i64 a, .int .i64 b, .int .i64 c, .int .i64 bo, .int .i64 fr, .int .i64 tr, .int .i64 ag, .slice X ks.length cp] 3)) hB1
  have c1_4 : w1.cell? ⟨w.heap.size, 4, none⟩ = some (.int .i64 fr) := keep_cell (cell_over _ (box0 w 26 #[.int .i64 a, .int .i64 b, .int .i64 c, .int .i64 bo, .int .i64 fr, .int .i64 tr, .int .i64 ag, .slice X ks.length cp] 4)) hB1
  have c1_5 : w1.cell? ⟨w.heap.size, 5, none⟩ = some (.int .i64 tr) := keep_cell (cell_over _ (box0 w 26 #[.int .i64 a, .int .i64 b, .int .i64 c, .int .i64 bo, .int .i64 fr, .int .i64 tr, .int .i64 ag, .slice X ks.length cp] 5)) hB1
  have c1_6 : w1.cell? ⟨w.heap.size, 6, none⟩ = some (.int .i64 ag) := keep_cell (cell_over _ (box0 w 26 #[.int .i64 a, .int .i64 b, .int .i64 c, .int .i64 bo, .int .i64 fr, .int .i64 tr, .int .i64 ag, .slice X ks.length cp] 6)) hB1
  have c1_7 : w1.cell? ⟨w.heap.size, 7, none⟩ = some (.slice X ks.length cp) := keep_cell (cell_over _ (box0 w 26 #[.int .i64 a, .int .i64 b, .int .i64 c, .int .i64 bo, .int .i64 fr, .int .i64 tr, .int .i64 ag, .slice X ks.length cp] 7)) hB1
  have c1_8 : w1.cell? ⟨w.heap.size + 1, 0, none⟩ = some (.int .i64 job) := keep_cell (box1 w 37 #[.int .i64 job, .int .i64 x1, .int .i64 x2, .int .i64 x3, .int .i64 x4, .int .i64 x5, .int .i64 x6, .bool t1, .bool t2, .bool t3, .int .u8 ph, .int .i64 tt, .int .i64 si] 0) hB1
  have c1_9 : w1.cell? ⟨w.heap.size + 1, 1, none⟩ = some (.int .i64 x1) := keep_cell (box1 w 37 #[.int .i64 job, .int .i64 x1, .int .i64 x2, .int .i64 x3, .int .i64 x4, .int .i64 x5, .int .i64 x6, .bool t1, .bool t2, .bool t3, .int .u8 ph, .int .i64 tt, .int .i64 si] 1) hB1
  have c1_10 : w1.cell? ⟨w.heap.size + 1, 2, none⟩ = some (.int .i64 x2) := keep_cell (box1 w 37 #[.int .i64 job, .int .i64 x1, .int .i64 x2, .int .i64 x3, .int .i64 x4, .int .i64 x5, .int .i64 x6, .bool t1, .bool t2, .bool t3, .int .u8 ph, .int .i64 tt, .int .i64 si] 2) hB1
  have c1_11 : w1.cell? ⟨w.heap.size + 1, 3, none⟩ = some (.int .i64 x3) := keep_cell (box1 w 37 #[.int .i64 job, .int .i64 x1, .int .i64 x2, .int .i64 x3, .int .i64 x4, .int .i64 x5, .int .i64 x6, .bool t1, .bool t2, .bool t3, .int .u8 ph, .int .i64 tt, .int .i64 si] 3) hB1
  have c1_12 : w1.cell? ⟨w.heap.size + 1, 4, none⟩ = some (.int .i64 x4) := keep_cell (box1 w 37 #[.int .i64 job, .int .i64 x1, .int .i64 x2, .int .i64 x3, .int .i64 x4, .int .i64 x5, .int .i64 x6, .bool t1, .bool t2, .bool t3, .int .u8 ph, .int .i64 tt, .int .i64 si] 4) hB1
  have c1_13 : w1.cell? ⟨w.heap.size + 1, 5, none⟩ = some (.int .i64 x5) := keep_cell (box1 w 37 #[.int .i64 job, .int .i64 x1, .int .i64 x2, .int .i64 x3, .int .i64 x4, .int .i64 x5, .int .i64 x6, .bool t1, .bool t2, .bool t3, .int .u8 ph, .int .i64 tt, .int .i64 si] 5) hB1
  have c1_14 : w1.cell? ⟨w.heap.size + 1, 6, none⟩ = some (.int .i64 x6) := keep_cell (box1 w 37 #[.int .i64 job, .int .i64 x1, .int .i64 x2, .int .i64 x3, .int .i64 x4, .int .i64 x5, .int .i64 x6, .bool t1, .bool t2, .bool t3, .int .u8 ph, .int .i64 tt, .int .i64 si] 6) hB1
  have c1_15 : w1.cell? ⟨w.heap.size + 1, 7, none⟩ = some (.bool t1) := keep_cell (box1 w 37 #[.int .i64 job, .int .i64 x1, .int .i64 x2, .int .i64 x3, .int .i64 x4, .int .i64 x5, .int .i64 x6, .bool t1, .bool t2, .bool t3, .int .u8 ph, .int .i64 tt, .int .i64 si] 7) hB1
  have c1_16 : w1.cell? ⟨w.heap.size + 1, 8, none⟩ = some (.bool t2) := keep_cell (box1 w 37 #[.int .i64 job, .int .i64 x1, .int .i64 x2, .int .i64 x3, .int .i64 x4, .int .i64 x5, .int .i64 x6, .bool t1, .bool t2, .bool t3, .int .u8 ph, .int .i64 tt, .int .i64 si] 8) hB1
  have c1_17 : w1.cell? ⟨w.heap.size + 1, 9, none⟩ = some (.bool t3) := keep_cell (box1 w 37 #[.int .i64 job, .int .i64 x1, .int .i64 x2, .int .i64 x3, .int .i64 x4, .int .i64 x5, .int .i64 x6, .bool t1, .bool t2, .bool t3, .int .u8 ph, .int .i64 tt, .int .i64 si] 9) hB1
  have c1_18 : w1.cell? ⟨w.heap.size + 1, 10, none⟩ = some (.int .u8 ph) := keep_cell (box1 w 37 #[.int .i64 job, .int .i64 x1, .int .i64 x2, .int .i64 x3, .int .i64 x4, .int .i64 x5, .int .i64 x6, .bool t1, .bool t2, .bool t3, .int .u8 ph, .int .i64 tt, .int .i64 si] 10) hB1
  have c1_19 : w1.cell? ⟨w.heap.size + 1, 11, none⟩ = some (.int .i64 tt) := keep_cell (box1 w 37 #[.int .i64 job, .int .i64 x1, .int .i64 x2, .int .i64 x3, .int .i64 x4, .int .i64 x5, .int .i64 x6, .bool t1, .bool t2, .bool t3, .int .u8 ph, .int .i64 tt, .int .i64 si] 11) hB1
  have c1_20 : w1.cell? ⟨w.heap.size + 1, 12, none⟩ = some (.int .i64 si) := keep_cell (box1 w 37 #[.int .i64 job, .int .i64 x1, .int .i64 x2, .int .i64 x3, .int .i64 x4, .int .i64 x5, .int .i64 x6, .bool t1, .bool t2, .bool t3, .int .u8 ph, .int .i64 tt, .int .i64 si] 12) hB1
  have z1_0 : w.heap.size < w1.heap.size := cell_lt c1_0
  have z1_1 : w.heap.size + 1 < w1.heap.size := cell_lt c1_8
  clear hB1  
  go_wp2_with fail
  go_ret
  exact ⟨rfl, HB1.out⟩
set_option maxRecDepth 100000 in
set_option maxHeartbeats 2000000 in
theorem pc0 (a b c bo fr tr ag : Int) (X : Option Addr) (cp : Nat) (ks : List Cls) (hl : ks.length ≤ 9223372036854775807) (job x1 x2 x3 x4 x5 x6 : Int) (t1 t2 t3 : Bool) (ph tt si : Int) (h : CfgOk a b c bo fr tr ag ks) (hJ : inB job 1 2147483647 = false) (w : World) (hk : ClsAt w w.heap.size X ks) :
    Calls Try.prog 24 #[.agg #[.int .i64 a, .int .i64 b, .int .i64 c, .int .i64 bo, .int .i64 fr, .int .i64 tr, .int .i64 ag, .slice X ks.length cp], .agg #[.int .i64 job, .int .i64 x1, .int .i64 x2, .int .i64 x3, .int .i64 x4, .int .i64 x5, .int .i64 x6, .bool t1, .bool t2, .bool t3, .int .u8 ph, .int .i64 tt, .int .i64 si]] w (fun e w' => e = .returned (.int .i64 8) ∧ Below w.heap.size w w') := by
  have HH := Lib.hid h
  have HKK := Lib.hid hk
  clear h hk
  have HJ := Lib.hid hJ
  clear hJ
  go_enter Try.func24, Try.ntmps24
  go_wp2_with fail
  refine (pcheck_ok a b c bo fr tr ag X cp ks hl HH.out _ (HKK.out.up (below_alloc (below_alloc (Below.refl _ _))))).mono ?_
  rintro e w1 ⟨rfl, hB1⟩
  have HB1 : Hid (Below w.heap.size w w1) := below_up (below_alloc (below_alloc (Below.refl _ _))) hB1
  have c1_0 : w1.cell? ⟨w.heap.size, 0, none⟩ = some (.int .i64 a) := keep_cell (cell_over _ (box0 w 26 #[.int .i64 a, .int .i64 b, .int .i64 c, .int .i64 bo, .int .i64 fr, .int .i64 tr, .int .i64 ag, .slice X ks.length cp] 0)) hB1
  have c1_1 : w1.cell? ⟨w.heap.size, 1, none⟩ = some (.int .i64 b) := keep_cell (cell_over _ (box0 w 26 #[.int .i64 a, .int .i64 b, .int .i64 c, .int .i64 bo, .int .i64 fr, .int .i64 tr, .int .i64 ag, .slice X ks.length cp] 1)) hB1
  have c1_2 : w1.cell? ⟨w.heap.size, 2, none⟩ = some (.int .i64 c) := keep_cell (cell_over _ (box0 w 26 #[.int .i64 a, .int .i64 b, .int .i64 c, .int .i64 bo, .int .i64 fr, .int .i64 tr, .int .i64 ag, .slice X ks.length cp] 2)) hB1
  have c1_3 : w1.cell? ⟨w.heap.size, 3, none⟩ = some (.int .i64 bo) := keep_cell (cell_over _ (box0 w 26 #[.int .i64 a, .int .i64 b, .int .i64 c, .int .i64 bo, .int .i64 fr, .int .i64 tr, .int .i64 ag, .slice X ks.length cp] 3)) hB1
  have c1_4 : w1.cell? ⟨w.heap.size, 4, none⟩ = some (.int .i64 fr) := keep_cell (cell_over _ (box0 w 26 #[.int .i64 a, .int .i64 b, .int .i64 c, .int .i64 bo, .int .i64 fr, .int .i64 tr, .int .i64 ag, .slice X ks.length cp] 4)) hB1
  have c1_5 : w1.cell? ⟨w.heap.size, 5, none⟩ = some (.int .i64 tr) := keep_cell (cell_over _ (box0 w 26 #[.int .i64 a, .int .i64 b, .int .i64 c, .int .i64 bo, .int .i64 fr, .int .i64 tr, .int .i64 ag, .slice X ks.length cp] 5)) hB1
  have c1_6 : w1.cell? ⟨w.heap.size, 6, none⟩ = some (.int .i64 ag) := keep_cell (cell_over _ (box0 w 26 #[.int .i64 a, .int .i64 b, .int .i64 c, .int .i64 bo, .int .i64 fr, .int .i64 tr, .int .i64 ag, .slice X ks.length cp] 6)) hB1
  have c1_7 : w1.cell? ⟨w.heap.size, 7, none⟩ = some (.slice X ks.length cp) := keep_cell (cell_over _ (box0 w 26 #[.int .i64 a, .int .i64 b, .int .i64 c, .int .i64 bo, .int .i64 fr, .int .i64 tr, .int .i64 ag, .slice X ks.length cp] 7)) hB1
  have c1_8 : w1.cell? ⟨w.heap.size + 1, 0, none⟩ = some (.int .i64 job) := keep_cell (box1 w 37 #[.int .i64 job, .int .i64 x1, .int .i64 x2, .int .i64 x3, .int .i64 x4, .int .i64 x5, .int .i64 x6, .bool t1, .bool t2, .bool t3, .int .u8 ph, .int .i64 tt, .int .i64 si] 0) hB1
  have c1_9 : w1.cell? ⟨w.heap.size + 1, 1, none⟩ = some (.int .i64 x1) := keep_cell (box1 w 37 #[.int .i64 job, .int .i64 x1, .int .i64 x2, .int .i64 x3, .int .i64 x4, .int .i64 x5, .int .i64 x6, .bool t1, .bool t2, .bool t3, .int .u8 ph, .int .i64 tt, .int .i64 si] 1) hB1
  have c1_10 : w1.cell? ⟨w.heap.size + 1, 2, none⟩ = some (.int .i64 x2) := keep_cell (box1 w 37 #[.int .i64 job, .int .i64 x1, .int .i64 x2, .int .i64 x3, .int .i64 x4, .int .i64 x5, .int .i64 x6, .bool t1, .bool t2, .bool t3, .int .u8 ph, .int .i64 tt, .int .i64 si] 2) hB1
  have c1_11 : w1.cell? ⟨w.heap.size + 1, 3, none⟩ = some (.int .i64 x3) := keep_cell (box1 w 37 #[.int .i64 job, .int .i64 x1, .int .i64 x2, .int .i64 x3, .int .i64 x4, .int .i64 x5, .int .i64 x6, .bool t1, .bool t2, .bool t3, .int .u8 ph, .int .i64 tt, .int .i64 si] 3) hB1
  have c1_12 : w1.cell? ⟨w.heap.size + 1, 4, none⟩ = some (.int .i64 x4) := keep_cell (box1 w 37 #[.int .i64 job, .int .i64 x1, .int .i64 x2, .int .i64 x3, .int .i64 x4, .int .i64 x5, .int .i64 x6, .bool t1, .bool t2, .bool t3, .int .u8 ph, .int .i64 tt, .int .i64 si] 4) hB1
  have c1_13 : w1.cell? ⟨w.heap.size + 1, 5, none⟩ = some (.int .i64 x5) := keep_cell (box1 w 37 #[.int .i64 job, .int .i64 x1, .int .i64 x2, .int .i64 x3, .int .i64 x4, .int .i64 x5, .int .i64 x6, .bool t1, .bool t2, .bool t3, .int .u8 ph, .int .i64 tt, .int .i64 si] 5) hB1
  have c1_14 : w1.cell? ⟨w.heap.size + 1, 6, none⟩ = some (.int .i64 x6) := keep_cell (box1 w 37 #[.int .i64 job, .int .i64 x1, .int .i64 x2, .int .i64 x3, .int .i64 x4, .int .i64 x5, .int .i64 x6, .bool t1, .bool t2, .bool t3, .int .u8 ph, .int .i64 tt, .int .i64 si] 6) hB1
  have c1_15 : w1.cell? ⟨w.heap.size + 1, 7, none⟩ = some (.bool t1) := keep_cell (box1 w 37 #[.int .i64 job, .int .i64 x1, .int .i64 x2, .int .i64 x3, .int .i64 x4, .int .i64 x5, .int .i64 x6, .bool t1, .bool t2, .bool t3, .int .u8 ph, .int .i64 tt, .int .i64 si] 7) hB1
  have c1_16 : w1.cell? ⟨w.heap.size + 1, 8, none⟩ = some (.bool t2) := keep_cell (box1 w 37 #[.int .i64 job, .int .i64 x1, .int .i64 x2, .int .i64 x3, .int .i64 x4, .int .i64 x5, .int .i64 x6, .bool t1, .bool t2, .bool t3, .int .u8 ph, .int .i64 tt, .int .i64 si] 8) hB1
  have c1_17 : w1.cell? ⟨w.heap.size + 1, 9, none⟩ = some (.bool t3) := keep_cell (box1 w 37 #[.int .i64 job, .int .i64 x1, .int .i64 x2, .int .i64 x3, .int .i64 x4, .int .i64 x5, .int .i64 x6, .bool t1, .bool t2, .bool t3, .int .u8 ph, .int .i64 tt, .int .i64 si] 9) hB1
  have c1_18 : w1.cell? ⟨w.heap.size + 1, 10, none⟩ = some (.int .u8 ph) := keep_cell (box1 w 37 #[.int .i64 job, .int .i64 x1, .int .i64 x2, .int .i64 x3, .int .i64 x4, .int .i64 x5, .int .i64 x6, .bool t1, .bool t2, .bool t3, .int .u8 ph, .int .i64 tt, .int .i64 si] 10) hB1
  have c1_19 : w1.cell? ⟨w.heap.size + 1, 11, none⟩ = some (.int .i64 tt) := keep_cell (box1 w 37 #[.int .i64 job, .int .i64 x1, .int .i64 x2, .int .i64 x3, .int .i64 x4, .int .i64 x5, .int .i64 x6, .bool t1, .bool t2, .bool t3, .int .u8 ph, .int .i64 tt, .int .i64 si] 11) hB1
  have c1_20 : w1.cell? ⟨w.heap.size + 1, 12, none⟩ = some (.int .i64 si) := keep_cell (box1 w 37 #[.int .i64 job, .int .i64 x1, .int .i64 x2, .int .i64 x3, .int .i64 x4, .int .i64 x5, .int .i64 x6, .bool t1, .bool t2, .bool t3, .int .u8 ph, .int .i64 tt, .int .i64 si] 12) hB1
  have z1_0 : w.heap.size < w1.heap.size := cell_lt c1_0
  have z1_1 : w.heap.size + 1 < w1.heap.size := cell_lt c1_8
  clear hB1  
  go_wp2_with fail
  refine (within_to _ _ _ _ HJ.out _).mono ?_
  rintro e w' ⟨rfl, rfl⟩
  go_wp2_with fail
  go_ret
  exact ⟨rfl, HB1.out⟩
set_option maxRecDepth 100000 in
set_option maxHeartbeats 2000000 in
theorem rp0 (a b c bo fr tr ag : Int) (X : Option Addr) (cp : Nat) (ks : List Cls) (job x1 x2 x3 x4 x5 x6 : Int) (t1 t2 t3 : Bool) (ph tt si : Int) (hJ : inB job 1 2147483647 = false) (w : World) :
    Calls Try.prog 31 #[.agg #[.int .i64 a, .int .i64 b, .int .i64 c, .int .i64 bo, .int .i64 fr, .int .i64 tr, .int .i64 ag, .slice X ks.length cp], .agg #[.int .i64 job, .int .i64 x1, .int .i64 x2, .int .i64 x3, .int .i64 x4, .int .i64 x5, .int .i64 x6, .bool t1, .bool t2, .bool t3, .int .u8 ph, .int .i64 tt, .int .i64 si]] w (fun e w' => e = .returned (.bool false) ∧ Below w.heap.size w w') := by
  have HJ := Lib.hid hJ
  clear hJ
  go_enter Try.func31, Try.ntmps31
  go_wp2_with fail
  refine (in_to _ _ _ _ HJ.out _).mono ?_
  rintro e w' ⟨rfl, rfl⟩
  go_wp2_with fail
  go_ret
  exact ⟨rfl, (below_alloc (below_alloc (Below.refl _ _)))⟩
set_option maxRecDepth 100000 in
set_option maxHeartbeats 2000000 in
theorem pc1 (a b c bo fr tr ag : Int) (X : Option Addr) (cp : Nat) (ks : List Cls) (hl : ks.length ≤ 9223372036854775807) (job x1 x2 x3 x4 x5 x6 : Int) (t1 t2 t3 : Bool) (ph tt si : Int) (h : CfgOk a b c bo fr tr ag ks) (hJ : inB job 1 2147483647 = true) (hp1 : ph < 1) (w : World) (hk : ClsAt w w.heap.size X ks) :
    Calls Try.prog 24 #[.agg #[.int .i64 a, .int .i64 b, .int .i64 c, .int .i64 bo, .int .i64 fr, .int .i64 tr, .int .i64 ag, .slice X ks.length cp], .agg #[.int .i64 job, .int .i64 x1, .int .i64 x2, .int .i64 x3, .int .i64 x4, .int .i64 x5, .int .i64 x6, .bool t1, .bool t2, .bool t3, .int .u8 ph, .int .i64 tt, .int .i64 si]] w (fun e w' => e = .returned (.int .i64 8) ∧ Below w.heap.size w w') := by
  have HH := Lib.hid h
  have HKK := Lib.hid hk
  clear h hk
  have HJ := Lib.hid hJ
  clear hJ
  go_enter Try.func24, Try.ntmps24
  go_wp2_with fail
  refine (pcheck_ok a b c bo fr tr ag X cp ks hl HH.out _ (HKK.out.up (below_alloc (below_alloc (Below.refl _ _))))).mono ?_
  rintro e w1 ⟨rfl, hB1⟩
  have HB1 : Hid (Below w.heap.size w w1) := below_up (below_alloc (below_alloc (Below.refl _ _))) hB1
  have c1_0 : w1.cell? ⟨w.heap.size, 0, none⟩ = some (.int .i64 a) := keep_cell (cell_over _ (box0 w 26 #[.int .i64 a, .int .i64 b, .int .i64 c, .int .i64 bo, .int .i64 fr, .int .i64 tr, .int .i64 ag, .slice X ks.length cp] 0)) hB1
  have c1_1 : w1.cell? ⟨w.heap.size, 1, none⟩ = some (.int .i64 b) := keep_cell (cell_over _ (box0 w 26 #[.int .i64 a, .int .i64 b, .int .i64 c, .int .i64 bo, .int .i64 fr, .int .i64 tr, .int .i64 ag, .slice X ks.length cp] 1)) hB1
  have c1_2 : w1.cell? ⟨w.heap.size, 2, none⟩ = some (.int .i64 c) := keep_cell (cell_over _ (box0 w 26 #[.int .i64 a, .int .i64 b, .int .i64 c, .int .i64 bo, .int .i64 fr, .int .i64 tr, .int .i64 ag, .slice X ks.length cp] 2)) hB1
  have c1_3 : w1.cell? ⟨w.heap.size, 3, none⟩ = some (.int .i64 bo) := keep_cell (cell_over _ (box0 w 26 #[.int .i64 a, .int .i64 b, .int .i64 c, .int .i64 bo, .int .i64 fr, .int .i64 tr, .int .i64 ag, .slice X ks.length cp] 3)) hB1
  have c1_4 : w1.cell? ⟨w.heap.size, 4, none⟩ = some (.int .i64 fr) := keep_cell (cell_over _ (box0 w 26 #[.int .i64 a, .int .i64 b, .int .i64 c, .int .i64 bo, .int .i64 fr, .int .i64 tr, .int .i64 ag, .slice X ks.length cp] 4)) hB1
  have c1_5 : w1.cell? ⟨w.heap.size, 5, none⟩ = some (.int .i64 tr) := keep_cell (cell_over _ (box0 w 26 #[.int .i64 a, .int .i64 b, .int .i64 c, .int .i64 bo, .int .i64 fr, .int .i64 tr, .int .i64 ag, .slice X ks.length cp] 5)) hB1
  have c1_6 : w1.cell? ⟨w.heap.size, 6, none⟩ = some (.int .i64 ag) := keep_cell (cell_over _ (box0 w 26 #[.int .i64 a, .int .i64 b, .int .i64 c, .int .i64 bo, .int .i64 fr, .int .i64 tr, .int .i64 ag, .slice X ks.length cp] 6)) hB1
  have c1_7 : w1.cell? ⟨w.heap.size, 7, none⟩ = some (.slice X ks.length cp) := keep_cell (cell_over _ (box0 w 26 #[.int .i64 a, .int .i64 b, .int .i64 c, .int .i64 bo, .int .i64 fr, .int .i64 tr, .int .i64 ag, .slice X ks.length cp] 7)) hB1
  have c1_8 : w1.cell? ⟨w.heap.size + 1, 0, none⟩ = some (.int .i64 job) := keep_cell (box1 w 37 #[.int .i64 job, .int .i64 x1, .int .i64 x2, .int .i64 x3, .int .i64 x4, .int .i64 x5, .int .i64 x6, .bool t1, .bool t2, .bool t3, .int .u8 ph, .int .i64 tt, .int .i64 si] 0) hB1
  have c1_9 : w1.cell? ⟨w.heap.size + 1, 1, none⟩ = some (.int .i64 x1) := keep_cell (box1 w 37 #[.int .i64 job, .int .i64 x1, .int .i64 x2, .int .i64 x3, .int .i64 x4, .int .i64 x5, .int .i64 x6, .bool t1, .bool t2, .bool t3, .int .u8 ph, .int .i64 tt, .int .i64 si] 1) hB1
  have c1_10 : w1.cell? ⟨w.heap.size + 1, 2, none⟩ = some (.int .i64 x2) := keep_cell (box1 w 37 #[.int .i64 job, .int .i64 x1, .int .i64 x2, .int .i64 x3, .int .i64 x4, .int .i64 x5, .int .i64 x6, .bool t1, .bool t2, .bool t3, .int .u8 ph, .int .i64 tt, .int .i64 si] 2) hB1
  have c1_11 : w1.cell? ⟨w.heap.size + 1, 3, none⟩ = some (.int .i64 x3) := keep_cell (box1 w 37 #[.int .i64 job, .int .i64 x1, .int .i64 x2, .int .i64 x3, .int .i64 x4, .int .i64 x5, .int .i64 x6, .bool t1, .bool t2, .bool t3, .int .u8 ph, .int .i64 tt, .int .i64 si] 3) hB1
  have c1_12 : w1.cell? ⟨w.heap.size + 1, 4, none⟩ = some (.int .i64 x4) := keep_cell (box1 w 37 #[.int .i64 job, .int .i64 x1, .int .i64 x2, .int .i64 x3, .int .i64 x4, .int .i64 x5, .int .i64 x6, .bool t1, .bool t2, .bool t3, .int .u8 ph, .int .i64 tt, .int .i64 si] 4) hB1
  have c1_13 : w1.cell? ⟨w.heap.size + 1, 5, none⟩ = some (.int .i64 x5) := keep_cell (box1 w 37 #[.int .i64 job, .int .i64 x1, .int .i64 x2, .int .i64 x3, .int .i64 x4, .int .i64 x5, .int .i64 x6, .bool t1, .bool t2, .bool t3, .int .u8 ph, .int .i64 tt, .int .i64 si] 5) hB1
  have c1_14 : w1.cell? ⟨w.heap.size + 1, 6, none⟩ = some (.int .i64 x6) := keep_cell (box1 w 37 #[.int .i64 job, .int .i64 x1, .int .i64 x2, .int .i64 x3, .int .i64 x4, .int .i64 x5, .int .i64 x6, .bool t1, .bool t2, .bool t3, .int .u8 ph, .int .i64 tt, .int .i64 si] 6) hB1
  have c1_15 : w1.cell? ⟨w.heap.size + 1, 7, none⟩ = some (.bool t1) := keep_cell (box1 w 37 #[.int .i64 job, .int .i64 x1, .int .i64 x2, .int .i64 x3, .int .i64 x4, .int .i64 x5, .int .i64 x6, .bool t1, .bool t2, .bool t3, .int .u8 ph, .int .i64 tt, .int .i64 si] 7) hB1
  have c1_16 : w1.cell? ⟨w.heap.size + 1, 8, none⟩ = some (.bool t2) := keep_cell (box1 w 37 #[.int .i64 job, .int .i64 x1, .int .i64 x2, .int .i64 x3, .int .i64 x4, .int .i64 x5, .int .i64 x6, .bool t1, .bool t2, .bool t3, .int .u8 ph, .int .i64 tt, .int .i64 si] 8) hB1
  have c1_17 : w1.cell? ⟨w.heap.size + 1, 9, none⟩ = some (.bool t3) := keep_cell (box1 w 37 #[.int .i64 job, .int .i64 x1, .int .i64 x2, .int .i64 x3, .int .i64 x4, .int .i64 x5, .int .i64 x6, .bool t1, .bool t2, .bool t3, .int .u8 ph, .int .i64 tt, .int .i64 si] 9) hB1
  have c1_18 : w1.cell? ⟨w.heap.size + 1, 10, none⟩ = some (.int .u8 ph) := keep_cell (box1 w 37 #[.int .i64 job, .int .i64 x1, .int .i64 x2, .int .i64 x3, .int .i64 x4, .int .i64 x5, .int .i64 x6, .bool t1, .bool t2, .bool t3, .int .u8 ph, .int .i64 tt, .int .i64 si] 10) hB1
  have c1_19 : w1.cell? ⟨w.heap.size + 1, 11, none⟩ = some (.int .i64 tt) := keep_cell (box1 w 37 #[.int .i64 job, .int .i64 x1, .int .i64 x2, .int .i64 x3, .int .i64 x4, .int .i64 x5, .int .i64 x6, .bool t1, .bool t2, .bool t3, .int .u8 ph, .int .i64 tt, .int .i64 si] 11) hB1
  have c1_20 : w1.cell? ⟨w.heap.size + 1, 12, none⟩ = some (.int .i64 si) := keep_cell (box1 w 37 #[.int .i64 job, .int .i64 x1, .int .i64 x2, .int .i64 x3, .int .i64 x4, .int .i64 x5, .int .i64 x6, .bool t1, .bool t2, .bool t3, .int .u8 ph, .int .i64 tt, .int .i64 si] 12) hB1
  have z1_0 : w.heap.size < w1.heap.size := cell_lt c1_0
  have z1_1 : w.heap.size + 1 < w1.heap.size := cell_lt c1_8
  clear hB1  
  go_wp2_with fail
  refine (within_to _ _ _ _ HJ.out _).mono ?_
  rintro e w' ⟨rfl, rfl⟩
  go_wp2_with fail
  go_ret
  exact ⟨rfl, HB1.out⟩
set_option maxRecDepth 100000 in
set_option maxHeartbeats 2000000 in
theorem rp1 (a b c bo fr tr ag : Int) (X : Option Addr) (cp : Nat) (ks : List Cls) (job x1 x2 x3 x4 x5 x6 : Int) (t1 t2 t3 : Bool) (ph tt si : Int) (hJ : inB job 1 2147483647 = true) (hp1 : ph < 1) (w : World) :
    Calls Try.prog 31 #[.agg #[.int .i64 a, .int .i64 b, .int .i64 c, .int .i64 bo, .int .i64 fr, .int .i64 tr, .int .i64 ag, .slice X ks.length cp], .agg #[.int .i64 job, .int .i64 x1, .int .i64 x2, .int .i64 x3, .int .i64 x4, .int .i64 x5, .int .i64 x6, .bool t1, .bool t2, .bool t3, .int .u8 ph, .int .i64 tt, .int .i64 si]] w (fun e w' => e = .returned (.bool false) ∧ Below w.heap.size w w') := by
  have HJ := Lib.hid hJ
  clear hJ
  go_enter Try.func31, Try.ntmps31
  go_wp2_with fail
  refine (in_to _ _ _ _ HJ.out _).mono ?_
  rintro e w' ⟨rfl, rfl⟩
  go_wp2_with fail
  go_ret
  exact ⟨rfl, (below_alloc (below_alloc (Below.refl _ _)))⟩
set_option maxRecDepth 100000 in
set_option maxHeartbeats 2000000 in
theorem pc2 (a b c bo fr tr ag : Int) (X : Option Addr) (cp : Nat) (ks : List Cls) (hl : ks.length ≤ 9223372036854775807) (job x1 x2 x3 x4 x5 x6 : Int) (t1 t2 t3 : Bool) (ph tt si : Int) (h : CfgOk a b c bo fr tr ag ks) (hJ : inB job 1 2147483647 = true) (hp1 : 1 ≤ ph) (hp2 : 3 < ph) (w : World) (hk : ClsAt w w.heap.size X ks) :
    Calls Try.prog 24 #[.agg #[.int .i64 a, .int .i64 b, .int .i64 c, .int .i64 bo, .int .i64 fr, .int .i64 tr, .int .i64 ag, .slice X ks.length cp], .agg #[.int .i64 job, .int .i64 x1, .int .i64 x2, .int .i64 x3, .int .i64 x4, .int .i64 x5, .int .i64 x6, .bool t1, .bool t2, .bool t3, .int .u8 ph, .int .i64 tt, .int .i64 si]] w (fun e w' => e = .returned (.int .i64 8) ∧ Below w.heap.size w w') := by
  have HH := Lib.hid h
  have HKK := Lib.hid hk
  clear h hk
  have HJ := Lib.hid hJ
  clear hJ
  go_enter Try.func24, Try.ntmps24
  go_wp2_with fail
  refine (pcheck_ok a b c bo fr tr ag X cp ks hl HH.out _ (HKK.out.up (below_alloc (below_alloc (Below.refl _ _))))).mono ?_
  rintro e w1 ⟨rfl, hB1⟩
  have HB1 : Hid (Below w.heap.size w w1) := below_up (below_alloc (below_alloc (Below.refl _ _))) hB1
  have c1_0 : w1.cell? ⟨w.heap.size, 0, none⟩ = some (.int .i64 a) := keep_cell (cell_over _ (box0 w 26 #[.int .i64 a, .int .i64 b, .int .i64 c, .int .i64 bo, .int .i64 fr, .int .i64 tr, .int .i64 ag, .slice X ks.length cp] 0)) hB1
  have c1_1 : w1.cell? ⟨w.heap.size, 1, none⟩ = some (.int .i64 b) := keep_cell (cell_over _ (box0 w 26 #[.int .i64 a, .int .i64 b, .int .i64 c, .int .i64 bo, .int .i64 fr, .int .i64 tr, .int .i64 ag, .slice X ks.length cp] 1)) hB1
  have c1_2 : w1.cell? ⟨w.heap.size, 2, none⟩ = some (.int .i64 c) := keep_cell (cell_over _ (box0 w 26 #[.int .i64 a, .int .i64 b, .int .i64 c, .int .i64 bo, .int .i64 fr, .int .i64 tr, .int .i64 ag, .slice X ks.length cp] 2)) hB1
  have c1_3 : w1.cell? ⟨w.heap.size, 3, none⟩ = some (.int .i64 bo) := keep_cell (cell_over _ (box0 w 26 #[.int .i64 a, .int .i64 b, .int .i64 c, .int .i64 bo, .int .i64 fr, .int .i64 tr, .int .i64 ag, .slice X ks.length cp] 3)) hB1
  have c1_4 : w1.cell? ⟨w.heap.size, 4, none⟩ = some (.int .i64 fr) := keep_cell (cell_over _ (box0 w 26 #[.int .i64 a, .int .i64 b, .int .i64 c, .int .i64 bo, .int .i64 fr, .int .i64 tr, .int .i64 ag, .slice X ks.length cp] 4)) hB1
  have c1_5 : w1.cell? ⟨w.heap.size, 5, none⟩ = some (.int .i64 tr) := keep_cell (cell_over _ (box0 w 26 #[.int .i64 a, .int .i64 b, .int .i64 c, .int .i64 bo, .int .i64 fr, .int .i64 tr, .int .i64 ag, .slice X ks.length cp] 5)) hB1
  have c1_6 : w1.cell? ⟨w.heap.size, 6, none⟩ = some (.int .i64 ag) := keep_cell (cell_over _ (box0 w 26 #[.int .i64 a, .int .i64 b, .int .i64 c, .int .i64 bo, .int .i64 fr, .int .i64 tr, .int .i64 ag, .slice X ks.length cp] 6)) hB1
  have c1_7 : w1.cell? ⟨w.heap.size, 7, none⟩ = some (.slice X ks.length cp) := keep_cell (cell_over _ (box0 w 26 #[.int .i64 a, .int .i64 b, .int .i64 c, .int .i64 bo, .int .i64 fr, .int .i64 tr, .int .i64 ag, .slice X ks.length cp] 7)) hB1
  have c1_8 : w1.cell? ⟨w.heap.size + 1, 0, none⟩ = some (.int .i64 job) := keep_cell (box1 w 37 #[.int .i64 job, .int .i64 x1, .int .i64 x2, .int .i64 x3, .int .i64 x4, .int .i64 x5, .int .i64 x6, .bool t1, .bool t2, .bool t3, .int .u8 ph, .int .i64 tt, .int .i64 si] 0) hB1
  have c1_9 : w1.cell? ⟨w.heap.size + 1, 1, none⟩ = some (.int .i64 x1) := keep_cell (box1 w 37 #[.int .i64 job, .int .i64 x1, .int .i64 x2, .int .i64 x3, .int .i64 x4, .int .i64 x5, .int .i64 x6, .bool t1, .bool t2, .bool t3, .int .u8 ph, .int .i64 tt, .int .i64 si] 1) hB1
  have c1_10 : w1.cell? ⟨w.heap.size + 1, 2, none⟩ = some (.int .i64 x2) := keep_cell (box1 w 37 #[.int .i64 job, .int .i64 x1, .int .i64 x2, .int .i64 x3, .int .i64 x4, .int .i64 x5, .int .i64 x6, .bool t1, .bool t2, .bool t3, .int .u8 ph, .int .i64 tt, .int .i64 si] 2) hB1
  have c1_11 : w1.cell? ⟨w.heap.size + 1, 3, none⟩ = some (.int .i64 x3) := keep_cell (box1 w 37 #[.int .i64 job, .int .i64 x1, .int .i64 x2, .int .i64 x3, .int .i64 x4, .int .i64 x5, .int .i64 x6, .bool t1, .bool t2, .bool t3, .int .u8 ph, .int .i64 tt, .int .i64 si] 3) hB1
  have c1_12 : w1.cell? ⟨w.heap.size + 1, 4, none⟩ = some (.int .i64 x4) := keep_cell (box1 w 37 #[.int .i64 job, .int .i64 x1, .int .i64 x2, .int .i64 x3, .int .i64 x4, .int .i64 x5, .int .i64 x6, .bool t1, .bool t2, .bool t3, .int .u8 ph, .int .i64 tt, .int .i64 si] 4) hB1
  have c1_13 : w1.cell? ⟨w.heap.size + 1, 5, none⟩ = some (.int .i64 x5) := keep_cell (box1 w 37 #[.int .i64 job, .int .i64 x1, .int .i64 x2, .int .i64 x3, .int .i64 x4, .int .i64 x5, .int .i64 x6, .bool t1, .bool t2, .bool t3, .int .u8 ph, .int .i64 tt, .int .i64 si] 5) hB1
  have c1_14 : w1.cell? ⟨w.heap.size + 1, 6, none⟩ = some (.int .i64 x6) := keep_cell (box1 w 37 #[.int .i64 job, .int .i64 x1, .int .i64 x2, .int .i64 x3, .int .i64 x4, .int .i64 x5, .int .i64 x6, .bool t1, .bool t2, .bool t3, .int .u8 ph, .int .i64 tt, .int .i64 si] 6) hB1
  have c1_15 : w1.cell? ⟨w.heap.size + 1, 7, none⟩ = some (.bool t1) := keep_cell (box1 w 37 #[.int .i64 job, .int .i64 x1, .int .i64 x2, .int .i64 x3, .int .i64 x4, .int .i64 x5, .int .i64 x6, .bool t1, .bool t2, .bool t3, .int .u8 ph, .int .i64 tt, .int .i64 si] 7) hB1
  have c1_16 : w1.cell? ⟨w.heap.size + 1, 8, none⟩ = some (.bool t2) := keep_cell (box1 w 37 #[.int .i64 job, .int .i64 x1, .int .i64 x2, .int .i64 x3, .int .i64 x4, .int .i64 x5, .int .i64 x6, .bool t1, .bool t2, .bool t3, .int .u8 ph, .int .i64 tt, .int .i64 si] 8) hB1
  have c1_17 : w1.cell? ⟨w.heap.size + 1, 9, none⟩ = some (.bool t3) := keep_cell (box1 w 37 #[.int .i64 job, .int .i64 x1, .int .i64 x2, .int .i64 x3, .int .i64 x4, .int .i64 x5, .int .i64 x6, .bool t1, .bool t2, .bool t3, .int .u8 ph, .int .i64 tt, .int .i64 si] 9) hB1
  have c1_18 : w1.cell? ⟨w.heap.size + 1, 10, none⟩ = some (.int .u8 ph) := keep_cell (box1 w 37 #[.int .i64 job, .int .i64 x1, .int .i64 x2, .int .i64 x3, .int .i64 x4, .int .i64 x5, .int .i64 x6, .bool t1, .bool t2, .bool t3, .int .u8 ph, .int .i64 tt, .int .i64 si] 10) hB1
  have c1_19 : w1.cell? ⟨w.heap.size + 1, 11, none⟩ = some (.int .i64 tt) := keep_cell (box1 w 37 #[.int .i64 job, .int .i64 x1, .int .i64 x2, .int .i64 x3, .int .i64 x4, .int .i64 x5, .int .i64 x6, .bool t1, .bool t2, .bool t3, .int .u8 ph, .int .i64 tt, .int .i64 si] 11) hB1
  have c1_20 : w1.cell? ⟨w.heap.size + 1, 12, none⟩ = some (.int .i64 si) := keep_cell (box1 w 37 #[.int .i64 job, .int .i64 x1, .int .i64 x2, .int .i64 x3, .int .i64 x4, .int .i64 x5, .int .i64 x6, .bool t1, .bool t2, .bool t3, .int .u8 ph, .int .i64 tt, .int .i64 si] 12) hB1
  have z1_0 : w.heap.size < w1.heap.size := cell_lt c1_0
  have z1_1 : w.heap.size + 1 < w1.heap.size := cell_lt c1_8
  clear hB1  
  go_wp2_with fail
  refine (within_to _ _ _ _ HJ.out _).mono ?_
  rintro e w' ⟨rfl, rfl⟩
  go_wp2_with fail
  go_ret
  exact ⟨rfl, HB1.out⟩
set_option maxRecDepth 100000 in
set_option maxHeartbeats 2000000 in
theorem rp2 (a b c bo fr tr ag : Int) (X : Option Addr) (cp : Nat) (ks : List Cls) (job x1 x2 x3 x4 x5 x6 : Int) (t1 t2 t3 : Bool) (ph tt si : Int) (hJ : inB job 1 2147483647 = true) (hp1 : 1 ≤ ph) (hp2 : 3 < ph) (w : World) :
    Calls Try.prog 31 #[.agg #[.int .i64 a, .int .i64 b, .int .i64 c, .int .i64 bo, .int .i64 fr, .int .i64 tr, .int .i64 ag, .slice X ks.length cp], .agg #[.int .i64 job, .int .i64 x1, .int .i64 x2, .int .i64 x3, .int .i64 x4, .int .i64 x5, .int .i64 x6, .bool t1, .bool t2, .bool t3, .int .u8 ph, .int .i64 tt, .int .i64 si]] w (fun e w' => e = .returned (.bool false) ∧ Below w.heap.size w w') := by
  have HJ := Lib.hid hJ
  clear hJ
  go_enter Try.func31, Try.ntmps31
  go_wp2_with fail
  refine (in_to _ _ _ _ HJ.out _).mono ?_
  rintro e w' ⟨rfl, rfl⟩
  go_wp2_with fail
  go_ret
  exact ⟨rfl, (below_alloc (below_alloc (Below.refl _ _)))⟩
set_option maxRecDepth 100000 in
set_option maxHeartbeats 2000000 in
theorem pc3 (a b c bo fr tr ag : Int) (X : Option Addr) (cp : Nat) (ks : List Cls) (hl : ks.length ≤ 9223372036854775807) (job x1 x2 x3 x4 x5 x6 : Int) (t1 t2 t3 : Bool) (ph tt si : Int) (h : CfgOk a b c bo fr tr ag ks) (hJ : inB job 1 2147483647 = true) (hp1 : 1 ≤ ph) (hp2 : ph ≤ 3) (hT : inB tt 1 tr = false) (w : World) (hk : ClsAt w w.heap.size X ks) :
    Calls Try.prog 24 #[.agg #[.int .i64 a, .int .i64 b, .int .i64 c, .int .i64 bo, .int .i64 fr, .int .i64 tr, .int .i64 ag, .slice X ks.length cp], .agg #[.int .i64 job, .int .i64 x1, .int .i64 x2, .int .i64 x3, .int .i64 x4, .int .i64 x5, .int .i64 x6, .bool t1, .bool t2, .bool t3, .int .u8 ph, .int .i64 tt, .int .i64 si]] w (fun e w' => e = .returned (.int .i64 8) ∧ Below w.heap.size w w') := by
  have HH := Lib.hid h
  have HKK := Lib.hid hk
  clear h hk
  have HJ := Lib.hid hJ
  clear hJ
  have HT := Lib.hid hT
  clear hT
  go_enter Try.func24, Try.ntmps24
  go_wp2_with fail
  refine (pcheck_ok a b c bo fr tr ag X cp ks hl HH.out _ (HKK.out.up (below_alloc (below_alloc (Below.refl _ _))))).mono ?_
  rintro e w1 ⟨rfl, hB1⟩
  have HB1 : Hid (Below w.heap.size w w1) := below_up (below_alloc (below_alloc (Below.refl _ _))) hB1
  have c1_0 : w1.cell? ⟨w.heap.size, 0, none⟩ = some (.int .i64 a) := keep_cell (cell_over _ (box0 w 26 #[.int .i64 a, .int .i64 b, .int .i64 c, .int .i64 bo, .int .i64 fr, .int .i64 tr, .int .i64 ag, .slice X ks.length cp] 0)) hB1
  have c1_1 : w1.cell? ⟨w.heap.size, 1, none⟩ = some (.int .i64 b) := keep_cell (cell_over _ (box0 w 26 #[.int .i64 a, .int .i64 b, .int .i64 c, .int .i64 bo, .int .i64 fr, .int .i64 tr, .int .i64 ag, .slice X ks.length cp] 1)) hB1
  have c1_2 : w1.cell? ⟨w.heap.size, 2, none⟩ = some (.int .i64 c) := keep_cell (cell_over _ (box0 w 26 #[.int .i64 a, .int .i64 b, .int .i64 c, .int .i64 bo, .int .i64 fr, .int .i64 tr, .int .i64 ag, .slice X ks.length cp] 2)) hB1
  have c1_3 : w1.cell? ⟨w.heap.size, 3, none⟩ = some (.int .i64 bo) := keep_cell (cell_over _ (box0 w 26 #[.int .i64 a, .int .i64 b, .int .i64 c, .int .i64 bo, .int .i64 fr, .int .i64 tr, .int .i64 ag, .slice X ks.length cp] 3)) hB1
  have c1_4 : w1.cell? ⟨w.heap.size, 4, none⟩ = some (.int .i64 fr) := keep_cell (cell_over _ (box0 w 26 #[.int .i64 a, .int .i64 b, .int .i64 c, .int .i64 bo, .int .i64 fr, .int .i64 tr, .int .i64 ag, .slice X ks.length cp] 4)) hB1
  have c1_5 : w1.cell? ⟨w.heap.size, 5, none⟩ = some (.int .i64 tr) := keep_cell (cell_over _ (box0 w 26 #[.int .i64 a, .int .i64 b, .int .i64 c, .int .i64 bo, .int .i64 fr, .int .i64 tr, .int .i64 ag, .slice X ks.length cp] 5)) hB1
  have c1_6 : w1.cell? ⟨w.heap.size, 6, none⟩ = some (.int .i64 ag) := keep_cell (cell_over _ (box0 w 26 #[.int .i64 a, .int .i64 b, .int .i64 c, .int .i64 bo, .int .i64 fr, .int .i64 tr, .int .i64 ag, .slice X ks.length cp] 6)) hB1
  have c1_7 : w1.cell? ⟨w.heap.size, 7, none⟩ = some (.slice X ks.length cp) := keep_cell (cell_over _ (box0 w 26 #[.int .i64 a, .int .i64 b, .int .i64 c, .int .i64 bo, .int .i64 fr, .int .i64 tr, .int .i64 ag, .slice X ks.length cp] 7)) hB1
  have c1_8 : w1.cell? ⟨w.heap.size + 1, 0, none⟩ = some (.int .i64 job) := keep_cell (box1 w 37 #[.int .i64 job, .int .i64 x1, .int .i64 x2, .int .i64 x3, .int .i64 x4, .int .i64 x5, .int .i64 x6, .bool t1, .bool t2, .bool t3, .int .u8 ph, .int .i64 tt, .int .i64 si] 0) hB1
  have c1_9 : w1.cell? ⟨w.heap.size + 1, 1, none⟩ = some (.int .i64 x1) := keep_cell (box1 w 37 #[.int .i64 job, .int .i64 x1, .int .i64 x2, .int .i64 x3, .int .i64 x4, .int .i64 x5, .int .i64 x6, .bool t1, .bool t2, .bool t3, .int .u8 ph, .int .i64 tt, .int .i64 si] 1) hB1
  have c1_10 : w1.cell? ⟨w.heap.size + 1, 2, none⟩ = some (.int .i64 x2) := keep_cell (box1 w 37 #[.int .i64 job, .int .i64 x1, .int .i64 x2, .int .i64 x3, .int .i64 x4, .int .i64 x5, .int .i64 x6, .bool t1, .bool t2, .bool t3, .int .u8 ph, .int .i64 tt, .int .i64 si] 2) hB1
  have c1_11 : w1.cell? ⟨w.heap.size + 1, 3, none⟩ = some (.int .i64 x3) := keep_cell (box1 w 37 #[.int .i64 job, .int .i64 x1, .int .i64 x2, .int .i64 x3, .int .i64 x4, .int .i64 x5, .int .i64 x6, .bool t1, .bool t2, .bool t3, .int .u8 ph, .int .i64 tt, .int .i64 si] 3) hB1
  have c1_12 : w1.cell? ⟨w.heap.size + 1, 4, none⟩ = some (.int .i64 x4) := keep_cell (box1 w 37 #[.int .i64 job, .int .i64 x1, .int .i64 x2, .int .i64 x3, .int .i64 x4, .int .i64 x5, .int .i64 x6, .bool t1, .bool t2, .bool t3, .int .u8 ph, .int .i64 tt, .int .i64 si] 4) hB1
  have c1_13 : w1.cell? ⟨w.heap.size + 1, 5, none⟩ = some (.int .i64 x5) := keep_cell (box1 w 37 #[.int .i64 job, .int .i64 x1, .int .i64 x2, .int .i64 x3, .int .i64 x4, .int .i64 x5, .int .i64 x6, .bool t1, .bool t2, .bool t3, .int .u8 ph, .int .i64 tt, .int .i64 si] 5) hB1
  have c1_14 : w1.cell? ⟨w.heap.size + 1, 6, none⟩ = some (.int .i64 x6) := keep_cell (box1 w 37 #[.int .i64 job, .int .i64 x1, .int .i64 x2, .int .i64 x3, .int .i64 x4, .int .i64 x5, .int .i64 x6, .bool t1, .bool t2, .bool t3, .int .u8 ph, .int .i64 tt, .int .i64 si] 6) hB1
  have c1_15 : w1.cell? ⟨w.heap.size + 1, 7, none⟩ = some (.bool t1) := keep_cell (box1 w 37 #[.int .i64 job, .int .i64 x1, .int .i64 x2, .int .i64 x3, .int .i64 x4, .int .i64 x5, .int .i64 x6, .bool t1, .bool t2, .bool t3, .int .u8 ph, .int .i64 tt, .int .i64 si] 7) hB1
  have c1_16 : w1.cell? ⟨w.heap.size + 1, 8, none⟩ = some (.bool t2) := keep_cell (box1 w 37 #[.int .i64 job, .int .i64 x1, .int .i64 x2, .int .i64 x3, .int .i64 x4, .int .i64 x5, .int .i64 x6, .bool t1, .bool t2, .bool t3, .int .u8 ph, .int .i64 tt, .int .i64 si] 8) hB1
  have c1_17 : w1.cell? ⟨w.heap.size + 1, 9, none⟩ = some (.bool t3) := keep_cell (box1 w 37 #[.int .i64 job, .int .i64 x1, .int .i64 x2, .int .i64 x3, .int .i64 x4, .int .i64 x5, .int .i64 x6, .bool t1, .bool t2, .bool t3, .int .u8 ph, .int .i64 tt, .int .i64 si] 9) hB1
  have c1_18 : w1.cell? ⟨w.heap.size + 1, 10, none⟩ = some (.int .u8 ph) := keep_cell (box1 w 37 #[.int .i64 job, .int .i64 x1, .int .i64 x2, .int .i64 x3, .int .i64 x4, .int .i64 x5, .int .i64 x6, .bool t1, .bool t2, .bool t3, .int .u8 ph, .int .i64 tt, .int .i64 si] 10) hB1
  have c1_19 : w1.cell? ⟨w.heap.size + 1, 11, none⟩ = some (.int .i64 tt) := keep_cell (box1 w 37 #[.int .i64 job, .int .i64 x1, .int .i64 x2, .int .i64 x3, .int .i64 x4, .int .i64 x5, .int .i64 x6, .bool t1, .bool t2, .bool t3, .int .u8 ph, .int .i64 tt, .int .i64 si] 11) hB1
  have c1_20 : w1.cell? ⟨w.heap.size + 1, 12, none⟩ = some (.int .i64 si) := keep_cell (box1 w 37 #[.int .i64 job, .int .i64 x1, .int .i64 x2, .int .i64 x3, .int .i64 x4, .int .i64 x5, .int .i64 x6, .bool t1, .bool t2, .bool t3, .int .u8 ph, .int .i64 tt, .int .i64 si] 12) hB1
  have z1_0 : w.heap.size < w1.heap.size := cell_lt c1_0
  have z1_1 : w.heap.size + 1 < w1.heap.size := cell_lt c1_8
  clear hB1  
  go_wp2_with fail
  refine (within_to _ _ _ _ HJ.out _).mono ?_
  rintro e w' ⟨rfl, rfl⟩
  go_wp2_with fail
  refine (within_to _ _ _ _ HT.out _).mono ?_
  rintro e w' ⟨rfl, rfl⟩
  go_wp2_with fail
  go_ret
  exact ⟨rfl, HB1.out⟩
set_option maxRecDepth 100000 in
set_option maxHeartbeats 2000000 in
theorem rp3 (a b c bo fr tr ag : Int) (X : Option Addr) (cp : Nat) (ks : List Cls) (job x1 x2 x3 x4 x5 x6 : Int) (t1 t2 t3 : Bool) (ph tt si : Int) (hJ : inB job 1 2147483647 = true) (hp1 : 1 ≤ ph) (hp2 : ph ≤ 3) (hT : inB tt 1 tr = false) (w : World) :
    Calls Try.prog 31 #[.agg #[.int .i64 a, .int .i64 b, .int .i64 c, .int .i64 bo, .int .i64 fr, .int .i64 tr, .int .i64 ag, .slice X ks.length cp], .agg #[.int .i64 job, .int .i64 x1, .int .i64 x2, .int .i64 x3, .int .i64 x4, .int .i64 x5, .int .i64 x6, .bool t1, .bool t2, .bool t3, .int .u8 ph, .int .i64 tt, .int .i64 si]] w (fun e w' => e = .returned (.bool false) ∧ Below w.heap.size w w') := by
  have HJ := Lib.hid hJ
  clear hJ
  have HT := Lib.hid hT
  clear hT
  go_enter Try.func31, Try.ntmps31
  go_wp2_with fail
  refine (in_to _ _ _ _ HJ.out _).mono ?_
  rintro e w' ⟨rfl, rfl⟩
  go_wp2_with fail
  refine (in_to _ _ _ _ HT.out _).mono ?_
  rintro e w' ⟨rfl, rfl⟩
  go_wp2_with fail
  go_ret
  exact ⟨rfl, (below_alloc (below_alloc (Below.refl _ _)))⟩
set_option maxRecDepth 100000 in
set_option maxHeartbeats 2000000 in
theorem pc4 (a b c bo fr tr ag : Int) (X : Option Addr) (cp : Nat) (ks : List Cls) (hl : ks.length ≤ 9223372036854775807) (job x1 x2 x3 x4 x5 x6 : Int) (t1 t2 t3 : Bool) (ph tt si : Int) (h : CfgOk a b c bo fr tr ag ks) (hJ : inB job 1 2147483647 = true) (hp1 : 1 ≤ ph) (hp2 : ph ≤ 3) (hT : inB tt 1 tr = true) (hS : inB si 0 1099511627776 = false) (w : World) (hk : ClsAt w w.heap.size X ks) :
    Calls Try.prog 24 #[.agg #[.int .i64 a, .int .i64 b, .int .i64 c, .int .i64 bo, .int .i64 fr, .int .i64 tr, .int .i64 ag, .slice X ks.length cp], .agg #[.int .i64 job, .int .i64 x1, .int .i64 x2, .int .i64 x3, .int .i64 x4, .int .i64 x5, .int .i64 x6, .bool t1, .bool t2, .bool t3, .int .u8 ph, .int .i64 tt, .int .i64 si]] w (fun e w' => e = .returned (.int .i64 8) ∧ Below w.heap.size w w') := by
  have HH := Lib.hid h
  have HKK := Lib.hid hk
  clear h hk
  have HJ := Lib.hid hJ
  clear hJ
  have HT := Lib.hid hT
  clear hT
  have HS := Lib.hid hS
  clear hS
  go_enter Try.func24, Try.ntmps24
  go_wp2_with fail
  refine (pcheck_ok a b c bo fr tr ag X cp ks hl HH.out _ (HKK.out.up (below_alloc (below_alloc (Below.refl _ _))))).mono ?_
  rintro e w1 ⟨rfl, hB1⟩
  have HB1 : Hid (Below w.heap.size w w1) := below_up (below_alloc (below_alloc (Below.refl _ _))) hB1
  have c1_0 : w1.cell? ⟨w.heap.size, 0, none⟩ = some (.int .i64 a) := keep_cell (cell_over _ (box0 w 26 #[.int .i64 a, .int .i64 b, .int .i64 c, .int .i64 bo, .int .i64 fr, .int .i64 tr, .int .i64 ag, .slice X ks.length cp] 0)) hB1
  have c1_1 : w1.cell? ⟨w.heap.size, 1, none⟩ = some (.int .i64 b) := keep_cell (cell_over _ (box0 w 26 #[.int .i64 a, .int .i64 b, .int .i64 c, .int .i64 bo, .int .i64 fr, .int .i64 tr, .int .i64 ag, .slice X ks.length cp] 1)) hB1
  have c1_2 : w1.cell? ⟨w.heap.size, 2, none⟩ = some (.int .i64 c) := keep_cell (cell_over _ (box0 w 26 #[.int .i64 a, .int .i64 b, .int .i64 c, .int .i64 bo, .int .i64 fr, .int .i64 tr, .int .i64 ag, .slice X ks.length cp] 2)) hB1
  have c1_3 : w1.cell? ⟨w.heap.size, 3, none⟩ = some (.int .i64 bo) := keep_cell (cell_over _ (box0 w 26 #[.int .i64 a, .int .i64 b, .int .i64 c, .int .i64 bo, .int .i64 fr, .int .i64 tr, .int .i64 ag, .slice X ks.length cp] 3)) hB1
  have c1_4 : w1.cell? ⟨w.heap.size, 4, none⟩ = some (.int .i64 fr) := keep_cell (cell_over _ (box0 w 26 #[.int .i64 a, .int .i64 b, .int .i64 c, .int .i64 bo, .int .i64 fr, .int .i64 tr, .int .i64 ag, .slice X ks.length cp] 4)) hB1
  have c1_5 : w1.cell? ⟨w.heap.size, 5, none⟩ = some (.int .i64 tr) := keep_cell (cell_over _ (box0 w 26 #[.int .i64 a, .int .i64 b, .int .i64 c, .int .i64 bo, .int .i64 fr, .int .i64 tr, .int .i64 ag, .slice X ks.length cp] 5)) hB1
  have c1_6 : w1.cell? ⟨w.heap.size, 6, none⟩ = some (.int .i64 ag) := keep_cell (cell_over _ (box0 w 26 #[.int .i64 a, .int .i64 b, .int .i64 c, .int .i64 bo, .int .i64 fr, .int .i64 tr, .int .i64 ag, .slice X ks.length cp] 6)) hB1
  have c1_7 : w1.cell? ⟨w.heap.size, 7, none⟩ = some (.slice X ks.length cp) := keep_cell (cell_over _ (box0 w 26 #[.int .i64 a, .int .i64 b, .int .i64 c, .int .i64 bo, .int .i64 fr, .int .i64 tr, .int .i64 ag, .slice X ks.length cp] 7)) hB1
  have c1_8 : w1.cell? ⟨w.heap.size + 1, 0, none⟩ = some (.int .i64 job) := keep_cell (box1 w 37 #[.int .i64 job, .int .i64 x1, .int .i64 x2, .int .i64 x3, .int .i64 x4, .int .i64 x5, .int .i64 x6, .bool t1, .bool t2, .bool t3, .int .u8 ph, .int .i64 tt, .int .i64 si] 0) hB1
  have c1_9 : w1.cell? ⟨w.heap.size + 1, 1, none⟩ = some (.int .i64 x1) := keep_cell (box1 w 37 #[.int .i64 job, .int .i64 x1, .int .i64 x2, .int .i64 x3, .int .i64 x4, .int .i64 x5, .int .i64 x6, .bool t1, .bool t2, .bool t3, .int .u8 ph, .int .i64 tt, .int .i64 si] 1) hB1
  have c1_10 : w1.cell? ⟨w.heap.size + 1, 2, none⟩ = some (.int .i64 x2) := keep_cell (box1 w 37 #[.int .i64 job, .int .i64 x1, .int .i64 x2, .int .i64 x3, .int .i64 x4, .int .i64 x5, .int .i64 x6, .bool t1, .bool t2, .bool t3, .int .u8 ph, .int .i64 tt, .int .i64 si] 2) hB1
  have c1_11 : w1.cell? ⟨w.heap.size + 1, 3, none⟩ = some (.int .i64 x3) := keep_cell (box1 w 37 #[.int .i64 job, .int .i64 x1, .int .i64 x2, .int .i64 x3, .int .i64 x4, .int .i64 x5, .int .i64 x6, .bool t1, .bool t2, .bool t3, .int .u8 ph, .int .i64 tt, .int .i64 si] 3) hB1
  have c1_12 : w1.cell? ⟨w.heap.size + 1, 4, none⟩ = some (.int .i64 x4) := keep_cell (box1 w 37 #[.int .i64 job, .int .i64 x1, .int .i64 x2, .int .i64 x3, .int .i64 x4, .int .i64 x5, .int .i64 x6, .bool t1, .bool t2, .bool t3, .int .u8 ph, .int .i64 tt, .int .i64 si] 4) hB1
  have c1_13 : w1.cell? ⟨w.heap.size + 1, 5, none⟩ = some (.int .i64 x5) := keep_cell (box1 w 37 #[.int .i64 job, .int .i64 x1, .int .i64 x2, .int .i64 x3, .int .i64 x4, .int .i64 x5, .int .i64 x6, .bool t1, .bool t2, .bool t3, .int .u8 ph, .int .i64 tt, .int .i64 si] 5) hB1
  have c1_14 : w1.cell? ⟨w.heap.size + 1, 6, none⟩ = some (.int .i64 x6) := keep_cell (box1 w 37 #[.int .i64 job, .int .i64 x1, .int .i64 x2, .int .i64 x3, .int .i64 x4, .int .i64 x5, .int .i64 x6, .bool t1, .bool t2, .bool t3, .int .u8 ph, .int .i64 tt, .int .i64 si] 6) hB1
  have c1_15 : w1.cell? ⟨w.heap.size + 1, 7, none⟩ = some (.bool t1) := keep_cell (box1 w 37 #[.int .i64 job, .int .i64 x1, .int .i64 x2, .int .i64 x3, .int .i64 x4, .int .i64 x5, .int .i64 x6, .bool t1, .bool t2, .bool t3, .int .u8 ph, .int .i64 tt, .int .i64 si] 7) hB1
  have c1_16 : w1.cell? ⟨w.heap.size + 1, 8, none⟩ = some (.bool t2) := keep_cell (box1 w 37 #[.int .i64 job, .int .i64 x1, .int .i64 x2, .int .i64 x3, .int .i64 x4, .int .i64 x5, .int .i64 x6, .bool t1, .bool t2, .bool t3, .int .u8 ph, .int .i64 tt, .int .i64 si] 8) hB1
  have c1_17 : w1.cell? ⟨w.heap.size + 1, 9, none⟩ = some (.bool t3) := keep_cell (box1 w 37 #[.int .i64 job, .int .i64 x1, .int .i64 x2, .int .i64 x3, .int .i64 x4, .int .i64 x5, .int .i64 x6, .bool t1, .bool t2, .bool t3, .int .u8 ph, .int .i64 tt, .int .i64 si] 9) hB1
  have c1_18 : w1.cell? ⟨w.heap.size + 1, 10, none⟩ = some (.int .u8 ph) := keep_cell (box1 w 37 #[.int .i64 job, .int .i64 x1, .int .i64 x2, .int .i64 x3, .int .i64 x4, .int .i64 x5, .int .i64 x6, .bool t1, .bool t2, .bool t3, .int .u8 ph, .int .i64 tt, .int .i64 si] 10) hB1
  have c1_19 : w1.cell? ⟨w.heap.size + 1, 11, none⟩ = some (.int .i64 tt) := keep_cell (box1 w 37 #[.int .i64 job, .int .i64 x1, .int .i64 x2, .int .i64 x3, .int .i64 x4, .int .i64 x5, .int .i64 x6, .bool t1, .bool t2, .bool t3, .int .u8 ph, .int .i64 tt, .int .i64 si] 11) hB1
  have c1_20 : w1.cell? ⟨w.heap.size + 1, 12, none⟩ = some (.int .i64 si) := keep_cell (box1 w 37 #[.int .i64 job, .int .i64 x1, .int .i64 x2, .int .i64 x3, .int .i64 x4, .int .i64 x5, .int .i64 x6, .bool t1, .bool t2, .bool t3, .int .u8 ph, .int .i64 tt, .int .i64 si] 12) hB1
  have z1_0 : w.heap.size < w1.heap.size := cell_lt c1_0
  have z1_1 : w.heap.size + 1 < w1.heap.size := cell_lt c1_8
  clear hB1  
  go_wp2_with fail
  refine (within_to _ _ _ _ HJ.out _).mono ?_
  rintro e w' ⟨rfl, rfl⟩
  go_wp2_with fail
  refine (within_to _ _ _ _ HT.out _).mono ?_
  rintro e w' ⟨rfl, rfl⟩
  go_wp2_with fail
  refine (within_to _ _ _ _ HS.out _).mono ?_
  rintro e w' ⟨rfl, rfl⟩
  go_wp2_with fail
  go_ret
  exact ⟨rfl, HB1.out⟩
set_option maxRecDepth 100000 in
set_option maxHeartbeats 2000000 in
theorem rp4 (a b c bo fr tr ag : Int) (X : Option Addr) (cp : Nat) (ks : List Cls) (job x1 x2 x3 x4 x5 x6 : Int) (t1 t2 t3 : Bool) (ph tt si : Int) (hJ : inB job 1 2147483647 = true) (hp1 : 1 ≤ ph) (hp2 : ph ≤ 3) (hT : inB tt 1 tr = true) (hS : inB si 0 1099511627776 = false) (w : World) :
    Calls Try.prog 31 #[.agg #[.int .i64 a, .int .i64 b, .int .i64 c, .int .i64 bo, .int .i64 fr, .int .i64 tr, .int .i64 ag, .slice X ks.length cp], .agg #[.int .i64 job, .int .i64 x1, .int .i64 x2, .int .i64 x3, .int .i64 x4, .int .i64 x5, .int .i64 x6, .bool t1, .bool t2, .bool t3, .int .u8 ph, .int .i64 tt, .int .i64 si]] w (fun e w' => e = .returned (.bool false) ∧ Below w.heap.size w w') := by
  have HJ := Lib.hid hJ
  clear hJ
  have HT := Lib.hid hT
  clear hT
  have HS := Lib.hid hS
  clear hS
  go_enter Try.func31, Try.ntmps31
  go_wp2_with fail
  refine (in_to _ _ _ _ HJ.out _).mono ?_
  rintro e w' ⟨rfl, rfl⟩
  go_wp2_with fail
  refine (in_to _ _ _ _ HT.out _).mono ?_
  rintro e w' ⟨rfl, rfl⟩
  go_wp2_with fail
  refine (in_to _ _ _ _ HS.out _).mono ?_
  rintro e w' ⟨rfl, rfl⟩
  go_wp2_with fail
  go_ret
  exact ⟨rfl, (below_alloc (below_alloc (Below.refl _ _)))⟩
set_option maxRecDepth 100000 in
set_option maxHeartbeats 2000000 in
theorem pc5 (a b c bo fr tr ag : Int) (X : Option Addr) (cp : Nat) (ks : List Cls) (hl : ks.length ≤ 9223372036854775807) (job x1 x2 x3 x4 x5 x6 : Int) (t1 t2 t3 : Bool) (ph tt si : Int) (h : CfgOk a b c bo fr tr ag ks) (hJ : inB job 1 2147483647 = true) (hp1 : 1 ≤ ph) (hp2 : ph ≤ 3) (hT : inB tt 1 tr = true) (hS : inB si 0 1099511627776 = true) (w : World) (hk : ClsAt w w.heap.size X ks) :
    Calls Try.prog 24 #[.agg #[.int .i64 a, .int .i64 b, .int .i64 c, .int .i64 bo, .int .i64 fr, .int .i64 tr, .int .i64 ag, .slice X ks.length cp], .agg #[.int .i64 job, .int .i64 x1, .int .i64 x2, .int .i64 x3, .int .i64 x4, .int .i64 x5, .int .i64 x6, .bool t1, .bool t2, .bool t3, .int .u8 ph, .int .i64 tt, .int .i64 si]] w (fun e w' => e = .returned (.int .i64 0) ∧ Below w.heap.size w w') := by
  have HH := Lib.hid h
  have HKK := Lib.hid hk
  clear h hk
  have HJ := Lib.hid hJ
  clear hJ
  have HT := Lib.hid hT
  clear hT
  have HS := Lib.hid hS
  clear hS
  go_enter Try.func24, Try.ntmps24
  go_wp2_with fail
  refine (pcheck_ok a b c bo fr tr ag X cp ks hl HH.out _ (HKK.out.up (below_alloc (below_alloc (Below.refl _ _))))).mono ?_
  rintro e w1 ⟨rfl, hB1⟩
  have HB1 : Hid (Below w.heap.size w w1) := below_up (below_alloc (below_alloc (Below.refl _ _))) hB1
  have c1_0 : w1.cell? ⟨w.heap.size, 0, none⟩ = some (.int .i64 a) := keep_cell (cell_over _ (box0 w 26 #[.int .i64 a, .int .i64 b, .int .i64 c, .int .i64 bo, .int .i64 fr, .int .i64 tr, .int .i64 ag, .slice X ks.length cp] 0)) hB1
  have c1_1 : w1.cell? ⟨w.heap.size, 1, none⟩ = some (.int .i64 b) := keep_cell (cell_over _ (box0 w 26 #[.int .i64 a, .int .i64 b, .int .i64 c, .int .i64 bo, .int .i64 fr, .int .i64 tr, .int .i64 ag, .slice X ks.length cp] 1)) hB1
  have c1_2 : w1.cell? ⟨w.heap.size, 2, none⟩ = some (.int .i64 c) := keep_cell (cell_over _ (box0 w 26 #[.int .i64 a, .int .i64 b, .int .i64 c, .int .i64 bo, .int .i64 fr, .int .i64 tr, .int .i64 ag, .slice X ks.length cp] 2)) hB1
  have c1_3 : w1.cell? ⟨w.heap.size, 3, none⟩ = some (.int .i64 bo) := keep_cell (cell_over _ (box0 w 26 #[.int .i64 a, .int .i64 b, .int .i64 c, .int .i64 bo, .int .i64 fr, .int .i64 tr, .int .i64 ag, .slice X ks.length cp] 3)) hB1
  have c1_4 : w1.cell? ⟨w.heap.size, 4, none⟩ = some (.int .i64 fr) := keep_cell (cell_over _ (box0 w 26 #[.int .i64 a, .int .i64 b, .int .i64 c, .int .i64 bo, .int .i64 fr, .int .i64 tr, .int .i64 ag, .slice X ks.length cp] 4)) hB1
  have c1_5 : w1.cell? ⟨w.heap.size, 5, none⟩ = some (.int .i64 tr) := keep_cell (cell_over _ (box0 w 26 #[.int .i64 a, .int .i64 b, .int .i64 c, .int .i64 bo, .int .i64 fr, .int .i64 tr, .int .i64 ag, .slice X ks.length cp] 5)) hB1
  have c1_6 : w1.cell? ⟨w.heap.size, 6, none⟩ = some (.int .i64 ag) := keep_cell (cell_over _ (box0 w 26 #[.int .i64 a, .int .i64 b, .int .i64 c, .int .i64 bo, .int .i64 fr, .int .i64 tr, .int .i64 ag, .slice X ks.length cp] 6)) hB1
  have c1_7 : w1.cell? ⟨w.heap.size, 7, none⟩ = some (.slice X ks.length cp) := keep_cell (cell_over _ (box0 w 26 #[.int .i64 a, .int .i64 b, .int .i64 c, .int .i64 bo, .int .i64 fr, .int .i64 tr, .int .i64 ag, .slice X ks.length cp] 7)) hB1
  have c1_8 : w1.cell? ⟨w.heap.size + 1, 0, none⟩ = some (.int .i64 job) := keep_cell (box1 w 37 #[.int .i64 job, .int .i64 x1, .int .i64 x2, .int .i64 x3, .int .i64 x4, .int .i64 x5, .int .i64 x6, .bool t1, .bool t2, .bool t3, .int .u8 ph, .int .i64 tt, .int .i64 si] 0) hB1
  have c1_9 : w1.cell? ⟨w.heap.size + 1, 1, none⟩ = some (.int .i64 x1) := keep_cell (box1 w 37 #[.int .i64 job, .int .i64 x1, .int .i64 x2, .int .i64 x3, .int .i64 x4, .int .i64 x5, .int .i64 x6, .bool t1, .bool t2, .bool t3, .int .u8 ph, .int .i64 tt, .int .i64 si] 1) hB1
  have c1_10 : w1.cell? ⟨w.heap.size + 1, 2, none⟩ = some (.int .i64 x2) := keep_cell (box1 w 37 #[.int .i64 job, .int .i64 x1, .int .i64 x2, .int .i64 x3, .int .i64 x4, .int .i64 x5, .int .i64 x6, .bool t1, .bool t2, .bool t3, .int .u8 ph, .int .i64 tt, .int .i64 si] 2) hB1
  have c1_11 : w1.cell? ⟨w.heap.size + 1, 3, none⟩ = some (.int .i64 x3) := keep_cell (box1 w 37 #[.int .i64 job, .int .i64 x1, .int .i64 x2, .int .i64 x3, .int .i64 x4, .int .i64 x5, .int .i64 x6, .bool t1, .bool t2, .bool t3, .int .u8 ph, .int .i64 tt, .int .i64 si] 3) hB1
  have c1_12 : w1.cell? ⟨w.heap.size + 1, 4, none⟩ = some (.int .i64 x4) := keep_cell (box1 w 37 #[.int .i64 job, .int .i64 x1, .int .i64 x2, .int .i64 x3, .int .i64 x4, .int .i64 x5, .int .i64 x6, .bool t1, .bool t2, .bool t3, .int .u8 ph, .int .i64 tt, .int .i64 si] 4) hB1
  have c1_13 : w1.cell? ⟨w.heap.size + 1, 5, none⟩ = some (.int .i64 x5) := keep_cell (box1 w 37 #[.int .i64 job, .int .i64 x1, .int .i64 x2, .int .i64 x3, .int .i64 x4, .int .i64 x5, .int .i64 x6, .bool t1, .bool t2, .bool t3, .int .u8 ph, .int .i64 tt, .int .i64 si] 5) hB1
  have c1_14 : w1.cell? ⟨w.heap.size + 1, 6, none⟩ = some (.int .i64 x6) := keep_cell (box1 w 37 #[.int .i64 job, .int .i64 x1, .int .i64 x2, .int .i64 x3, .int .i64 x4, .int .i64 x5, .int .i64 x6, .bool t1, .bool t2, .bool t3, .int .u8 ph, .int .i64 tt, .int .i64 si] 6) hB1
  have c1_15 : w1.cell? ⟨w.heap.size + 1, 7, none⟩ = some (.bool t1) := keep_cell (box1 w 37 #[.int .i64 job, .int .i64 x1, .int .i64 x2, .int .i64 x3, .int .i64 x4, .int .i64 x5, .int .i64 x6, .bool t1, .bool t2, .bool t3, .int .u8 ph, .int .i64 tt, .int .i64 si] 7) hB1
  have c1_16 : w1.cell? ⟨w.heap.size + 1, 8, none⟩ = some (.bool t2) := keep_cell (box1 w 37 #[.int .i64 job, .int .i64 x1, .int .i64 x2, .int .i64 x3, .int .i64 x4, .int .i64 x5, .int .i64 x6, .bool t1, .bool t2, .bool t3, .int .u8 ph, .int .i64 tt, .int .i64 si] 8) hB1
  have c1_17 : w1.cell? ⟨w.heap.size + 1, 9, none⟩ = some (.bool t3) := keep_cell (box1 w 37 #[.int .i64 job, .int .i64 x1, .int .i64 x2, .int .i64 x3, .int .i64 x4, .int .i64 x5, .int .i64 x6, .bool t1, .bool t2, .bool t3, .int .u8 ph, .int .i64 tt, .int .i64 si] 9) hB1
  have c1_18 : w1.cell? ⟨w.heap.size + 1, 10, none⟩ = some (.int .u8 ph) := keep_cell (box1 w 37 #[.int .i64 job, .int .i64 x1, .int .i64 x2, .int .i64 x3, .int .i64 x4, .int .i64 x5, .int .i64 x6, .bool t1, .bool t2, .bool t3, .int .u8 ph, .int .i64 tt, .int .i64 si] 10) hB1
  have c1_19 : w1.cell? ⟨w.heap.size + 1, 11, none⟩ = some (.int .i64 tt) := keep_cell (box1 w 37 #[.int .i64 job, .int .i64 x1, .int .i64 x2, .int .i64 x3, .int .i64 x4, .int .i64 x5, .int .i64 x6, .bool t1, .bool t2, .bool t3, .int .u8 ph, .int .i64 tt, .int .i64 si] 11) hB1
  have c1_20 : w1.cell? ⟨w.heap.size + 1, 12, none⟩ = some (.int .i64 si) := keep_cell (box1 w 37 #[.int .i64 job, .int .i64 x1, .int .i64 x2, .int .i64 x3, .int .i64 x4, .int .i64 x5, .int .i64 x6, .bool t1, .bool t2, .bool t3, .int .u8 ph, .int .i64 tt, .int .i64 si] 12) hB1
  have z1_0 : w.heap.size < w1.heap.size := cell_lt c1_0
  have z1_1 : w.heap.size + 1 < w1.heap.size := cell_lt c1_8
  clear hB1  
  go_wp2_with fail
  refine (within_to _ _ _ _ HJ.out _).mono ?_
  rintro e w' ⟨rfl, rfl⟩
  go_wp2_with fail
  refine (within_to _ _ _ _ HT.out _).mono ?_
  rintro e w' ⟨rfl, rfl⟩
  go_wp2_with fail
  refine (within_to _ _ _ _ HS.out _).mono ?_
  rintro e w' ⟨rfl, rfl⟩
  go_wp2_with fail
  go_ret
  exact ⟨rfl, HB1.out⟩
set_option maxRecDepth 100000 in
set_option maxHeartbeats 2000000 in
theorem rp5 (a b c bo fr tr ag : Int) (X : Option Addr) (cp : Nat) (ks : List Cls) (job x1 x2 x3 x4 x5 x6 : Int) (t1 t2 t3 : Bool) (ph tt si : Int) (hJ : inB job 1 2147483647 = true) (hp1 : 1 ≤ ph) (hp2 : ph ≤ 3) (hT : inB tt 1 tr = true) (hS : inB si 0 1099511627776 = true) (w : World) :
    Calls Try.prog 31 #[.agg #[.int .i64 a, .int .i64 b, .int .i64 c, .int .i64 bo, .int .i64 fr, .int .i64 tr, .int .i64 ag, .slice X ks.length cp], .agg #[.int .i64 job, .int .i64 x1, .int .i64 x2, .int .i64 x3, .int .i64 x4, .int .i64 x5, .int .i64 x6, .bool t1, .bool t2, .bool t3, .int .u8 ph, .int .i64 tt, .int .i64 si]] w (fun e w' => e = .returned (.bool true) ∧ Below w.heap.size w w') := by
  have HJ := Lib.hid hJ
  clear hJ
  have HT := Lib.hid hT
  clear hT
  have HS := Lib.hid hS
  clear hS
  go_enter Try.func31, Try.ntmps31
  go_wp2_with fail
  refine (in_to _ _ _ _ HJ.out _).mono ?_
  rintro e w' ⟨rfl, rfl⟩
  go_wp2_with fail
  refine (in_to _ _ _ _ HT.out _).mono ?_
  rintro e w' ⟨rfl, rfl⟩
  go_wp2_with fail
  refine (in_to _ _ _ _ HS.out _).mono ?_
  rintro e w' ⟨rfl, rfl⟩
  go_wp2_with fail
  go_ret
  exact ⟨rfl, (below_alloc (below_alloc (Below.refl _ _)))⟩
theorem part_cases {job ph tt si tr : Int} {P : Prop} (h0 : inB job 1 2147483647 = false → P) (h1 : inB job 1 2147483647 = true → ph < 1 → P) (h2 : inB job 1 2147483647 = true → 1 ≤ ph → 3 < ph → P) (h3 : inB job 1 2147483647 = true → 1 ≤ ph → ph ≤ 3 → inB tt 1 tr = false → P) (h4 : inB job 1 2147483647 = true → 1 ≤ ph → ph ≤ 3 → inB tt 1 tr = true → inB si 0 1099511627776 = false → P) (h5 : PartOk job ph tt si tr → P) : P := by
  cases e0 : inB job 1 2147483647
  · exact h0 e0
  · by_cases e1 : 1 ≤ ph
    · by_cases e2 : ph ≤ 3
      · cases e3 : inB tt 1 tr
        · exact h3 e0 e1 e2 e3
        · cases e4 : inB si 0 1099511627776
          · exact h4 e0 e1 e2 e3 e4
          · exact h5 ⟨e0, ⟨e1, e2⟩, e3, e4⟩
      · exact h2 e0 e1 (by omega)
    · exact h1 e0 (by omega)
theorem pc_ok (a b c bo fr tr ag : Int) (X : Option Addr) (cp : Nat) (ks : List Cls) (hl : ks.length ≤ 9223372036854775807) (job x1 x2 x3 x4 x5 x6 : Int) (t1 t2 t3 : Bool) (ph tt si : Int) (h : CfgOk a b c bo fr tr ag ks) (hp : PartOk job ph tt si tr) (w : World) (hk : ClsAt w w.heap.size X ks) :
    Calls Try.prog 24 #[.agg #[.int .i64 a, .int .i64 b, .int .i64 c, .int .i64 bo, .int .i64 fr, .int .i64 tr, .int .i64 ag, .slice X ks.length cp], .agg #[.int .i64 job, .int .i64 x1, .int .i64 x2, .int .i64 x3, .int .i64 x4, .int .i64 x5, .int .i64 x6, .bool t1, .bool t2, .bool t3, .int .u8 ph, .int .i64 tt, .int .i64 si]] w fun e w' => e = .returned (.int .i64 0) ∧ Below w.heap.size w w' :=
  pc5 a b c bo fr tr ag X cp ks hl job x1 x2 x3 x4 x5 x6 t1 t2 t3 ph tt si h hp.1 hp.2.1.1 hp.2.1.2 hp.2.2.1 hp.2.2.2 w hk
theorem pc_bad (a b c bo fr tr ag : Int) (X : Option Addr) (cp : Nat) (ks : List Cls) (hl : ks.length ≤ 9223372036854775807) (job x1 x2 x3 x4 x5 x6 : Int) (t1 t2 t3 : Bool) (ph tt si : Int) (h : ¬ (CfgOk a b c bo fr tr ag ks ∧ PartOk job ph tt si tr)) (w : World) (hk : ClsAt w w.heap.size X ks) :
    Calls Try.prog 24 #[.agg #[.int .i64 a, .int .i64 b, .int .i64 c, .int .i64 bo, .int .i64 fr, .int .i64 tr, .int .i64 ag, .slice X ks.length cp], .agg #[.int .i64 job, .int .i64 x1, .int .i64 x2, .int .i64 x3, .int .i64 x4, .int .i64 x5, .int .i64 x6, .bool t1, .bool t2, .bool t3, .int .u8 ph, .int .i64 tt, .int .i64 si]] w fun e w' => e = .returned (.int .i64 8) ∧ Below w.heap.size w w' := by
  by_cases hc : CfgOk a b c bo fr tr ag ks
  · exact part_cases (fun h0 => pc0 a b c bo fr tr ag X cp ks hl job x1 x2 x3 x4 x5 x6 t1 t2 t3 ph tt si hc h0 w hk) (fun h0 h1 => pc1 a b c bo fr tr ag X cp ks hl job x1 x2 x3 x4 x5 x6 t1 t2 t3 ph tt si hc h0 h1 w hk) (fun h0 h1 h2 => pc2 a b c bo fr tr ag X cp ks hl job x1 x2 x3 x4 x5 x6 t1 t2 t3 ph tt si hc h0 h1 h2 w hk) (fun h0 h1 h2 h3 => pc3 a b c bo fr tr ag X cp ks hl job x1 x2 x3 x4 x5 x6 t1 t2 t3 ph tt si hc h0 h1 h2 h3 w hk) (fun h0 h1 h2 h3 h4 => pc4 a b c bo fr tr ag X cp ks hl job x1 x2 x3 x4 x5 x6 t1 t2 t3 ph tt si hc h0 h1 h2 h3 h4 w hk) (fun hp => absurd ⟨hc, hp⟩ h)
  · exact pc_cfg a b c bo fr tr ag X cp ks hl job x1 x2 x3 x4 x5 x6 t1 t2 t3 ph tt si hc w hk
theorem rp_ok (a b c bo fr tr ag : Int) (X : Option Addr) (cp : Nat) (ks : List Cls) (job x1 x2 x3 x4 x5 x6 : Int) (t1 t2 t3 : Bool) (ph tt si : Int) (hp : PartOk job ph tt si tr) (w : World) :
    Calls Try.prog 31 #[.agg #[.int .i64 a, .int .i64 b, .int .i64 c, .int .i64 bo, .int .i64 fr, .int .i64 tr, .int .i64 ag, .slice X ks.length cp], .agg #[.int .i64 job, .int .i64 x1, .int .i64 x2, .int .i64 x3, .int .i64 x4, .int .i64 x5, .int .i64 x6, .bool t1, .bool t2, .bool t3, .int .u8 ph, .int .i64 tt, .int .i64 si]] w fun e w' => e = .returned (.bool true) ∧ Below w.heap.size w w' :=
  rp5 a b c bo fr tr ag X cp ks job x1 x2 x3 x4 x5 x6 t1 t2 t3 ph tt si hp.1 hp.2.1.1 hp.2.1.2 hp.2.2.1 hp.2.2.2 w
theorem rp_bad (a b c bo fr tr ag : Int) (X : Option Addr) (cp : Nat) (ks : List Cls) (job x1 x2 x3 x4 x5 x6 : Int) (t1 t2 t3 : Bool) (ph tt si : Int) (hp : ¬ PartOk job ph tt si tr) (w : World) :
    Calls Try.prog 31 #[.agg #[.int .i64 a, .int .i64 b, .int .i64 c, .int .i64 bo, .int .i64 fr, .int .i64 tr, .int .i64 ag, .slice X ks.length cp], .agg #[.int .i64 job, .int .i64 x1, .int .i64 x2, .int .i64 x3, .int .i64 x4, .int .i64 x5, .int .i64 x6, .bool t1, .bool t2, .bool t3, .int .u8 ph, .int .i64 tt, .int .i64 si]] w fun e w' => e = .returned (.bool false) ∧ Below w.heap.size w w' :=
  part_cases (fun h0 => rp0 a b c bo fr tr ag X cp ks job x1 x2 x3 x4 x5 x6 t1 t2 t3 ph tt si h0 w) (fun h0 h1 => rp1 a b c bo fr tr ag X cp ks job x1 x2 x3 x4 x5 x6 t1 t2 t3 ph tt si h0 h1 w) (fun h0 h1 h2 => rp2 a b c bo fr tr ag X cp ks job x1 x2 x3 x4 x5 x6 t1 t2 t3 ph tt si h0 h1 h2 w) (fun h0 h1 h2 h3 => rp3 a b c bo fr tr ag X cp ks job x1 x2 x3 x4 x5 x6 t1 t2 t3 ph tt si h0 h1 h2 h3 w) (fun h0 h1 h2 h3 h4 => rp4 a b c bo fr tr ag X cp ks job x1 x2 x3 x4 x5 x6 t1 t2 t3 ph tt si h0 h1 h2 h3 h4 w) (fun h => absurd h hp)
set_option maxRecDepth 100000 in
set_option maxHeartbeats 2000000 in
theorem asked_cfg (a b c bo fr tr ag : Int) (X : Option Addr) (cp : Nat) (ks : List Cls) (hl : ks.length ≤ 9223372036854775807) (job x1 x2 x3 x4 x5 x6 : Int) (t1 t2 t3 : Bool) (ph tt si : Int) (wall : Int) (h : ¬ CfgOk a b c bo fr tr ag ks) (w : World) (hk : ClsAt w w.heap.size X ks) :
    Calls Try.prog 27 #[.agg #[.int .i64 a, .int .i64 b, .int .i64 c, .int .i64 bo, .int .i64 fr, .int .i64 tr, .int .i64 ag, .slice X ks.length cp], .agg #[.int .i64 job, .int .i64 x1, .int .i64 x2, .int .i64 x3, .int .i64 x4, .int .i64 x5, .int .i64 x6, .bool t1, .bool t2, .bool t3, .int .u8 ph, .int .i64 tt, .int .i64 si], .int .i64 wall] w (fun e w' => e = .returned (.int .i64 8) ∧ Below w.heap.size w w') := by
  have HH := Lib.hid h
  have HKK := Lib.hid hk
  clear h hk
  go_enter Try.func27, Try.ntmps27
  go_wp2_with fail
  refine (rmay_bad a b c bo fr tr ag X cp ks hl HH.out _ (HKK.out.up (below_alloc (below_alloc (Below.refl _ _))))).mono ?_
  rintro e w1 ⟨rfl, hB1⟩
  have HB1 : Hid (Below w.heap.size w w1) := below_up (below_alloc (below_alloc (Below.refl _ _))) hB1
  have c1_0 : w1.cell? ⟨w.heap.size, 0, none⟩ = some (.int .i64 a) := keep_cell (cell_over _ (box0 w 26 #[.int .i64 a, .int .i64 b, .int .i64 c, .int .i64 bo, .int .i64 fr, .int .i64 tr, .int .i64 ag, .slice X ks.length cp] 0)) hB1
  have c1_1 : w1.cell? ⟨w.heap.size, 1, none⟩ = some (.int .i64 b) := keep_cell (cell_over _ (box0 w 26 #[.int .i64 a, .int .i64 b, .int .i64 c, .int .i64 bo, .int .i64 fr, .int .i64 tr, .int .i64 ag, .slice X ks.length cp] 1)) hB1
  have c1_2 : w1.cell? ⟨w.heap.size, 2, none⟩ = some (.int .i64 c) := keep_cell (cell_over _ (box0 w 26 #[.int .i64 a, .int .i64 b, .int .i64 c, .int .i64 bo, .int .i64 fr, .int .i64 tr, .int .i64 ag, .slice X ks.length cp] 2)) hB1
  have c1_3 : w1.cell? ⟨w.heap.size, 3, none⟩ = some (.int .i64 bo) := keep_cell (cell_over _ (box0 w 26 #[.int .i64 a, .int .i64 b, .int .i64 c, .int .i64 bo, .int .i64 fr, .int .i64 tr, .int .i64 ag, .slice X ks.length cp] 3)) hB1
  have c1_4 : w1.cell? ⟨w.heap.size, 4, none⟩ = some (.int .i64 fr) := keep_cell (cell_over _ (box0 w 26 #[.int .i64 a, .int .i64 b, .int .i64 c, .int .i64 bo, .int .i64 fr, .int .i64 tr, .int .i64 ag, .slice X ks.length cp] 4)) hB1
  have c1_5 : w1.cell? ⟨w.heap.size, 5, none⟩ = some (.int .i64 tr) := keep_cell (cell_over _ (box0 w 26 #[.int .i64 a, .int .i64 b, .int .i64 c, .int .i64 bo, .int .i64 fr, .int .i64 tr, .int .i64 ag, .slice X ks.length cp] 5)) hB1
  have c1_6 : w1.cell? ⟨w.heap.size, 6, none⟩ = some (.int .i64 ag) := keep_cell (cell_over _ (box0 w 26 #[.int .i64 a, .int .i64 b, .int .i64 c, .int .i64 bo, .int .i64 fr, .int .i64 tr, .int .i64 ag, .slice X ks.length cp] 6)) hB1
  have c1_7 : w1.cell? ⟨w.heap.size, 7, none⟩ = some (.slice X ks.length cp) := keep_cell (cell_over _ (box0 w 26 #[.int .i64 a, .int .i64 b, .int .i64 c, .int .i64 bo, .int .i64 fr, .int .i64 tr, .int .i64 ag, .slice X ks.length cp] 7)) hB1
  have c1_8 : w1.cell? ⟨w.heap.size + 1, 0, none⟩ = some (.int .i64 job) := keep_cell (box1 w 37 #[.int .i64 job, .int .i64 x1, .int .i64 x2, .int .i64 x3, .int .i64 x4, .int .i64 x5, .int .i64 x6, .bool t1, .bool t2, .bool t3, .int .u8 ph, .int .i64 tt, .int .i64 si] 0) hB1
  have c1_9 : w1.cell? ⟨w.heap.size + 1, 1, none⟩ = some (.int .i64 x1) := keep_cell (box1 w 37 #[.int .i64 job, .int .i64 x1, .int .i64 x2, .int .i64 x3, .int .i64 x4, .int .i64 x5, .int .i64 x6, .bool t1, .bool t2, .bool t3, .int .u8 ph, .int .i64 tt, .int .i64 si] 1) hB1
  have c1_10 : w1.cell? ⟨w.heap.size + 1, 2, none⟩ = some (.int .i64 x2) := keep_cell (box1 w 37 #[.int .i64 job, .int .i64 x1, .int .i64 x2, .int .i64 x3, .int .i64 x4, .int .i64 x5, .int .i64 x6, .bool t1, .bool t2, .bool t3, .int .u8 ph, .int .i64 tt, .int .i64 si] 2) hB1
  have c1_11 : w1.cell? ⟨w.heap.size + 1, 3, none⟩ = some (.int .i64 x3) := keep_cell (box1 w 37 #[.int .i64 job, .int .i64 x1, .int .i64 x2, .int .i64 x3, .int .i64 x4, .int .i64 x5, .int .i64 x6, .bool t1, .bool t2, .bool t3, .int .u8 ph, .int .i64 tt, .int .i64 si] 3) hB1
  have c1_12 : w1.cell? ⟨w.heap.size + 1, 4, none⟩ = some (.int .i64 x4) := keep_cell (box1 w 37 #[.int .i64 job, .int .i64 x1, .int .i64 x2, .int .i64 x3, .int .i64 x4, .int .i64 x5, .int .i64 x6, .bool t1, .bool t2, .bool t3, .int .u8 ph, .int .i64 tt, .int .i64 si] 4) hB1
  have c1_13 : w1.cell? ⟨w.heap.size + 1, 5, none⟩ = some (.int .i64 x5) := keep_cell (box1 w 37 #[.int .i64 job, .int .i64 x1, .int .i64 x2, .int .i64 x3, .int .i64 x4, .int .i64 x5, .int .i64 x6, .bool t1, .bool t2, .bool t3, .int .u8 ph, .int .i64 tt, .int .i64 si] 5) hB1
  have c1_14 : w1.cell? ⟨w.heap.size + 1, 6, none⟩ = some (.int .i64 x6) := keep_cell (box1 w 37 #[.int .i64 job, .int .i64 x1, .int .i64 x2, .int .i64 x3, .int .i64 x4, .int .i64 x5, .int .i64 x6, .bool t1, .bool t2, .bool t3, .int .u8 ph, .int .i64 tt, .int .i64 si] 6) hB1
  have c1_15 : w1.cell? ⟨w.heap.size + 1, 7, none⟩ = some (.bool t1) := keep_cell (box1 w 37 #[.int .i64 job, .int .i64 x1, .int .i64 x2, .int .i64 x3, .int .i64 x4, .int .i64 x5, .int .i64 x6, .bool t1, .bool t2, .bool t3, .int .u8 ph, .int .i64 tt, .int .i64 si] 7) hB1
  have c1_16 : w1.cell? ⟨w.heap.size + 1, 8, none⟩ = some (.bool t2) := keep_cell (box1 w 37 #[.int .i64 job, .int .i64 x1, .int .i64 x2, .int .i64 x3, .int .i64 x4, .int .i64 x5, .int .i64 x6, .bool t1, .bool t2, .bool t3, .int .u8 ph, .int .i64 tt, .int .i64 si] 8) hB1
  have c1_17 : w1.cell? ⟨w.heap.size + 1, 9, none⟩ = some (.bool t3) := keep_cell (box1 w 37 #[.int .i64 job, .int .i64 x1, .int .i64 x2, .int .i64 x3, .int .i64 x4, .int .i64 x5, .int .i64 x6, .bool t1, .bool t2, .bool t3, .int .u8 ph, .int .i64 tt, .int .i64 si] 9) hB1
  have c1_18 : w1.cell? ⟨w.heap.size + 1, 10, none⟩ = some (.int .u8 ph) := keep_cell (box1 w 37 #[.int .i64 job, .int .i64 x1, .int .i64 x2, .int .i64 x3, .int .i64 x4, .int .i64 x5, .int .i64 x6, .bool t1, .bool t2, .bool t3, .int .u8 ph, .int .i64 tt, .int .i64 si] 10) hB1
  have c1_19 : w1.cell? ⟨w.heap.size + 1, 11, none⟩ = some (.int .i64 tt) := keep_cell (box1 w 37 #[.int .i64 job, .int .i64 x1, .int .i64 x2, .int .i64 x3, .int .i64 x4, .int .i64 x5, .int .i64 x6, .bool t1, .bool t2, .bool t3, .int .u8 ph, .int .i64 tt, .int .i64 si] 11) hB1
  have c1_20 : w1.cell? ⟨w.heap.size + 1, 12, none⟩ = some (.int .i64 si) := keep_cell (box1 w 37 #[.int .i64 job, .int .i64 x1, .int .i64 x2, .int .i64 x3, .int .i64 x4, .int .i64 x5, .int .i64 x6, .bool t1, .bool t2, .bool t3, .int .u8 ph, .int .i64 tt, .int .i64 si] 12) hB1
  have z1_0 : w.heap.size < w1.heap.size := cell_lt c1_0
  have z1_1 : w.heap.size + 1 < w1.heap.size := cell_lt c1_8
  clear hB1  
  go_wp2_with fail
  go_ret
  exact ⟨rfl, HB1.out⟩
set_option maxRecDepth 100000 in
set_option maxHeartbeats 2000000 in
theorem asked_part (a b c bo fr tr ag : Int) (X : Option Addr) (cp : Nat) (ks : List Cls) (hl : ks.length ≤ 9223372036854775807) (job x1 x2 x3 x4 x5 x6 : Int) (t1 t2 t3 : Bool) (ph tt si : Int) (wall : Int) (h : CfgOk a b c bo fr tr ag ks) (hp : ¬ PartOk job ph tt si tr) (w : World) (hk : ClsAt w w.heap.size X ks) :
    Calls Try.prog 27 #[.agg #[.int .i64 a, .int .i64 b, .int .i64 c, .int .i64 bo, .int .i64 fr, .int .i64 tr, .int .i64 ag, .slice X ks.length cp], .agg #[.int .i64 job, .int .i64 x1, .int .i64 x2, .int .i64 x3, .int .i64 x4, .int .i64 x5, .int .i64 x6, .bool t1, .bool t2, .bool t3, .int .u8 ph, .int .i64 tt, .int .i64 si], .int .i64 wall] w (fun e w' => e = .returned (.int .i64 8) ∧ Below w.heap.size w w') := by
  have HH := Lib.hid h
  have HKK := Lib.hid hk
  clear h hk
  have HP := Lib.hid hp
  clear hp
  go_enter Try.func27, Try.ntmps27
  go_wp2_with fail
  refine (rmay_ok a b c bo fr tr ag X cp ks hl HH.out _ (HKK.out.up (below_alloc (below_alloc (Below.refl _ _))))).mono ?_
  rintro e w1 ⟨rfl, hB1⟩
  have HB1 : Hid (Below w.heap.size w w1) := below_up (below_alloc (below_alloc (Below.refl _ _))) hB1
  have c1_0 : w1.cell? ⟨w.heap.size, 0, none⟩ = some (.int .i64 a) := keep_cell (cell_over _ (box0 w 26 #[.int .i64 a, .int .i64 b, .int .i64 c, .int .i64 bo, .int .i64 fr, .int .i64 tr, .int .i64 ag, .slice X ks.length cp] 0)) hB1
  have c1_1 : w1.cell? ⟨w.heap.size, 1, none⟩ = some (.int .i64 b) := keep_cell (cell_over _ (box0 w 26 #[.int .i64 a, .int .i64 b, .int .i64 c, .int .i64 bo, .int .i64 fr, .int .i64 tr, .int .i64 ag, .slice X ks.length cp] 1)) hB1
  have c1_2 : w1.cell? ⟨w.heap.size, 2, none⟩ = some (.int .i64 c) := keep_cell (cell_over _ (box0 w 26 #[.int .i64 a, .int .i64 b, .int .i64 c, .int .i64 bo, .int .i64 fr, .int .i64 tr, .int .i64 ag, .slice X ks.length cp] 2)) hB1
  have c1_3 : w1.cell? ⟨w.heap.size, 3, none⟩ = some (.int .i64 bo) := keep_cell (cell_over _ (box0 w 26 #[.int .i64 a, .int .i64 b, .int .i64 c, .int .i64 bo, .int .i64 fr, .int .i64 tr, .int .i64 ag, .slice X ks.length cp] 3)) hB1
  have c1_4 : w1.cell? ⟨w.heap.size, 4, none⟩ = some (.int .i64 fr) := keep_cell (cell_over _ (box0 w 26 #[.int .i64 a, .int .i64 b, .int .i64 c, .int .i64 bo, .int .i64 fr, .int .i64 tr, .int .i64 ag, .slice X ks.length cp] 4)) hB1
  have c1_5 : w1.cell? ⟨w.heap.size, 5, none⟩ = some (.int .i64 tr) := keep_cell (cell_over _ (box0 w 26 #[.int .i64 a, .int .i64 b, .int .i64 c, .int .i64 bo, .int .i64 fr, .int .i64 tr, .int .i64 ag, .slice X ks.length cp] 5)) hB1
  have c1_6 : w1.cell? ⟨w.heap.size, 6, none⟩ = some (.int .i64 ag) := keep_cell (cell_over _ (box0 w 26 #[.int .i64 a, .int .i64 b, .int .i64 c, .int .i64 bo, .int .i64 fr, .int .i64 tr, .int .i64 ag, .slice X ks.length cp] 6)) hB1
  have c1_7 : w1.cell? ⟨w.heap.size, 7, none⟩ = some (.slice X ks.length cp) := keep_cell (cell_over _ (box0 w 26 #[.int .i64 a, .int .i64 b, .int .i64 c, .int .i64 bo, .int .i64 fr, .int .i64 tr, .int .i64 ag, .slice X ks.length cp] 7)) hB1
  have c1_8 : w1.cell? ⟨w.heap.size + 1, 0, none⟩ = some (.int .i64 job) := keep_cell (box1 w 37 #[.int .i64 job, .int .i64 x1, .int .i64 x2, .int .i64 x3, .int .i64 x4, .int .i64 x5, .int .i64 x6, .bool t1, .bool t2, .bool t3, .int .u8 ph, .int .i64 tt, .int .i64 si] 0) hB1
  have c1_9 : w1.cell? ⟨w.heap.size + 1, 1, none⟩ = some (.int .i64 x1) := keep_cell (box1 w 37 #[.int .i64 job, .int .i64 x1, .int .i64 x2, .int .i64 x3, .int .i64 x4, .int .i64 x5, .int .i64 x6, .bool t1, .bool t2, .bool t3, .int .u8 ph, .int .i64 tt, .int .i64 si] 1) hB1
  have c1_10 : w1.cell? ⟨w.heap.size + 1, 2, none⟩ = some (.int .i64 x2) := keep_cell (box1 w 37 #[.int .i64 job, .int .i64 x1, .int .i64 x2, .int .i64 x3, .int .i64 x4, .int .i64 x5, .int .i64 x6, .bool t1, .bool t2, .bool t3, .int .u8 ph, .int .i64 tt, .int .i64 si] 2) hB1
  have c1_11 : w1.cell? ⟨w.heap.size + 1, 3, none⟩ = some (.int .i64 x3) := keep_cell (box1 w 37 #[.int .i64 job, .int .i64 x1, .int .i64 x2, .int .i64 x3, .int .i64 x4, .int .i64 x5, .int .i64 x6, .bool t1, .bool t2, .bool t3, .int .u8 ph, .int .i64 tt, .int .i64 si] 3) hB1
  have c1_12 : w1.cell? ⟨w.heap.size + 1, 4, none⟩ = some (.int .i64 x4) := keep_cell (box1 w 37 #[.int .i64 job, .int .i64 x1, .int .i64 x2, .int .i64 x3, .int .i64 x4, .int .i64 x5, .int .i64 x6, .bool t1, .bool t2, .bool t3, .int .u8 ph, .int .i64 tt, .int .i64 si] 4) hB1
  have c1_13 : w1.cell? ⟨w.heap.size + 1, 5, none⟩ = some (.int .i64 x5) := keep_cell (box1 w 37 #[.int .i64 job, .int .i64 x1, .int .i64 x2, .int .i64 x3, .int .i64 x4, .int .i64 x5, .int .i64 x6, .bool t1, .bool t2, .bool t3, .int .u8 ph, .int .i64 tt, .int .i64 si] 5) hB1
  have c1_14 : w1.cell? ⟨w.heap.size + 1, 6, none⟩ = some (.int .i64 x6) := keep_cell (box1 w 37 #[.int .i64 job, .int .i64 x1, .int .i64 x2, .int .i64 x3, .int .i64 x4, .int .i64 x5, .int .i64 x6, .bool t1, .bool t2, .bool t3, .int .u8 ph, .int .i64 tt, .int .i64 si] 6) hB1
  have c1_15 : w1.cell? ⟨w.heap.size + 1, 7, none⟩ = some (.bool t1) := keep_cell (box1 w 37 #[.int .i64 job, .int .i64 x1, .int .i64 x2, .int .i64 x3, .int .i64 x4, .int .i64 x5, .int .i64 x6, .bool t1, .bool t2, .bool t3, .int .u8 ph, .int .i64 tt, .int .i64 si] 7) hB1
  have c1_16 : w1.cell? ⟨w.heap.size + 1, 8, none⟩ = some (.bool t2) := keep_cell (box1 w 37 #[.int .i64 job, .int .i64 x1, .int .i64 x2, .int .i64 x3, .int .i64 x4, .int .i64 x5, .int .i64 x6, .bool t1, .bool t2, .bool t3, .int .u8 ph, .int .i64 tt, .int .i64 si] 8) hB1
  have c1_17 : w1.cell? ⟨w.heap.size + 1, 9, none⟩ = some (.bool t3) := keep_cell (box1 w 37 #[.int .i64 job, .int .i64 x1, .int .i64 x2, .int .i64 x3, .int .i64 x4, .int .i64 x5, .int .i64 x6, .bool t1, .bool t2, .bool t3, .int .u8 ph, .int .i64 tt, .int .i64 si] 9) hB1
  have c1_18 : w1.cell? ⟨w.heap.size + 1, 10, none⟩ = some (.int .u8 ph) := keep_cell (box1 w 37 #[.int .i64 job, .int .i64 x1, .int .i64 x2, .int .i64 x3, .int .i64 x4, .int .i64 x5, .int .i64 x6, .bool t1, .bool t2, .bool t3, .int .u8 ph, .int .i64 tt, .int .i64 si] 10) hB1
  have c1_19 : w1.cell? ⟨w.heap.size + 1, 11, none⟩ = some (.int .i64 tt) := keep_cell (box1 w 37 #[.int .i64 job, .int .i64 x1, .int .i64 x2, .int .i64 x3, .int .i64 x4, .int .i64 x5, .int .i64 x6, .bool t1, .bool t2, .bool t3, .int .u8 ph, .int .i64 tt, .int .i64 si] 11) hB1
  have c1_20 : w1.cell? ⟨w.heap.size + 1, 12, none⟩ = some (.int .i64 si) := keep_cell (box1 w 37 #[.int .i64 job, .int .i64 x1, .int .i64 x2, .int .i64 x3, .int .i64 x4, .int .i64 x5, .int .i64 x6, .bool t1, .bool t2, .bool t3, .int .u8 ph, .int .i64 tt, .int .i64 si] 12) hB1
  have z1_0 : w.heap.size < w1.heap.size := cell_lt c1_0
  have z1_1 : w.heap.size + 1 < w1.heap.size := cell_lt c1_8
  clear hB1  
  go_wp2_with fail
  refine (rp_bad a b c bo fr tr ag X cp ks job x1 x2 x3 x4 x5 x6 t1 t2 t3 ph tt si HP.out _).mono ?_
  rintro e w2 ⟨rfl, hB2⟩
  have HB2 : Hid (Below w.heap.size w w2) := below_up HB1.out hB2
  have c2_0 : w2.cell? ⟨w.heap.size, 0, none⟩ = some (.int .i64 a) := keep_cell c1_0 hB2
  have c2_1 : w2.cell? ⟨w.heap.size, 1, none⟩ = some (.int .i64 b) := keep_cell c1_1 hB2
  have c2_2 : w2.cell? ⟨w.heap.size, 2, none⟩ = some (.int .i64 c) := keep_cell c1_2 hB2
  have c2_3 : w2.cell? ⟨w.heap.size, 3, none⟩ = some (.int .i64 bo) := keep_cell c1_3 hB2
  have c2_4 : w2.cell? ⟨w.heap.size, 4, none⟩ = some (.int .i64 fr) := keep_cell c1_4 hB2
  have c2_5 : w2.cell? ⟨w.heap.size, 5, none⟩ = some (.int .i64 tr) := keep_cell c1_5 hB2
  have c2_6 : w2.cell? ⟨w.heap.size, 6, none⟩ = some (.int .i64 ag) := keep_cell c1_6 hB2
  have c2_7 : w2.cell? ⟨w.heap.size, 7, none⟩ = some (.slice X ks.length cp) := keep_cell c1_7 hB2
  have c2_8 : w2.cell? ⟨w.heap.size + 1, 0, none⟩ = some (.int .i64 job) := keep_cell c1_8 hB2
  have c2_9 : w2.cell? ⟨w.heap.size + 1, 1, none⟩ = some (.int .i64 x1) := keep_cell c1_9 hB2
  have c2_10 : w2.cell? ⟨w.heap.size + 1, 2, none⟩ = some (.int .i64 x2) := keep_cell c1_10 hB2
  have c2_11 : w2.cell? ⟨w.heap.size + 1, 3, none⟩ = some (.int .i64 x3) := keep_cell c1_11 hB2
  have c2_12 : w2.cell? ⟨w.heap.size + 1, 4, none⟩ = some (.int .i64 x4) := keep_cell c1_12 hB2
  have c2_13 : w2.cell? ⟨w.heap.size + 1, 5, none⟩ = some (.int .i64 x5) := keep_cell c1_13 hB2
  have c2_14 : w2.cell? ⟨w.heap.size + 1, 6, none⟩ = some (.int .i64 x6) := keep_cell c1_14 hB2
  have c2_15 : w2.cell? ⟨w.heap.size + 1, 7, none⟩ = some (.bool t1) := keep_cell c1_15 hB2
  have c2_16 : w2.cell? ⟨w.heap.size + 1, 8, none⟩ = some (.bool t2) := keep_cell c1_16 hB2
  have c2_17 : w2.cell? ⟨w.heap.size + 1, 9, none⟩ = some (.bool t3) := keep_cell c1_17 hB2
  have c2_18 : w2.cell? ⟨w.heap.size + 1, 10, none⟩ = some (.int .u8 ph) := keep_cell c1_18 hB2
  have c2_19 : w2.cell? ⟨w.heap.size + 1, 11, none⟩ = some (.int .i64 tt) := keep_cell c1_19 hB2
  have c2_20 : w2.cell? ⟨w.heap.size + 1, 12, none⟩ = some (.int .i64 si) := keep_cell c1_20 hB2
  have z2_0 : w.heap.size < w2.heap.size := cell_lt c2_0
  have z2_1 : w.heap.size + 1 < w2.heap.size := cell_lt c2_8
  clear hB2 c1_0 c1_1 c1_2 c1_3 c1_4 c1_5 c1_6 c1_7 c1_8 c1_9 c1_10 c1_11 c1_12 c1_13 c1_14 c1_15 c1_16 c1_17 c1_18 c1_19 c1_20 z1_0 z1_1
  go_wp2_with fail
  go_ret
  exact ⟨rfl, HB2.out⟩
set_option maxRecDepth 100000 in
set_option maxHeartbeats 2000000 in
theorem asked_wall (a b c bo fr tr ag : Int) (X : Option Addr) (cp : Nat) (ks : List Cls) (hl : ks.length ≤ 9223372036854775807) (job x1 x2 x3 x4 x5 x6 : Int) (t1 t2 t3 : Bool) (ph tt si : Int) (wall : Int) (h : CfgOk a b c bo fr tr ag ks) (hp : PartOk job ph tt si tr) (hW : inB wall 1 1048576 = false) (w : World) (hk : ClsAt w w.heap.size X ks) :
    Calls Try.prog 27 #[.agg #[.int .i64 a, .int .i64 b, .int .i64 c, .int .i64 bo, .int .i64 fr, .int .i64 tr, .int .i64 ag, .slice X ks.length cp], .agg #[.int .i64 job, .int .i64 x1, .int .i64 x2, .int .i64 x3, .int .i64 x4, .int .i64 x5, .int .i64 x6, .bool t1, .bool t2, .bool t3, .int .u8 ph, .int .i64 tt, .int .i64 si], .int .i64 wall] w (fun e w' => e = .returned (.int .i64 2) ∧ Below w.heap.size w w') := by
  have HH := Lib.hid h
  have HKK := Lib.hid hk
  clear h hk
  have HP := Lib.hid hp
  clear hp
  have HW := Lib.hid hW
  clear hW
  go_enter Try.func27, Try.ntmps27
  go_wp2_with fail
  refine (rmay_ok a b c bo fr tr ag X cp ks hl HH.out _ (HKK.out.up (below_alloc (below_alloc (Below.refl _ _))))).mono ?_
  rintro e w1 ⟨rfl, hB1⟩
  have HB1 : Hid (Below w.heap.size w w1) := below_up (below_alloc (below_alloc (Below.refl _ _))) hB1
  have c1_0 : w1.cell? ⟨w.heap.size, 0, none⟩ = some (.int .i64 a) := keep_cell (cell_over _ (box0 w 26 #[.int .i64 a, .int .i64 b, .int .i64 c, .int .i64 bo, .int .i64 fr, .int .i64 tr, .int .i64 ag, .slice X ks.length cp] 0)) hB1
  have c1_1 : w1.cell? ⟨w.heap.size, 1, none⟩ = some (.int .i64 b) := keep_cell (cell_over _ (box0 w 26 #[.int .i64 a, .int .i64 b, .int .i64 c, .int .i64 bo, .int .i64 fr, .int .i64 tr, .int .i64 ag, .slice X ks.length cp] 1)) hB1
  have c1_2 : w1.cell? ⟨w.heap.size, 2, none⟩ = some (.int .i64 c) := keep_cell (cell_over _ (box0 w 26 #[.int .i64 a, .int .i64 b, .int .i64 c, .int .i64 bo, .int .i64 fr, .int .i64 tr, .int .i64 ag, .slice X ks.length cp] 2)) hB1
  have c1_3 : w1.cell? ⟨w.heap.size, 3, none⟩ = some (.int .i64 bo) := keep_cell (cell_over _ (box0 w 26 #[.int .i64 a, .int .i64 b, .int .i64 c, .int .i64 bo, .int .i64 fr, .int .i64 tr, .int .i64 ag, .slice X ks.length cp] 3)) hB1
  have c1_4 : w1.cell? ⟨w.heap.size, 4, none⟩ = some (.int .i64 fr) := keep_cell (cell_over _ (box0 w 26 #[.int .i64 a, .int .i64 b, .int .i64 c, .int .i64 bo, .int .i64 fr, .int .i64 tr, .int .i64 ag, .slice X ks.length cp] 4)) hB1
  have c1_5 : w1.cell? ⟨w.heap.size, 5, none⟩ = some (.int .i64 tr) := keep_cell (cell_over _ (box0 w 26 #[.int .i64 a, .int .i64 b, .int .i64 c, .int .i64 bo, .int .i64 fr, .int .i64 tr, .int .i64 ag, .slice X ks.length cp] 5)) hB1
  have c1_6 : w1.cell? ⟨w.heap.size, 6, none⟩ = some (.int .i64 ag) := keep_cell (cell_over _ (box0 w 26 #[.int .i64 a, .int .i64 b, .int .i64 c, .int .i64 bo, .int .i64 fr, .int .i64 tr, .int .i64 ag, .slice X ks.length cp] 6)) hB1
  have c1_7 : w1.cell? ⟨w.heap.size, 7, none⟩ = some (.slice X ks.length cp) := keep_cell (cell_over _ (box0 w 26 #[.int .i64 a, .int .i64 b, .int .i64 c, .int .i64 bo, .int .i64 fr, .int .i64 tr, .int .i64 ag, .slice X ks.length cp] 7)) hB1
  have c1_8 : w1.cell? ⟨w.heap.size + 1, 0, none⟩ = some (.int .i64 job) := keep_cell (box1 w 37 #[.int .i64 job, .int .i64 x1, .int .i64 x2, .int .i64 x3, .int .i64 x4, .int .i64 x5, .int .i64 x6, .bool t1, .bool t2, .bool t3, .int .u8 ph, .int .i64 tt, .int .i64 si] 0) hB1
  have c1_9 : w1.cell? ⟨w.heap.size + 1, 1, none⟩ = some (.int .i64 x1) := keep_cell (box1 w 37 #[.int .i64 job, .int .i64 x1, .int .i64 x2, .int .i64 x3, .int .i64 x4, .int .i64 x5, .int .i64 x6, .bool t1, .bool t2, .bool t3, .int .u8 ph, .int .i64 tt, .int .i64 si] 1) hB1
  have c1_10 : w1.cell? ⟨w.heap.size + 1, 2, none⟩ = some (.int .i64 x2) := keep_cell (box1 w 37 #[.int .i64 job, .int .i64 x1, .int .i64 x2, .int .i64 x3, .int .i64 x4, .int .i64 x5, .int .i64 x6, .bool t1, .bool t2, .bool t3, .int .u8 ph, .int .i64 tt, .int .i64 si] 2) hB1
  have c1_11 : w1.cell? ⟨w.heap.size + 1, 3, none⟩ = some (.int .i64 x3) := keep_cell (box1 w 37 #[.int .i64 job, .int .i64 x1, .int .i64 x2, .int .i64 x3, .int .i64 x4, .int .i64 x5, .int .i64 x6, .bool t1, .bool t2, .bool t3, .int .u8 ph, .int .i64 tt, .int .i64 si] 3) hB1
  have c1_12 : w1.cell? ⟨w.heap.size + 1, 4, none⟩ = some (.int .i64 x4) := keep_cell (box1 w 37 #[.int .i64 job, .int .i64 x1, .int .i64 x2, .int .i64 x3, .int .i64 x4, .int .i64 x5, .int .i64 x6, .bool t1, .bool t2, .bool t3, .int .u8 ph, .int .i64 tt, .int .i64 si] 4) hB1
  have c1_13 : w1.cell? ⟨w.heap.size + 1, 5, none⟩ = some (.int .i64 x5) := keep_cell (box1 w 37 #[.int .i64 job, .int .i64 x1, .int .i64 x2, .int .i64 x3, .int .i64 x4, .int .i64 x5, .int .i64 x6, .bool t1, .bool t2, .bool t3, .int .u8 ph, .int .i64 tt, .int .i64 si] 5) hB1
  have c1_14 : w1.cell? ⟨w.heap.size + 1, 6, none⟩ = some (.int .i64 x6) := keep_cell (box1 w 37 #[.int .i64 job, .int .i64 x1, .int .i64 x2, .int .i64 x3, .int .i64 x4, .int .i64 x5, .int .i64 x6, .bool t1, .bool t2, .bool t3, .int .u8 ph, .int .i64 tt, .int .i64 si] 6) hB1
  have c1_15 : w1.cell? ⟨w.heap.size + 1, 7, none⟩ = some (.bool t1) := keep_cell (box1 w 37 #[.int .i64 job, .int .i64 x1, .int .i64 x2, .int .i64 x3, .int .i64 x4, .int .i64 x5, .int .i64 x6, .bool t1, .bool t2, .bool t3, .int .u8 ph, .int .i64 tt, .int .i64 si] 7) hB1
  have c1_16 : w1.cell? ⟨w.heap.size + 1, 8, none⟩ = some (.bool t2) := keep_cell (box1 w 37 #[.int .i64 job, .int .i64 x1, .int .i64 x2, .int .i64 x3, .int .i64 x4, .int .i64 x5, .int .i64 x6, .bool t1, .bool t2, .bool t3, .int .u8 ph, .int .i64 tt, .int .i64 si] 8) hB1
  have c1_17 : w1.cell? ⟨w.heap.size + 1, 9, none⟩ = some (.bool t3) := keep_cell (box1 w 37 #[.int .i64 job, .int .i64 x1, .int .i64 x2, .int .i64 x3, .int .i64 x4, .int .i64 x5, .int .i64 x6, .bool t1, .bool t2, .bool t3, .int .u8 ph, .int .i64 tt, .int .i64 si] 9) hB1
  have c1_18 : w1.cell? ⟨w.heap.size + 1, 10, none⟩ = some (.int .u8 ph) := keep_cell (box1 w 37 #[.int .i64 job, .int .i64 x1, .int .i64 x2, .int .i64 x3, .int .i64 x4, .int .i64 x5, .int .i64 x6, .bool t1, .bool t2, .bool t3, .int .u8 ph, .int .i64 tt, .int .i64 si] 10) hB1
  have c1_19 : w1.cell? ⟨w.heap.size + 1, 11, none⟩ = some (.int .i64 tt) := keep_cell (box1 w 37 #[.int .i64 job, .int .i64 x1, .int .i64 x2, .int .i64 x3, .int .i64 x4, .int .i64 x5, .int .i64 x6, .bool t1, .bool t2, .bool t3, .int .u8 ph, .int .i64 tt, .int .i64 si] 11) hB1
  have c1_20 : w1.cell? ⟨w.heap.size + 1, 12, none⟩ = some (.int .i64 si) := keep_cell (box1 w 37 #[.int .i64 job, .int .i64 x1, .int .i64 x2, .int .i64 x3, .int .i64 x4, .int .i64 x5, .int .i64 x6, .bool t1, .bool t2, .bool t3, .int .u8 ph, .int .i64 tt, .int .i64 si] 12) hB1
  have z1_0 : w.heap.size < w1.heap.size := cell_lt c1_0
  have z1_1 : w.heap.size + 1 < w1.heap.size := cell_lt c1_8
  clear hB1  
  go_wp2_with fail
  refine (rp_ok a b c bo fr tr ag X cp ks job x1 x2 x3 x4 x5 x6 t1 t2 t3 ph tt si HP.out _).mono ?_
  rintro e w2 ⟨rfl, hB2⟩
  have HB2 : Hid (Below w.heap.size w w2) := below_up HB1.out hB2
  have c2_0 : w2.cell? ⟨w.heap.size, 0, none⟩ = some (.int .i64 a) := keep_cell c1_0 hB2
  have c2_1 : w2.cell? ⟨w.heap.size, 1, none⟩ = some (.int .i64 b) := keep_cell c1_1 hB2
  have c2_2 : w2.cell? ⟨w.heap.size, 2, none⟩ = some (.int .i64 c) := keep_cell c1_2 hB2
  have c2_3 : w2.cell? ⟨w.heap.size, 3, none⟩ = some (.int .i64 bo) := keep_cell c1_3 hB2
  have c2_4 : w2.cell? ⟨w.heap.size, 4, none⟩ = some (.int .i64 fr) := keep_cell c1_4 hB2
  have c2_5 : w2.cell? ⟨w.heap.size, 5, none⟩ = some (.int .i64 tr) := keep_cell c1_5 hB2
  have c2_6 : w2.cell? ⟨w.heap.size, 6, none⟩ = some (.int .i64 ag) := keep_cell c1_6 hB2
  have c2_7 : w2.cell? ⟨w.heap.size, 7, none⟩ = some (.slice X ks.length cp) := keep_cell c1_7 hB2
  have c2_8 : w2.cell? ⟨w.heap.size + 1, 0, none⟩ = some (.int .i64 job) := keep_cell c1_8 hB2
  have c2_9 : w2.cell? ⟨w.heap.size + 1, 1, none⟩ = some (.int .i64 x1) := keep_cell c1_9 hB2
  have c2_10 : w2.cell? ⟨w.heap.size + 1, 2, none⟩ = some (.int .i64 x2) := keep_cell c1_10 hB2
  have c2_11 : w2.cell? ⟨w.heap.size + 1, 3, none⟩ = some (.int .i64 x3) := keep_cell c1_11 hB2
  have c2_12 : w2.cell? ⟨w.heap.size + 1, 4, none⟩ = some (.int .i64 x4) := keep_cell c1_12 hB2
  have c2_13 : w2.cell? ⟨w.heap.size + 1, 5, none⟩ = some (.int .i64 x5) := keep_cell c1_13 hB2
  have c2_14 : w2.cell? ⟨w.heap.size + 1, 6, none⟩ = some (.int .i64 x6) := keep_cell c1_14 hB2
  have c2_15 : w2.cell? ⟨w.heap.size + 1, 7, none⟩ = some (.bool t1) := keep_cell c1_15 hB2
  have c2_16 : w2.cell? ⟨w.heap.size + 1, 8, none⟩ = some (.bool t2) := keep_cell c1_16 hB2
  have c2_17 : w2.cell? ⟨w.heap.size + 1, 9, none⟩ = some (.bool t3) := keep_cell c1_17 hB2
  have c2_18 : w2.cell? ⟨w.heap.size + 1, 10, none⟩ = some (.int .u8 ph) := keep_cell c1_18 hB2
  have c2_19 : w2.cell? ⟨w.heap.size + 1, 11, none⟩ = some (.int .i64 tt) := keep_cell c1_19 hB2
  have c2_20 : w2.cell? ⟨w.heap.size + 1, 12, none⟩ = some (.int .i64 si) := keep_cell c1_20 hB2
  have z2_0 : w.heap.size < w2.heap.size := cell_lt c2_0
  have z2_1 : w.heap.size + 1 < w2.heap.size := cell_lt c2_8
  clear hB2 c1_0 c1_1 c1_2 c1_3 c1_4 c1_5 c1_6 c1_7 c1_8 c1_9 c1_10 c1_11 c1_12 c1_13 c1_14 c1_15 c1_16 c1_17 c1_18 c1_19 c1_20 z1_0 z1_1
  go_wp2_with fail
  refine (in_to _ _ _ _ HW.out _).mono ?_
  rintro e w' ⟨rfl, rfl⟩
  go_wp2_with fail
  go_ret
  exact ⟨rfl, HB2.out⟩
set_option maxRecDepth 100000 in
set_option maxHeartbeats 2000000 in
theorem asked_ok (a b c bo fr tr ag : Int) (X : Option Addr) (cp : Nat) (ks : List Cls) (hl : ks.length ≤ 9223372036854775807) (job x1 x2 x3 x4 x5 x6 : Int) (t1 t2 t3 : Bool) (ph tt si : Int) (wall : Int) (h : CfgOk a b c bo fr tr ag ks) (hp : PartOk job ph tt si tr) (hW : inB wall 1 1048576 = true) (w : World) (hk : ClsAt w w.heap.size X ks) :
    Calls Try.prog 27 #[.agg #[.int .i64 a, .int .i64 b, .int .i64 c, .int .i64 bo, .int .i64 fr, .int .i64 tr, .int .i64 ag, .slice X ks.length cp], .agg #[.int .i64 job, .int .i64 x1, .int .i64 x2, .int .i64 x3, .int .i64 x4, .int .i64 x5, .int .i64 x6, .bool t1, .bool t2, .bool t3, .int .u8 ph, .int .i64 tt, .int .i64 si], .int .i64 wall] w (fun e w' => e = .returned (.int .i64 0) ∧ Below w.heap.size w w') := by
  have HH := Lib.hid h
  have HKK := Lib.hid hk
  clear h hk
  have HP := Lib.hid hp
  clear hp
  have HW := Lib.hid hW
  clear hW
  go_enter Try.func27, Try.ntmps27
  go_wp2_with fail
  refine (rmay_ok a b c bo fr tr ag X cp ks hl HH.out _ (HKK.out.up (below_alloc (below_alloc (Below.refl _ _))))).mono ?_
  rintro e w1 ⟨rfl, hB1⟩
  have HB1 : Hid (Below w.heap.size w w1) := below_up (below_alloc (below_alloc (Below.refl _ _))) hB1
  have c1_0 : w1.cell? ⟨w.heap.size, 0, none⟩ = some (.int .i64 a) := keep_cell (cell_over _ (box0 w 26 #[.int .i64 a, .int .i64 b, .int .i64 c, .int .i64 bo, .int .i64 fr, .int .i64 tr, .int .i64 ag, .slice X ks.length cp] 0)) hB1
  have c1_1 : w1.cell? ⟨w.heap.size, 1, none⟩ = some (.int .i64 b) := keep_cell (cell_over _ (box0 w 26 #[.int .i64 a, .int .i64 b, .int .i64 c, .int .i64 bo, .int .i64 fr, .int .i64 tr, .int .i64 ag, .slice X ks.length cp] 1)) hB1
  have c1_2 : w1.cell? ⟨w.heap.size, 2, none⟩ = some (.int .i64 c) := keep_cell (cell_over _ (box0 w 26 #[.int .i64 a, .int .i64 b, .int .i64 c, .int .i64 bo, .int .i64 fr, .int .i64 tr, .int .i64 ag, .slice X ks.length cp] 2)) hB1
  have c1_3 : w1.cell? ⟨w.heap.size, 3, none⟩ = some (.int .i64 bo) := keep_cell (cell_over _ (box0 w 26 #[.int .i64 a, .int .i64 b, .int .i64 c, .int .i64 bo, .int .i64 fr, .int .i64 tr, .int .i64 ag, .slice X ks.length cp] 3)) hB1
  have c1_4 : w1.cell? ⟨w.heap.size, 4, none⟩ = some (.int .i64 fr) := keep_cell (cell_over _ (box0 w 26 #[.int .i64 a, .int .i64 b, .int .i64 c, .int .i64 bo, .int .i64 fr, .int .i64 tr, .int .i64 ag, .slice X ks.length cp] 4)) hB1
  have c1_5 : w1.cell? ⟨w.heap.size, 5, none⟩ = some (.int .i64 tr) := keep_cell (cell_over _ (box0 w 26 #[.int .i64 a, .int .i64 b, .int .i64 c, .int .i64 bo, .int .i64 fr, .int .i64 tr, .int .i64 ag, .slice X ks.length cp] 5)) hB1
  have c1_6 : w1.cell? ⟨w.heap.size, 6, none⟩ = some (.int .i64 ag) := keep_cell (cell_over _ (box0 w 26 #[.int .i64 a, .int .i64 b, .int .i64 c, .int .i64 bo, .int .i64 fr, .int .i64 tr, .int .i64 ag, .slice X ks.length cp] 6)) hB1
  have c1_7 : w1.cell? ⟨w.heap.size, 7, none⟩ = some (.slice X ks.length cp) := keep_cell (cell_over _ (box0 w 26 #[.int .i64 a, .int .i64 b, .int .i64 c, .int .i64 bo, .int .i64 fr, .int .i64 tr, .int .i64 ag, .slice X ks.length cp] 7)) hB1
  have c1_8 : w1.cell? ⟨w.heap.size + 1, 0, none⟩ = some (.int .i64 job) := keep_cell (box1 w 37 #[.int .i64 job, .int .i64 x1, .int .i64 x2, .int .i64 x3, .int .i64 x4, .int .i64 x5, .int .i64 x6, .bool t1, .bool t2, .bool t3, .int .u8 ph, .int .i64 tt, .int .i64 si] 0) hB1
  have c1_9 : w1.cell? ⟨w.heap.size + 1, 1, none⟩ = some (.int .i64 x1) := keep_cell (box1 w 37 #[.int .i64 job, .int .i64 x1, .int .i64 x2, .int .i64 x3, .int .i64 x4, .int .i64 x5, .int .i64 x6, .bool t1, .bool t2, .bool t3, .int .u8 ph, .int .i64 tt, .int .i64 si] 1) hB1
  have c1_10 : w1.cell? ⟨w.heap.size + 1, 2, none⟩ = some (.int .i64 x2) := keep_cell (box1 w 37 #[.int .i64 job, .int .i64 x1, .int .i64 x2, .int .i64 x3, .int .i64 x4, .int .i64 x5, .int .i64 x6, .bool t1, .bool t2, .bool t3, .int .u8 ph, .int .i64 tt, .int .i64 si] 2) hB1
  have c1_11 : w1.cell? ⟨w.heap.size + 1, 3, none⟩ = some (.int .i64 x3) := keep_cell (box1 w 37 #[.int .i64 job, .int .i64 x1, .int .i64 x2, .int .i64 x3, .int .i64 x4, .int .i64 x5, .int .i64 x6, .bool t1, .bool t2, .bool t3, .int .u8 ph, .int .i64 tt, .int .i64 si] 3) hB1
  have c1_12 : w1.cell? ⟨w.heap.size + 1, 4, none⟩ = some (.int .i64 x4) := keep_cell (box1 w 37 #[.int .i64 job, .int .i64 x1, .int .i64 x2, .int .i64 x3, .int .i64 x4, .int .i64 x5, .int .i64 x6, .bool t1, .bool t2, .bool t3, .int .u8 ph, .int .i64 tt, .int .i64 si] 4) hB1
  have c1_13 : w1.cell? ⟨w.heap.size + 1, 5, none⟩ = some (.int .i64 x5) := keep_cell (box1 w 37 #[.int .i64 job, .int .i64 x1, .int .i64 x2, .int .i64 x3, .int .i64 x4, .int .i64 x5, .int .i64 x6, .bool t1, .bool t2, .bool t3, .int .u8 ph, .int .i64 tt, .int .i64 si] 5) hB1
  have c1_14 : w1.cell? ⟨w.heap.size + 1, 6, none⟩ = some (.int .i64 x6) := keep_cell (box1 w 37 #[.int .i64 job, .int .i64 x1, .int .i64 x2, .int .i64 x3, .int .i64 x4, .int .i64 x5, .int .i64 x6, .bool t1, .bool t2, .bool t3, .int .u8 ph, .int .i64 tt, .int .i64 si] 6) hB1
  have c1_15 : w1.cell? ⟨w.heap.size + 1, 7, none⟩ = some (.bool t1) := keep_cell (box1 w 37 #[.int .i64 job, .int .i64 x1, .int .i64 x2, .int .i64 x3, .int .i64 x4, .int .i64 x5, .int .i64 x6, .bool t1, .bool t2, .bool t3, .int .u8 ph, .int .i64 tt, .int .i64 si] 7) hB1
  have c1_16 : w1.cell? ⟨w.heap.size + 1, 8, none⟩ = some (.bool t2) := keep_cell (box1 w 37 #[.int .i64 job, .int .i64 x1, .int .i64 x2, .int .i64 x3, .int .i64 x4, .int .i64 x5, .int .i64 x6, .bool t1, .bool t2, .bool t3, .int .u8 ph, .int .i64 tt, .int .i64 si] 8) hB1
  have c1_17 : w1.cell? ⟨w.heap.size + 1, 9, none⟩ = some (.bool t3) := keep_cell (box1 w 37 #[.int .i64 job, .int .i64 x1, .int .i64 x2, .int .i64 x3, .int .i64 x4, .int .i64 x5, .int .i64 x6, .bool t1, .bool t2, .bool t3, .int .u8 ph, .int .i64 tt, .int .i64 si] 9) hB1
  have c1_18 : w1.cell? ⟨w.heap.size + 1, 10, none⟩ = some (.int .u8 ph) := keep_cell (box1 w 37 #[.int .i64 job, .int .i64 x1, .int .i64 x2, .int .i64 x3, .int .i64 x4, .int .i64 x5, .int .i64 x6, .bool t1, .bool t2, .bool t3, .int .u8 ph, .int .i64 tt, .int .i64 si] 10) hB1
  have c1_19 : w1.cell? ⟨w.heap.size + 1, 11, none⟩ = some (.int .i64 tt) := keep_cell (box1 w 37 #[.int .i64 job, .int .i64 x1, .int .i64 x2, .int .i64 x3, .int .i64 x4, .int .i64 x5, .int .i64 x6, .bool t1, .bool t2, .bool t3, .int .u8 ph, .int .i64 tt, .int .i64 si] 11) hB1
  have c1_20 : w1.cell? ⟨w.heap.size + 1, 12, none⟩ = some (.int .i64 si) := keep_cell (box1 w 37 #[.int .i64 job, .int .i64 x1, .int .i64 x2, .int .i64 x3, .int .i64 x4, .int .i64 x5, .int .i64 x6, .bool t1, .bool t2, .bool t3, .int .u8 ph, .int .i64 tt, .int .i64 si] 12) hB1
  have z1_0 : w.heap.size < w1.heap.size := cell_lt c1_0
  have z1_1 : w.heap.size + 1 < w1.heap.size := cell_lt c1_8
  clear hB1  
  go_wp2_with fail
  refine (rp_ok a b c bo fr tr ag X cp ks job x1 x2 x3 x4 x5 x6 t1 t2 t3 ph tt si HP.out _).mono ?_
  rintro e w2 ⟨rfl, hB2⟩
  have HB2 : Hid (Below w.heap.size w w2) := below_up HB1.out hB2
  have c2_0 : w2.cell? ⟨w.heap.size, 0, none⟩ = some (.int .i64 a) := keep_cell c1_0 hB2
  have c2_1 : w2.cell? ⟨w.heap.size, 1, none⟩ = some (.int .i64 b) := keep_cell c1_1 hB2
  have c2_2 : w2.cell? ⟨w.heap.size, 2, none⟩ = some (.int .i64 c) := keep_cell c1_2 hB2
  have c2_3 : w2.cell? ⟨w.heap.size, 3, none⟩ = some (.int .i64 bo) := keep_cell c1_3 hB2
  have c2_4 : w2.cell? ⟨w.heap.size, 4, none⟩ = some (.int .i64 fr) := keep_cell c1_4 hB2
  have c2_5 : w2.cell? ⟨w.heap.size, 5, none⟩ = some (.int .i64 tr) := keep_cell c1_5 hB2
  have c2_6 : w2.cell? ⟨w.heap.size, 6, none⟩ = some (.int .i64 ag) := keep_cell c1_6 hB2
  have c2_7 : w2.cell? ⟨w.heap.size, 7, none⟩ = some (.slice X ks.length cp) := keep_cell c1_7 hB2
  have c2_8 : w2.cell? ⟨w.heap.size + 1, 0, none⟩ = some (.int .i64 job) := keep_cell c1_8 hB2
  have c2_9 : w2.cell? ⟨w.heap.size + 1, 1, none⟩ = some (.int .i64 x1) := keep_cell c1_9 hB2
  have c2_10 : w2.cell? ⟨w.heap.size + 1, 2, none⟩ = some (.int .i64 x2) := keep_cell c1_10 hB2
  have c2_11 : w2.cell? ⟨w.heap.size + 1, 3, none⟩ = some (.int .i64 x3) := keep_cell c1_11 hB2
  have c2_12 : w2.cell? ⟨w.heap.size + 1, 4, none⟩ = some (.int .i64 x4) := keep_cell c1_12 hB2
  have c2_13 : w2.cell? ⟨w.heap.size + 1, 5, none⟩ = some (.int .i64 x5) := keep_cell c1_13 hB2
  have c2_14 : w2.cell? ⟨w.heap.size + 1, 6, none⟩ = some (.int .i64 x6) := keep_cell c1_14 hB2
  have c2_15 : w2.cell? ⟨w.heap.size + 1, 7, none⟩ = some (.bool t1) := keep_cell c1_15 hB2
  have c2_16 : w2.cell? ⟨w.heap.size + 1, 8, none⟩ = some (.bool t2) := keep_cell c1_16 hB2
  have c2_17 : w2.cell? ⟨w.heap.size + 1, 9, none⟩ = some (.bool t3) := keep_cell c1_17 hB2
  have c2_18 : w2.cell? ⟨w.heap.size + 1, 10, none⟩ = some (.int .u8 ph) := keep_cell c1_18 hB2
  have c2_19 : w2.cell? ⟨w.heap.size + 1, 11, none⟩ = some (.int .i64 tt) := keep_cell c1_19 hB2
  have c2_20 : w2.cell? ⟨w.heap.size + 1, 12, none⟩ = some (.int .i64 si) := keep_cell c1_20 hB2
  have z2_0 : w.heap.size < w2.heap.size := cell_lt c2_0
  have z2_1 : w.heap.size + 1 < w2.heap.size := cell_lt c2_8
  clear hB2 c1_0 c1_1 c1_2 c1_3 c1_4 c1_5 c1_6 c1_7 c1_8 c1_9 c1_10 c1_11 c1_12 c1_13 c1_14 c1_15 c1_16 c1_17 c1_18 c1_19 c1_20 z1_0 z1_1
  go_wp2_with fail
  refine (in_to _ _ _ _ HW.out _).mono ?_
  rintro e w' ⟨rfl, rfl⟩
  go_wp2_with fail
  go_ret
  exact ⟨rfl, HB2.out⟩
/-- What part.spans answers: a part of an array of three. -/
def Spans (w : World) (bo wall fr : Int) (ph : Nat) (e : Ending) (w' : World) : Prop :=
  ∃ g, e = .returned (.tuple #[.slice (some ⟨g, ph, none⟩) (3 - ph) (3 - ph), .int .i64 0]) ∧ Below w.heap.size w w' ∧ Blk w' g 22 #[.int .i64 bo, .int .i64 wall, .int .i64 fr]
set_option maxRecDepth 100000 in
set_option maxHeartbeats 2000000 in
theorem spans_bad (a b c bo fr tr ag : Int) (X : Option Addr) (cp : Nat) (ks : List Cls) (hl : ks.length ≤ 9223372036854775807) (job x1 x2 x3 x4 x5 x6 : Int) (t1 t2 t3 : Bool) (ph tt si : Int) (wall : Int) (h : ¬ (CfgOk a b c bo fr tr ag ks ∧ PartOk job ph tt si tr)) (w : World) (hk : ClsAt w w.heap.size X ks) :
    Calls Try.prog 26 #[.agg #[.int .i64 a, .int .i64 b, .int .i64 c, .int .i64 bo, .int .i64 fr, .int .i64 tr, .int .i64 ag, .slice X ks.length cp], .agg #[.int .i64 job, .int .i64 x1, .int .i64 x2, .int .i64 x3, .int .i64 x4, .int .i64 x5, .int .i64 x6, .bool t1, .bool t2, .bool t3, .int .u8 ph, .int .i64 tt, .int .i64 si], .int .i64 wall] w (fun e w' => e = .returned (.tuple #[.slice none 0 0, .int .i64 8]) ∧ Below w.heap.size w w') := by
  have HH := Lib.hid h
  have HKK := Lib.hid hk
  clear h hk
  go_enter Try.func26, Try.ntmps26
  go_wp2_with fail
  refine (pc_bad a b c bo fr tr ag X cp ks hl job x1 x2 x3 x4 x5 x6 t1 t2 t3 ph tt si HH.out _ (HKK.out.up (below_alloc (below_alloc (Below.refl _ _))))).mono ?_
  rintro e w1 ⟨rfl, hB1⟩
  have HB1 : Hid (Below w.heap.size w w1) := below_up (below_alloc (below_alloc (Below.refl _ _))) hB1
  have c1_0 : w1.cell? ⟨w.heap.size, 0, none⟩ = some (.int .i64 a) := keep_cell (cell_over _ (box0 w 26 #[.int .i64 a, .int .i64 b, .int .i64 c, .int .i64 bo, .int .i64 fr, .int .i64 tr, .int .i64 ag, .slice X ks.length cp] 0)) hB1
  have c1_1 : w1.cell? ⟨w.heap.size, 1, none⟩ = some (.int .i64 b) := keep_cell (cell_over _ (box0 w 26 #[.int .i64 a, .int .i64 b, .int .i64 c, .int .i64 bo, .int .i64 fr, .int .i64 tr, .int .i64 ag, .slice X ks.length cp] 1)) hB1
  have c1_2 : w1.cell? ⟨w.heap.size, 2, none⟩ = some (.int .i64 c) := keep_cell (cell_over _ (box0 w 26 #[.int .i64 a, .int .i64 b, .int .i64 c, .int .i64 bo, .int .i64 fr, .int .i64 tr, .int .i64 ag, .slice X ks.length cp] 2)) hB1
  have c1_3 : w1.cell? ⟨w.heap.size, 3, none⟩ = some (.int .i64 bo) := keep_cell (cell_over _ (box0 w 26 #[.int .i64 a, .int .i64 b, .int .i64 c, .int .i64 bo, .int .i64 fr, .int .i64 tr, .int .i64 ag, .slice X ks.length cp] 3)) hB1
  have c1_4 : w1.cell? ⟨w.heap.size, 4, none⟩ = some (.int .i64 fr) := keep_cell (cell_over _ (box0 w 26 #[.int .i64 a, .int .i64 b, .int .i64 c, .int .i64 bo, .int .i64 fr, .int .i64 tr, .int .i64 ag, .slice X ks.length cp] 4)) hB1
  have c1_5 : w1.cell? ⟨w.heap.size, 5, none⟩ = some (.int .i64 tr) := keep_cell (cell_over _ (box0 w 26 #[.int .i64 a, .int .i64 b, .int .i64 c, .int .i64 bo, .int .i64 fr, .int .i64 tr, .int .i64 ag, .slice X ks.length cp] 5)) hB1
  have c1_6 : w1.cell? ⟨w.heap.size, 6, none⟩ = some (.int .i64 ag) := keep_cell (cell_over _ (box0 w 26 #[.int .i64 a, .int .i64 b, .int .i64 c, .int .i64 bo, .int .i64 fr, .int .i64 tr, .int .i64 ag, .slice X ks.length cp] 6)) hB1
  have c1_7 : w1.cell? ⟨w.heap.size, 7, none⟩ = some (.slice X ks.length cp) := keep_cell (cell_over _ (box0 w 26 #[.int .i64 a, .int .i64 b, .int .i64 c, .int .i64 bo, .int .i64 fr, .int .i64 tr, .int .i64 ag, .slice X ks.length cp] 7)) hB1
  have c1_8 : w1.cell? ⟨w.heap.size + 1, 0, none⟩ = some (.int .i64 job) := keep_cell (box1 w 37 #[.int .i64 job, .int .i64 x1, .int .i64 x2, .int .i64 x3, .int .i64 x4, .int .i64 x5, .int .i64 x6, .bool t1, .bool t2, .bool t3, .int .u8 ph, .int .i64 tt, .int .i64 si] 0) hB1
  have c1_9 : w1.cell? ⟨w.heap.size + 1, 1, none⟩ = some (.int .i64 x1) := keep_cell (box1 w 37 #[.int .i64 job, .int .i64 x1, .int .i64 x2, .int .i64 x3, .int .i64 x4, .int .i64 x5, .int .i64 x6, .bool t1, .bool t2, .bool t3, .int .u8 ph, .int .i64 tt, .int .i64 si] 1) hB1
  have c1_10 : w1.cell? ⟨w.heap.size + 1, 2, none⟩ = some (.int .i64 x2) := keep_cell (box1 w 37 #[.int .i64 job, .int .i64 x1, .int .i64 x2, .int .i64 x3, .int .i64 x4, .int .i64 x5, .int .i64 x6, .bool t1, .bool t2, .bool t3, .int .u8 ph, .int .i64 tt, .int .i64 si] 2) hB1
  have c1_11 : w1.cell? ⟨w.heap.size + 1, 3, none⟩ = some (.int .i64 x3) := keep_cell (box1 w 37 #[.int .i64 job, .int .i64 x1, .int .i64 x2, .int .i64 x3, .int .i64 x4, .int .i64 x5, .int .i64 x6, .bool t1, .bool t2, .bool t3, .int .u8 ph, .int .i64 tt, .int .i64 si] 3) hB1
  have c1_12 : w1.cell? ⟨w.heap.size + 1, 4, none⟩ = some (.int .i64 x4) := keep_cell (box1 w 37 #[.int .i64 job, .int .i64 x1, .int .i64 x2, .int .i64 x3, .int .i64 x4, .int .i64 x5, .int .i64 x6, .bool t1, .bool t2, .bool t3, .int .u8 ph, .int .i64 tt, .int .i64 si] 4) hB1
  have c1_13 : w1.cell? ⟨w.heap.size + 1, 5, none⟩ = some (.int .i64 x5) := keep_cell (box1 w 37 #[.int .i64 job, .int .i64 x1, .int .i64 x2, .int .i64 x3, .int .i64 x4, .int .i64 x5, .int .i64 x6, .bool t1, .bool t2, .bool t3, .int .u8 ph, .int .i64 tt, .int .i64 si] 5) hB1
  have c1_14 : w1.cell? ⟨w.heap.size + 1, 6, none⟩ = some (.int .i64 x6) := keep_cell (box1 w 37 #[.int .i64 job, .int .i64 x1, .int .i64 x2, .int .i64 x3, .int .i64 x4, .int .i64 x5, .int .i64 x6, .bool t1, .bool t2, .bool t3, .int .u8 ph, .int .i64 tt, .int .i64 si] 6) hB1
  have c1_15 : w1.cell? ⟨w.heap.size + 1, 7, none⟩ = some (.bool t1) := keep_cell (box1 w 37 #[.int .i64 job, .int .i64 x1, .int .i64 x2, .int .i64 x3, .int .i64 x4, .int .i64 x5, .int .i64 x6, .bool t1, .bool t2, .bool t3, .int .u8 ph, .int .i64 tt, .int .i64 si] 7) hB1
  have c1_16 : w1.cell? ⟨w.heap.size + 1, 8, none⟩ = some (.bool t2) := keep_cell (box1 w 37 #[.int .i64 job, .int .i64 x1, .int .i64 x2, .int .i64 x3, .int .i64 x4, .int .i64 x5, .int .i64 x6, .bool t1, .bool t2, .bool t3, .int .u8 ph, .int .i64 tt, .int .i64 si] 8) hB1
  have c1_17 : w1.cell? ⟨w.heap.size + 1, 9, none⟩ = some (.bool t3) := keep_cell (box1 w 37 #[.int .i64 job, .int .i64 x1, .int .i64 x2, .int .i64 x3, .int .i64 x4, .int .i64 x5, .int .i64 x6, .bool t1, .bool t2, .bool t3, .int .u8 ph, .int .i64 tt, .int .i64 si] 9) hB1
  have c1_18 : w1.cell? ⟨w.heap.size + 1, 10, none⟩ = some (.int .u8 ph) := keep_cell (box1 w 37 #[.int .i64 job, .int .i64 x1, .int .i64 x2, .int .i64 x3, .int .i64 x4, .int .i64 x5, .int .i64 x6, .bool t1, .bool t2, .bool t3, .int .u8 ph, .int .i64 tt, .int .i64 si] 10) hB1
  have c1_19 : w1.cell? ⟨w.heap.size + 1, 11, none⟩ = some (.int .i64 tt) := keep_cell (box1 w 37 #[.int .i64 job, .int .i64 x1, .int .i64 x2, .int .i64 x3, .int .i64 x4, .int .i64 x5, .int .i64 x6, .bool t1, .bool t2, .bool t3, .int .u8 ph, .int .i64 tt, .int .i64 si] 11) hB1
  have c1_20 : w1.cell? ⟨w.heap.size + 1, 12, none⟩ = some (.int .i64 si) := keep_cell (box1 w 37 #[.int .i64 job, .int .i64 x1, .int .i64 x2, .int .i64 x3, .int .i64 x4, .int .i64 x5, .int .i64 x6, .bool t1, .bool t2, .bool t3, .int .u8 ph, .int .i64 tt, .int .i64 si] 12) hB1
  have z1_0 : w.heap.size < w1.heap.size := cell_lt c1_0
  have z1_1 : w.heap.size + 1 < w1.heap.size := cell_lt c1_8
  clear hB1  
  go_wp2_with fail
  go_ret2
  exact ⟨rfl, HB1.out⟩
set_option maxRecDepth 100000 in
set_option maxHeartbeats 2000000 in
theorem spans_wall (a b c bo fr tr ag : Int) (X : Option Addr) (cp : Nat) (ks : List Cls) (hl : ks.length ≤ 9223372036854775807) (job x1 x2 x3 x4 x5 x6 : Int) (t1 t2 t3 : Bool) (ph tt si : Int) (wall : Int) (h : CfgOk a b c bo fr tr ag ks) (hp : PartOk job ph tt si tr) (hW : inB wall 1 1048576 = false) (w : World) (hk : ClsAt w w.heap.size X ks) :
    Calls Try.prog 26 #[.agg #[.int .i64 a, .int .i64 b, .int .i64 c, .int .i64 bo, .int .i64 fr, .int .i64 tr, .int .i64 ag, .slice X ks.length cp], .agg #[.int .i64 job, .int .i64 x1, .int .i64 x2, .int .i64 x3, .int .i64 x4, .int .i64 x5, .int .i64 x6, .bool t1, .bool t2, .bool t3, .int .u8 ph, .int .i64 tt, .int .i64 si], .int .i64 wall] w (fun e w' => e = .returned (.tuple #[.slice none 0 0, .int .i64 2]) ∧ Below w.heap.size w w') := by
  have HH := Lib.hid h
  have HKK := Lib.hid hk
  clear h hk
  have HP := Lib.hid hp
  clear hp
  have HW := Lib.hid hW
  clear hW
  go_enter Try.func26, Try.ntmps26
  go_wp2_with fail
  refine (pc_ok a b c bo fr tr ag X cp ks hl job x1 x2 x3 x4 x5 x6 t1 t2 t3 ph tt si HH.out HP.out _ (HKK.out.up (below_alloc (below_alloc (Below.refl _ _))))).mono ?_
  rintro e w1 ⟨rfl, hB1⟩
  have HB1 : Hid (Below w.heap.size w w1) := below_up (below_alloc (below_alloc (Below.refl _ _))) hB1
  have c1_0 : w1.cell? ⟨w.heap.size, 0, none⟩ = some (.int .i64 a) := keep_cell (cell_over _ (box0 w 26 #[.int .i64 a, .int .i64 b, .int .i64 c, .int .i64 bo, .int .i64 fr, .int .i64 tr, .int .i64 ag, .slice X ks.length cp] 0)) hB1
  have c1_1 : w1.cell? ⟨w.heap.size, 1, none⟩ = some (.int .i64 b) := keep_cell (cell_over _ (box0 w 26 #[.int .i64 a, .int .i64 b, .int .i64 c, .int .i64 bo, .int .i64 fr, .int .i64 tr, .int .i64 ag, .slice X ks.length cp] 1)) hB1
  have c1_2 : w1.cell? ⟨w.heap.size, 2, none⟩ = some (.int .i64 c) := keep_cell (cell_over _ (box0 w 26 #[.int .i64 a, .int .i64 b, .int .i64 c, .int .i64 bo, .int .i64 fr, .int .i64 tr, .int .i64 ag, .slice X ks.length cp] 2)) hB1
  have c1_3 : w1.cell? ⟨w.heap.size, 3, none⟩ = some (.int .i64 bo) := keep_cell (cell_over _ (box0 w 26 #[.int .i64 a, .int .i64 b, .int .i64 c, .int .i64 bo, .int .i64 fr, .int .i64 tr, .int .i64 ag, .slice X ks.length cp] 3)) hB1
  have c1_4 : w1.cell? ⟨w.heap.size, 4, none⟩ = some (.int .i64 fr) := keep_cell (cell_over _ (box0 w 26 #[.int .i64 a, .int .i64 b, .int .i64 c, .int .i64 bo, .int .i64 fr, .int .i64 tr, .int .i64 ag, .slice X ks.length cp] 4)) hB1
  have c1_5 : w1.cell? ⟨w.heap.size, 5, none⟩ = some (.int .i64 tr) := keep_cell (cell_over _ (box0 w 26 #[.int .i64 a, .int .i64 b, .int .i64 c, .int .i64 bo, .int .i64 fr, .int .i64 tr, .int .i64 ag, .slice X ks.length cp] 5)) hB1
  have c1_6 : w1.cell? ⟨w.heap.size, 6, none⟩ = some (.int .i64 ag) := keep_cell (cell_over _ (box0 w 26 #[.int .i64 a, .int .i64 b, .int .i64 c, .int .i64 bo, .int .i64 fr, .int .i64 tr, .int .i64 ag, .slice X ks.length cp] 6)) hB1
  have c1_7 : w1.cell? ⟨w.heap.size, 7, none⟩ = some (.slice X ks.length cp) := keep_cell (cell_over _ (box0 w 26 #[.int .i64 a, .int .i64 b, .int .i64 c, .int .i64 bo, .int .i64 fr, .int .i64 tr, .int .i64 ag, .slice X ks.length cp] 7)) hB1
  have c1_8 : w1.cell? ⟨w.heap.size + 1, 0, none⟩ = some (.int .i64 job) := keep_cell (box1 w 37 #[.int .i64 job, .int .i64 x1, .int .i64 x2, .int .i64 x3, .int .i64 x4, .int .i64 x5, .int .i64 x6, .bool t1, .bool t2, .bool t3, .int .u8 ph, .int .i64 tt, .int .i64 si] 0) hB1
  have c1_9 : w1.cell? ⟨w.heap.size + 1, 1, none⟩ = some (.int .i64 x1) := keep_cell (box1 w 37 #[.int .i64 job, .int .i64 x1, .int .i64 x2, .int .i64 x3, .int .i64 x4, .int .i64 x5, .int .i64 x6, .bool t1, .bool t2, .bool t3, .int .u8 ph, .int .i64 tt, .int .i64 si] 1) hB1
  have c1_10 : w1.cell? ⟨w.heap.size + 1, 2, none⟩ = some (.int .i64 x2) := keep_cell (box1 w 37 #[.int .i64 job, .int .i64 x1, .int .i64 x2, .int .i64 x3, .int .i64 x4, .int .i64 x5, .int .i64 x6, .bool t1, .bool t2, .bool t3, .int .u8 ph, .int .i64 tt, .int .i64 si] 2) hB1
  have c1_11 : w1.cell? ⟨w.heap.size + 1, 3, none⟩ = some (.int .i64 x3) := keep_cell (box1 w 37 #[.int .i64 job, .int .i64 x1, .int .i64 x2, .int .i64 x3, .int .i64 x4, .int .i64 x5, .int .i64 x6, .bool t1, .bool t2, .bool t3, .int .u8 ph, .int .i64 tt, .int .i64 si] 3) hB1
  have c1_12 : w1.cell? ⟨w.heap.size + 1, 4, none⟩ = some (.int .i64 x4) := keep_cell (box1 w 37 #[.int .i64 job, .int .i64 x1, .int .i64 x2, .int .i64 x3, .int .i64 x4, .int .i64 x5, .int .i64 x6, .bool t1, .bool t2, .bool t3, .int .u8 ph, .int .i64 tt, .int .i64 si] 4) hB1
  have c1_13 : w1.cell? ⟨w.heap.size + 1, 5, none⟩ = some (.int .i64 x5) := keep_cell (box1 w 37 #[.int .i64 job, .int .i64 x1, .int .i64 x2, .int .i64 x3, .int .i64 x4, .int .i64 x5, .int .i64 x6, .bool t1, .bool t2, .bool t3, .int .u8 ph, .int .i64 tt, .int .i64 si] 5) hB1
  have c1_14 : w1.cell? ⟨w.heap.size + 1, 6, none⟩ = some (.int .i64 x6) := keep_cell (box1 w 37 #[.int .i64 job, .int .i64 x1, .int .i64 x2, .int .i64 x3, .int .i64 x4, .int .i64 x5, .int .i64 x6, .bool t1, .bool t2, .bool t3, .int .u8 ph, .int .i64 tt, .int .i64 si] 6) hB1
  have c1_15 : w1.cell? ⟨w.heap.size + 1, 7, none⟩ = some (.bool t1) := keep_cell (box1 w 37 #[.int .i64 job, .int .i64 x1, .int .i64 x2, .int .i64 x3, .int .i64 x4, .int .i64 x5, .int .i64 x6, .bool t1, .bool t2, .bool t3, .int .u8 ph, .int .i64 tt, .int .i64 si] 7) hB1
  have c1_16 : w1.cell? ⟨w.heap.size + 1, 8, none⟩ = some (.bool t2) := keep_cell (box1 w 37 #[.int .i64 job, .int .i64 x1, .int .i64 x2, .int .i64 x3, .int .i64 x4, .int .i64 x5, .int .i64 x6, .bool t1, .bool t2, .bool t3, .int .u8 ph, .int .i64 tt, .int .i64 si] 8) hB1
  have c1_17 : w1.cell? ⟨w.heap.size + 1, 9, none⟩ = some (.bool t3) := keep_cell (box1 w 37 #[.int .i64 job, .int .i64 x1, .int .i64 x2, .int .i64 x3, .int .i64 x4, .int .i64 x5, .int .i64 x6, .bool t1, .bool t2, .bool t3, .int .u8 ph, .int .i64 tt, .int .i64 si] 9) hB1
  have c1_18 : w1.cell? ⟨w.heap.size + 1, 10, none⟩ = some (.int .u8 ph) := keep_cell (box1 w 37 #[.int .i64 job, .int .i64 x1, .int .i64 x2, .int .i64 x3, .int .i64 x4, .int .i64 x5, .int .i64 x6, .bool t1, .bool t2, .bool t3, .int .u8 ph, .int .i64 tt, .int .i64 si] 10) hB1
  have c1_19 : w1.cell? ⟨w.heap.size + 1, 11, none⟩ = some (.int .i64 tt) := keep_cell (box1 w 37 #[.int .i64 job, .int .i64 x1, .int .i64 x2, .int .i64 x3, .int .i64 x4, .int .i64 x5, .int .i64 x6, .bool t1, .bool t2, .bool t3, .int .u8 ph, .int .i64 tt, .int .i64 si] 11) hB1
  have c1_20 : w1.cell? ⟨w.heap.size + 1, 12, none⟩ = some (.int .i64 si) := keep_cell (box1 w 37 #[.int .i64 job, .int .i64 x1, .int .i64 x2, .int .i64 x3, .int .i64 x4, .int .i64 x5, .int .i64 x6, .bool t1, .bool t2, .bool t3, .int .u8 ph, .int .i64 tt, .int .i64 si] 12) hB1
  have z1_0 : w.heap.size < w1.heap.size := cell_lt c1_0
  have z1_1 : w.heap.size + 1 < w1.heap.size := cell_lt c1_8
  clear hB1  
  go_wp2_with fail
  refine (within_to _ _ _ _ HW.out _).mono ?_
  rintro e w' ⟨rfl, rfl⟩
  go_wp2_with fail
  go_ret2
  exact ⟨rfl, HB1.out⟩
set_option maxRecDepth 100000 in
set_option maxHeartbeats 2000000 in
theorem spans1 (a b c bo fr tr ag : Int) (X : Option Addr) (cp : Nat) (ks : List Cls) (hl : ks.length ≤ 9223372036854775807) (job x1 x2 x3 x4 x5 x6 : Int) (t1 t2 t3 : Bool) (tt si : Int) (wall : Int) (h : CfgOk a b c bo fr tr ag ks) (hp : PartOk job 1 tt si tr) (hW : inB wall 1 1048576 = true) (w : World) (hk : ClsAt w w.heap.size X ks) :
    Calls Try.prog 26 #[.agg #[.int .i64 a, .int .i64 b, .int .i64 c, .int .i64 bo, .int .i64 fr, .int .i64 tr, .int .i64 ag, .slice X ks.length cp], .agg #[.int .i64 job, .int .i64 x1, .int .i64 x2, .int .i64 x3, .int .i64 x4, .int .i64 x5, .int .i64 x6, .bool t1, .bool t2, .bool t3, .int .u8 1, .int .i64 tt, .int .i64 si], .int .i64 wall] w (Spans w bo wall fr 0) := by
  have HH := Lib.hid h
  have HKK := Lib.hid hk
  clear h hk
  have HP := Lib.hid hp
  clear hp
  have HW := Lib.hid hW
  clear hW
  go_enter Try.func26, Try.ntmps26
  go_wp2_with fail
  refine (pc_ok a b c bo fr tr ag X cp ks hl job x1 x2 x3 x4 x5 x6 t1 t2 t3 1 tt si HH.out HP.out _ (HKK.out.up (below_alloc (below_alloc (Below.refl _ _))))).mono ?_
  rintro e w1 ⟨rfl, hB1⟩
  have HB1 : Hid (Below w.heap.size w w1) := below_up (below_alloc (below_alloc (Below.refl _ _))) hB1
  have c1_0 : w1.cell? ⟨w.heap.size, 0, none⟩ = some (.int .i64 a) := keep_cell (cell_over _ (box0 w 26 #[.int .i64 a, .int .i64 b, .int .i64 c, .int .i64 bo, .int .i64 fr, .int .i64 tr, .int .i64 ag, .slice X ks.length cp] 0)) hB1
  have c1_1 : w1.cell? ⟨w.heap.size, 1, none⟩ = some (.int .i64 b) := keep_cell (cell_over _ (box0 w 26 #[.int .i64 a, .int .i64 b, .int .i64 c, .int .i64 bo, .int .i64 fr, .int .i64 tr, .int .i64 ag, .slice X ks.length cp] 1)) hB1
  have c1_2 : w1.cell? ⟨w.heap.size, 2, none⟩ = some (.int .i64 c) := keep_cell (cell_over _ (box0 w 26 #[.int .i64 a, .int .i64 b, .int .i64 c, .int .i64 bo, .int .i64 fr, .int .i64 tr, .int .i64 ag, .slice X ks.length cp] 2)) hB1
  have c1_3 : w1.cell? ⟨w.heap.size, 3, none⟩ = some (.int .i64 bo) := keep_cell (cell_over _ (box0 w 26 #[.int .i64 a, .int .i64 b, .int .i64 c, .int .i64 bo, .int .i64 fr, .int .i64 tr, .int .i64 ag, .slice X ks.length cp] 3)) hB1
  have c1_4 : w1.cell? ⟨w.heap.size, 4, none⟩ = some (.int .i64 fr) := keep_cell (cell_over _ (box0 w 26 #[.int .i64 a, .int .i64 b, .int .i64 c, .int .i64 bo, .int .i64 fr, .int .i64 tr, .int .i64 ag, .slice X ks.length cp] 4)) hB1
  have c1_5 : w1.cell? ⟨w.heap.size, 5, none⟩ = some (.int .i64 tr) := keep_cell (cell_over _ (box0 w 26 #[.int .i64 a, .int .i64 b, .int .i64 c, .int .i64 bo, .int .i64 fr, .int .i64 tr, .int .i64 ag, .slice X ks.length cp] 5)) hB1
  have c1_6 : w1.cell? ⟨w.heap.size, 6, none⟩ = some (.int .i64 ag) := keep_cell (cell_over _ (box0 w 26 #[.int .i64 a, .int .i64 b, .int .i64 c, .int .i64 bo, .int .i64 fr, .int .i64 tr, .int .i64 ag, .slice X ks.length cp] 6)) hB1
  have c1_7 : w1.cell? ⟨w.heap.size, 7, none⟩ = some (.slice X ks.length cp) := keep_cell (cell_over _ (box0 w 26 #[.int .i64 a, .int .i64 b, .int .i64 c, .int .i64 bo, .int .i64 fr, .int .i64 tr, .int .i64 ag, .slice X ks.length cp] 7)) hB1
  have c1_8 : w1.cell? ⟨w.heap.size + 1, 0, none⟩ = some (.int .i64 job) := keep_cell (box1 w 37 #[.int .i64 job, .int .i64 x1, .int .i64 x2, .int .i64 x3, .int .i64 x4, .int .i64 x5, .int .i64 x6, .bool t1, .bool t2, .bool t3, .int .u8 1, .int .i64 tt, .int .i64 si] 0) hB1
  have c1_9 : w1.cell? ⟨w.heap.size + 1, 1, none⟩ = some (.int .i64 x1) := keep_cell (box1 w 37 #[.int .i64 job, .int .i64 x1, .int .i64 x2, .int .i64 x3, .int .i64 x4, .int .i64 x5, .int .i64 x6, .bool t1, .bool t2, .bool t3, .int .u8 1, .int .i64 tt, .int .i64 si] 1) hB1
  have c1_10 : w1.cell? ⟨w.heap.size + 1, 2, none⟩ = some (.int .i64 x2) := keep_cell (box1 w 37 #[.int .i64 job, .int .i64 x1, .int .i64 x2, .int .i64 x3, .int .i64 x4, .int .i64 x5, .int .i64 x6, .bool t1, .bool t2, .bool t3, .int .u8 1, .int .i64 tt, .int .i64 si] 2) hB1
  have c1_11 : w1.cell? ⟨w.heap.size + 1, 3, none⟩ = some (.int .i64 x3) := keep_cell (box1 w 37 #[.int .i64 job, .int .i64 x1, .int .i64 x2, .int .i64 x3, .int .i64 x4, .int .i64 x5, .int .i64 x6, .bool t1, .bool t2, .bool t3, .int .u8 1, .int .i64 tt, .int .i64 si] 3) hB1
  have c1_12 : w1.cell? ⟨w.heap.size + 1, 4, none⟩ = some (.int .i64 x4) := keep_cell (box1 w 37 #[.int .i64 job, .int .i64 x1, .int .i64 x2, .int .i64 x3, .int .i64 x4, .int .i64 x5, .int .i64 x6, .bool t1, .bool t2, .bool t3, .int .u8 1, .int .i64 tt, .int .i64 si] 4) hB1
  have c1_13 : w1.cell? ⟨w.heap.size + 1, 5, none⟩ = some (.int .i64 x5) := keep_cell (box1 w 37 #[.int .i64 job, .int .i64 x1, .int .i64 x2, .int .i64 x3, .int .i64 x4, .int .i64 x5, .int .i64 x6, .bool t1, .bool t2, .bool t3, .int .u8 1, .int .i64 tt, .int .i64 si] 5) hB1
  have c1_14 : w1.cell? ⟨w.heap.size + 1, 6, none⟩ = some (.int .i64 x6) := keep_cell (box1 w 37 #[.int .i64 job, .int .i64 x1, .int .i64 x2, .int .i64 x3, .int .i64 x4, .int .i64 x5, .int .i64 x6, .bool t1, .bool t2, .bool t3, .int .u8 1, .int .i64 tt, .int .i64 si] 6) hB1
  have c1_15 : w1.cell? ⟨w.heap.size + 1, 7, none⟩ = some (.bool t1) := keep_cell (box1 w 37 #[.int .i64 job, .int .i64 x1, .int .i64 x2, .int .i64 x3, .int .i64 x4, .int .i64 x5, .int .i64 x6, .bool t1, .bool t2, .bool t3, .int .u8 1, .int .i64 tt, .int .i64 si] 7) hB1
  have c1_16 : w1.cell? ⟨w.heap.size + 1, 8, none⟩ = some (.bool t2) := keep_cell (box1 w 37 #[.int .i64 job, .int .i64 x1, .int .i64 x2, .int .i64 x3, .int .i64 x4, .int .i64 x5, .int .i64 x6, .bool t1, .bool t2, .bool t3, .int .u8 1, .int .i64 tt, .int .i64 si] 8) hB1
  have c1_17 : w1.cell? ⟨w.heap.size + 1, 9, none⟩ = some (.bool t3) := keep_cell (box1 w 37 #[.int .i64 job, .int .i64 x1, .int .i64 x2, .int .i64 x3, .int .i64 x4, .int .i64 x5, .int .i64 x6, .bool t1, .bool t2, .bool t3, .int .u8 1, .int .i64 tt, .int .i64 si] 9) hB1
  have c1_18 : w1.cell? ⟨w.heap.size + 1, 10, none⟩ = some (.int .u8 1) := keep_cell (box1 w 37 #[.int .i64 job, .int .i64 x1, .int .i64 x2, .int .i64 x3, .int .i64 x4, .int .i64 x5, .int .i64 x6, .bool t1, .bool t2, .bool t3, .int .u8 1, .int .i64 tt, .int .i64 si] 10) hB1
  have c1_19 : w1.cell? ⟨w.heap.size + 1, 11, none⟩ = some (.int .i64 tt) := keep_cell (box1 w 37 #[.int .i64 job, .int .i64 x1, .int .i64 x2, .int .i64 x3, .int .i64 x4, .int .i64 x5, .int .i64 x6, .bool t1, .bool t2, .bool t3, .int .u8 1, .int .i64 tt, .int .i64 si] 11) hB1
  have c1_20 : w1.cell? ⟨w.heap.size + 1, 12, none⟩ = some (.int .i64 si) := keep_cell (box1 w 37 #[.int .i64 job, .int .i64 x1, .int .i64 x2, .int .i64 x3, .int .i64 x4, .int .i64 x5, .int .i64 x6, .bool t1, .bool t2, .bool t3, .int .u8 1, .int .i64 tt, .int .i64 si] 12) hB1
  have z1_0 : w.heap.size < w1.heap.size := cell_lt c1_0
  have z1_1 : w.heap.size + 1 < w1.heap.size := cell_lt c1_8
  clear hB1  
  go_wp2_with fail
  refine (within_to _ _ _ _ HW.out _).mono ?_
  rintro e w' ⟨rfl, rfl⟩
  go_wp2_with fail
  go_ret2
  exact ⟨_, rfl, below_alloc HB1.out, Blk.new _ _ _⟩
set_option maxRecDepth 100000 in
set_option maxHeartbeats 2000000 in
theorem spans2 (a b c bo fr tr ag : Int) (X : Option Addr) (cp : Nat) (ks : List Cls) (hl : ks.length ≤ 9223372036854775807) (job x1 x2 x3 x4 x5 x6 : Int) (t1 t2 t3 : Bool) (tt si : Int) (wall : Int) (h : CfgOk a b c bo fr tr ag ks) (hp : PartOk job 2 tt si tr) (hW : inB wall 1 1048576 = true) (w : World) (hk : ClsAt w w.heap.size X ks) :
    Calls Try.prog 26 #[.agg #[.int .i64 a, .int .i64 b, .int .i64 c, .int .i64 bo, .int .i64 fr, .int .i64 tr, .int .i64 ag, .slice X ks.length cp], .agg #[.int .i64 job, .int .i64 x1, .int .i64 x2, .int .i64 x3, .int .i64 x4, .int .i64 x5, .int .i64 x6, .bool t1, .bool t2, .bool t3, .int .u8 2, .int .i64 tt, .int .i64 si], .int .i64 wall] w (Spans w bo wall fr 1) := by
  have HH := Lib.hid h
  have HKK := Lib.hid hk
  clear h hk
  have HP := Lib.hid hp
  clear hp
  have HW := Lib.hid hW
  clear hW
  go_enter Try.func26, Try.ntmps26
  go_wp2_with fail
  refine (pc_ok a b c bo fr tr ag X cp ks hl job x1 x2 x3 x4 x5 x6 t1 t2 t3 2 tt si HH.out HP.out _ (HKK.out.up (below_alloc (below_alloc (Below.refl _ _))))).mono ?_
  rintro e w1 ⟨rfl, hB1⟩
  have HB1 : Hid (Below w.heap.size w w1) := below_up (below_alloc (below_alloc (Below.refl _ _))) hB1
  have c1_0 : w1.cell? ⟨w.heap.size, 0, none⟩ = some (.int .i64 a) := keep_cell (cell_over _ (box0 w 26 #[.int .i64 a, .int .i64 b, .int .i64 c, .int .i64 bo, .int .i64 fr, .int .i64 tr, .int .i64 ag, .slice X ks.length cp] 0)) hB1
  have c1_1 : w1.cell? ⟨w.heap.size, 1, none⟩ = some (.int .i64 b) := keep_cell (cell_over _ (box0 w 26 #[.int .i64 a, .int .i64 b, .int .i64 c, .int .i64 bo, .int .i64 fr, .int .i64 tr, .int .i64 ag, .slice X ks.length cp] 1)) hB1
  have c1_2 : w1.cell? ⟨w.heap.size, 2, none⟩ = some (.int .i64 c) := keep_cell (cell_over _ (box0 w 26 #[.int .i64 a, .int .i64 b, .int .i64 c, .int .i64 bo, .int .i64 fr, .int .i64 tr, .int .i64 ag, .slice X ks.length cp] 2)) hB1
  have c1_3 : w1.cell? ⟨w.heap.size, 3, none⟩ = some (.int .i64 bo) := keep_cell (cell_over _ (box0 w 26 #[.int .i64 a, .int .i64 b, .int .i64 c, .int .i64 bo, .int .i64 fr, .int .i64 tr, .int .i64 ag, .slice X ks.length cp] 3)) hB1
  have c1_4 : w1.cell? ⟨w.heap.size, 4, none⟩ = some (.int .i64 fr) := keep_cell (cell_over _ (box0 w 26 #[.int .i64 a, .int .i64 b, .int .i64 c, .int .i64 bo, .int .i64 fr, .int .i64 tr, .int .i64 ag, .slice X ks.length cp] 4)) hB1
  have c1_5 : w1.cell? ⟨w.heap.size, 5, none⟩ = some (.int .i64 tr) := keep_cell (cell_over _ (box0 w 26 #[.int .i64 a, .int .i64 b, .int .i64 c, .int .i64 bo, .int .i64 fr, .int .i64 tr, .int .i64 ag, .slice X ks.length cp] 5)) hB1
  have c1_6 : w1.cell? ⟨w.heap.size, 6, none⟩ = some (.int .i64 ag) := keep_cell (cell_over _ (box0 w 26 #[.int .i64 a, .int .i64 b, .int .i64 c, .int .i64 bo, .int .i64 fr, .int .i64 tr, .int .i64 ag, .slice X ks.length cp] 6)) hB1
  have c1_7 : w1.cell? ⟨w.heap.size, 7, none⟩ = some (.slice X ks.length cp) := keep_cell (cell_over _ (box0 w 26 #[.int .i64 a, .int .i64 b, .int .i64 c, .int .i64 bo, .int .i64 fr, .int .i64 tr, .int .i64 ag, .slice X ks.length cp] 7)) hB1
  have c1_8 : w1.cell? ⟨w.heap.size + 1, 0, none⟩ = some (.int .i64 job) := keep_cell (box1 w 37 #[.int .i64 job, .int .i64 x1, .int .i64 x2, .int .i64 x3, .int .i64 x4, .int .i64 x5, .int .i64 x6, .bool t1, .bool t2, .bool t3, .int .u8 2, .int .i64 tt, .int .i64 si] 0) hB1
  have c1_9 : w1.cell? ⟨w.heap.size + 1, 1, none⟩ = some (.int .i64 x1) := keep_cell (box1 w 37 #[.int .i64 job, .int .i64 x1, .int .i64 x2, .int .i64 x3, .int .i64 x4, .int .i64 x5, .int .i64 x6, .bool t1, .bool t2, .bool t3, .int .u8 2, .int .i64 tt, .int .i64 si] 1) hB1
  have c1_10 : w1.cell? ⟨w.heap.size + 1, 2, none⟩ = some (.int .i64 x2) := keep_cell (box1 w 37 #[.int .i64 job, .int .i64 x1, .int .i64 x2, .int .i64 x3, .int .i64 x4, .int .i64 x5, .int .i64 x6, .bool t1, .bool t2, .bool t3, .int .u8 2, .int .i64 tt, .int .i64 si] 2) hB1
  have c1_11 : w1.cell? ⟨w.heap.size + 1, 3, none⟩ = some (.int .i64 x3) := keep_cell (box1 w 37 #[.int .i64 job, .int .i64 x1, .int .i64 x2, .int .i64 x3, .int .i64 x4, .int .i64 x5, .int .i64 x6, .bool t1, .bool t2, .bool t3, .int .u8 2, .int .i64 tt, .int .i64 si] 3) hB1
  have c1_12 : w1.cell? ⟨w.heap.size + 1, 4, none⟩ = some (.int .i64 x4) := keep_cell (box1 w 37 #[.int .i64 job, .int .i64 x1, .int .i64 x2, .int .i64 x3, .int .i64 x4, .int .i64 x5, .int .i64 x6, .bool t1, .bool t2, .bool t3, .int .u8 2, .int .i64 tt, .int .i64 si] 4) hB1
  have c1_13 : w1.cell? ⟨w.heap.size + 1, 5, none⟩ = some (.int .i64 x5) := keep_cell (box1 w 37 #[.int .i64 job, .int .i64 x1, .int .i64 x2, .int .i64 x3, .int .i64 x4, .int .i64 x5, .int .i64 x6, .bool t1, .bool t2, .bool t3, .int .u8 2, .int .i64 tt, .int .i64 si] 5) hB1
  have c1_14 : w1.cell? ⟨w.heap.size + 1, 6, none⟩ = some (.int .i64 x6) := keep_cell (box1 w 37 #[.int .i64 job, .int .i64 x1, .int .i64 x2, .int .i64 x3, .int .i64 x4, .int .i64 x5, .int .i64 x6, .bool t1, .bool t2, .bool t3, .int .u8 2, .int .i64 tt, .int .i64 si] 6) hB1
  have c1_15 : w1.cell? ⟨w.heap.size + 1, 7, none⟩ = some (.bool t1) := keep_cell (box1 w 37 #[.int .i64 job, .int .i64 x1, .int .i64 x2, .int .i64 x3, .int .i64 x4, .int .i64 x5, .int .i64 x6, .bool t1, .bool t2, .bool t3, .int .u8 2, .int .i64 tt, .int .i64 si] 7) hB1
  have c1_16 : w1.cell? ⟨w.heap.size + 1, 8, none⟩ = some (.bool t2) := keep_cell (box1 w 37 #[.int .i64 job, .int .i64 x1, .int .i64 x2, .int .i64 x3, .int .i64 x4, .int .i64 x5, .int .i64 x6, .bool t1, .bool t2, .bool t3, .int .u8 2, .int .i64 tt, .int .i64 si] 8) hB1
  have c1_17 : w1.cell? ⟨w.heap.size + 1, 9, none⟩ = some (.bool t3) := keep_cell (box1 w 37 #[.int .i64 job, .int .i64 x1, .int .i64 x2, .int .i64 x3, .int .i64 x4, .int .i64 x5, .int .i64 x6, .bool t1, .bool t2, .bool t3, .int .u8 2, .int .i64 tt, .int .i64 si] 9) hB1
  have c1_18 : w1.cell? ⟨w.heap.size + 1, 10, none⟩ = some (.int .u8 2) := keep_cell (box1 w 37 #[.int .i64 job, .int .i64 x1, .int .i64 x2, .int .i64 x3, .int .i64 x4, .int .i64 x5, .int .i64 x6, .bool t1, .bool t2, .bool t3, .int .u8 2, .int .i64 tt, .int .i64 si] 10) hB1
  have c1_19 : w1.cell? ⟨w.heap.size + 1, 11, none⟩ = some (.int .i64 tt) := keep_cell (box1 w 37 #[.int .i64 job, .int .i64 x1, .int .i64 x2, .int .i64 x3, .int .i64 x4, .int .i64 x5, .int .i64 x6, .bool t1, .bool t2, .bool t3, .int .u8 2, .int .i64 tt, .int .i64 si] 11) hB1
  have c1_20 : w1.cell? ⟨w.heap.size + 1, 12, none⟩ = some (.int .i64 si) := keep_cell (box1 w 37 #[.int .i64 job, .int .i64 x1, .int .i64 x2, .int .i64 x3, .int .i64 x4, .int .i64 x5, .int .i64 x6, .bool t1, .bool t2, .bool t3, .int .u8 2, .int .i64 tt, .int .i64 si] 12) hB1
  have z1_0 : w.heap.size < w1.heap.size := cell_lt c1_0
  have z1_1 : w.heap.size + 1 < w1.heap.size := cell_lt c1_8
  clear hB1  
  go_wp2_with fail
  refine (within_to _ _ _ _ HW.out _).mono ?_
  rintro e w' ⟨rfl, rfl⟩
  go_wp2_with fail
  go_ret2
  exact ⟨_, rfl, below_alloc HB1.out, Blk.new _ _ _⟩
set_option maxRecDepth 100000 in
set_option maxHeartbeats 2000000 in
theorem spans3 (a b c bo fr tr ag : Int) (X : Option Addr) (cp : Nat) (ks : List Cls) (hl : ks.length ≤ 9223372036854775807) (job x1 x2 x3 x4 x5 x6 : Int) (t1 t2 t3 : Bool) (tt si : Int) (wall : Int) (h : CfgOk a b c bo fr tr ag ks) (hp : PartOk job 3 tt si tr) (hW : inB wall 1 1048576 = true) (w : World) (hk : ClsAt w w.heap.size X ks) :
    Calls Try.prog 26 #[.agg #[.int .i64 a, .int .i64 b, .int .i64 c, .int .i64 bo, .int .i64 fr, .int .i64 tr, .int .i64 ag, .slice X ks.length cp], .agg #[.int .i64 job, .int .i64 x1, .int .i64 x2, .int .i64 x3, .int .i64 x4, .int .i64 x5, .int .i64 x6, .bool t1, .bool t2, .bool t3, .int .u8 3, .int .i64 tt, .int .i64 si], .int .i64 wall] w (Spans w bo wall fr 2) := by
  have HH := Lib.hid h
  have HKK := Lib.hid hk
  clear h hk
  have HP := Lib.hid hp
  clear hp
  have HW := Lib.hid hW
  clear hW
  go_enter Try.func26, Try.ntmps26
  go_wp2_with fail
  refine (pc_ok a b c bo fr tr ag X cp ks hl job x1 x2 x3 x4 x5 x6 t1 t2 t3 3 tt si HH.out HP.out _ (HKK.out.up (below_alloc (below_alloc (Below.refl _ _))))).mono ?_
  rintro e w1 ⟨rfl, hB1⟩
  have HB1 : Hid (Below w.heap.size w w1) := below_up (below_alloc (below_alloc (Below.refl _ _))) hB1
  have c1_0 : w1.cell? ⟨w.heap.size, 0, none⟩ = some (.int .i64 a) := keep_cell (cell_over _ (box0 w 26 #[.int .i64 a, .int .i64 b, .int .i64 c, .int .i64 bo, .int .i64 fr, .int .i64 tr, .int .i64 ag, .slice X ks.length cp] 0)) hB1
  have c1_1 : w1.cell? ⟨w.heap.size, 1, none⟩ = some (.int .i64 b) := keep_cell (cell_over _ (box0 w 26 #[.int .i64 a, .int .i64 b, .int .i64 c, .int .i64 bo, .int .i64 fr, .int .i64 tr, .int .i64 ag, .slice X ks.length cp] 1)) hB1
  have c1_2 : w1.cell? ⟨w.heap.size, 2, none⟩ = some (.int .i64 c) := keep_cell (cell_over _ (box0 w 26 #[.int .i64 a, .int .i64 b, .int .i64 c, .int .i64 bo, .int .i64 fr, .int .i64 tr, .int .i64 ag, .slice X ks.length cp] 2)) hB1
  have c1_3 : w1.cell? ⟨w.heap.size, 3, none⟩ = some (.int .i64 bo) := keep_cell (cell_over _ (box0 w 26 #[.int .i64 a, .int .i64 b, .int .i64 c, .int .i64 bo, .int .i64 fr, .int .i64 tr, .int .i64 ag, .slice X ks.length cp] 3)) hB1
  have c1_4 : w1.cell? ⟨w.heap.size, 4, none⟩ = some (.int .i64 fr) := keep_cell (cell_over _ (box0 w 26 #[.int .i64 a, .int .i64 b, .int .i64 c, .int .i64 bo, .int .i64 fr, .int .i64 tr, .int .i64 ag, .slice X ks.length cp] 4)) hB1
  have c1_5 : w1.cell? ⟨w.heap.size, 5, none⟩ = some (.int .i64 tr) := keep_cell (cell_over _ (box0 w 26 #[.int .i64 a, .int .i64 b, .int .i64 c, .int .i64 bo, .int .i64 fr, .int .i64 tr, .int .i64 ag, .slice X ks.length cp] 5)) hB1
  have c1_6 : w1.cell? ⟨w.heap.size, 6, none⟩ = some (.int .i64 ag) := keep_cell (cell_over _ (box0 w 26 #[.int .i64 a, .int .i64 b, .int .i64 c, .int .i64 bo, .int .i64 fr, .int .i64 tr, .int .i64 ag, .slice X ks.length cp] 6)) hB1
  have c1_7 : w1.cell? ⟨w.heap.size, 7, none⟩ = some (.slice X ks.length cp) := keep_cell (cell_over _ (box0 w 26 #[.int .i64 a, .int .i64 b, .int .i64 c, .int .i64 bo, .int .i64 fr, .int .i64 tr, .int .i64 ag, .slice X ks.length cp] 7)) hB1
  have c1_8 : w1.cell? ⟨w.heap.size + 1, 0, none⟩ = some (.int .i64 job) := keep_cell (box1 w 37 #[.int .i64 job, .int .i64 x1, .int .i64 x2, .int .i64 x3, .int .i64 x4, .int .i64 x5, .int .i64 x6, .bool t1, .bool t2, .bool t3, .int .u8 3, .int .i64 tt, .int .i64 si] 0) hB1
  have c1_9 : w1.cell? ⟨w.heap.size + 1, 1, none⟩ = some (.int .i64 x1) := keep_cell (box1 w 37 #[.int .i64 job, .int .i64 x1, .int .i64 x2, .int .i64 x3, .int .i64 x4, .int .i64 x5, .int .i64 x6, .bool t1, .bool t2, .bool t3, .int .u8 3, .int .i64 tt, .int .i64 si] 1) hB1
  have c1_10 : w1.cell? ⟨w.heap.size + 1, 2, none⟩ = some (.int .i64 x2) := keep_cell (box1 w 37 #[.int .i64 job, .int .i64 x1, .int .i64 x2, .int .i64 x3, .int .i64 x4, .int .i64 x5, .int .i64 x6, .bool t1, .bool t2, .bool t3, .int .u8 3, .int .i64 tt, .int .i64 si] 2) hB1
  have c1_11 : w1.cell? ⟨w.heap.size + 1, 3, none⟩ = some (.int .i64 x3) := keep_cell (box1 w 37 #[.int .i64 job, .int .i64 x1, .int .i64 x2, .int .i64 x3, .int .i64 x4, .int .i64 x5, .int .i64 x6, .bool t1, .bool t2, .bool t3, .int .u8 3, .int .i64 tt, .int .i64 si] 3) hB1
  have c1_12 : w1.cell? ⟨w.heap.size + 1, 4, none⟩ = some (.int .i64 x4) := keep_cell (box1 w 37 #[.int .i64 job, .int .i64 x1, .int .i64 x2, .int .i64 x3, .int .i64 x4, .int .i64 x5, .int .i64 x6, .bool t1, .bool t2, .bool t3, .int .u8 3, .int .i64 tt, .int .i64 si] 4) hB1
  have c1_13 : w1.cell? ⟨w.heap.size + 1, 5, none⟩ = some (.int .i64 x5) := keep_cell (box1 w 37 #[.int .i64 job, .int .i64 x1, .int .i64 x2, .int .i64 x3, .int .i64 x4, .int .i64 x5, .int .i64 x6, .bool t1, .bool t2, .bool t3, .int .u8 3, .int .i64 tt, .int .i64 si] 5) hB1
  have c1_14 : w1.cell? ⟨w.heap.size + 1, 6, none⟩ = some (.int .i64 x6) := keep_cell (box1 w 37 #[.int .i64 job, .int .i64 x1, .int .i64 x2, .int .i64 x3, .int .i64 x4, .int .i64 x5, .int .i64 x6, .bool t1, .bool t2, .bool t3, .int .u8 3, .int .i64 tt, .int .i64 si] 6) hB1
  have c1_15 : w1.cell? ⟨w.heap.size + 1, 7, none⟩ = some (.bool t1) := keep_cell (box1 w 37 #[.int .i64 job, .int .i64 x1, .int .i64 x2, .int .i64 x3, .int .i64 x4, .int .i64 x5, .int .i64 x6, .bool t1, .bool t2, .bool t3, .int .u8 3, .int .i64 tt, .int .i64 si] 7) hB1
  have c1_16 : w1.cell? ⟨w.heap.size + 1, 8, none⟩ = some (.bool t2) := keep_cell (box1 w 37 #[.int .i64 job, .int .i64 x1, .int .i64 x2, .int .i64 x3, .int .i64 x4, .int .i64 x5, .int .i64 x6, .bool t1, .bool t2, .bool t3, .int .u8 3, .int .i64 tt, .int .i64 si] 8) hB1
  have c1_17 : w1.cell? ⟨w.heap.size + 1, 9, none⟩ = some (.bool t3) := keep_cell (box1 w 37 #[.int .i64 job, .int .i64 x1, .int .i64 x2, .int .i64 x3, .int .i64 x4, .int .i64 x5, .int .i64 x6, .bool t1, .bool t2, .bool t3, .int .u8 3, .int .i64 tt, .int .i64 si] 9) hB1
  have c1_18 : w1.cell? ⟨w.heap.size + 1, 10, none⟩ = some (.int .u8 3) := keep_cell (box1 w 37 #[.int .i64 job, .int .i64 x1, .int .i64 x2, .int .i64 x3, .int .i64 x4, .int .i64 x5, .int .i64 x6, .bool t1, .bool t2, .bool t3, .int .u8 3, .int .i64 tt, .int .i64 si] 10) hB1
  have c1_19 : w1.cell? ⟨w.heap.size + 1, 11, none⟩ = some (.int .i64 tt) := keep_cell (box1 w 37 #[.int .i64 job, .int .i64 x1, .int .i64 x2, .int .i64 x3, .int .i64 x4, .int .i64 x5, .int .i64 x6, .bool t1, .bool t2, .bool t3, .int .u8 3, .int .i64 tt, .int .i64 si] 11) hB1
  have c1_20 : w1.cell? ⟨w.heap.size + 1, 12, none⟩ = some (.int .i64 si) := keep_cell (box1 w 37 #[.int .i64 job, .int .i64 x1, .int .i64 x2, .int .i64 x3, .int .i64 x4, .int .i64 x5, .int .i64 x6, .bool t1, .bool t2, .bool t3, .int .u8 3, .int .i64 tt, .int .i64 si] 12) hB1
  have z1_0 : w.heap.size < w1.heap.size := cell_lt c1_0
  have z1_1 : w.heap.size + 1 < w1.heap.size := cell_lt c1_8
  clear hB1  
  go_wp2_with fail
  refine (within_to _ _ _ _ HW.out _).mono ?_
  rintro e w' ⟨rfl, rfl⟩
  go_wp2_with fail
  go_ret2
  exact ⟨_, rfl, below_alloc HB1.out, Blk.new _ _ _⟩
end Go.Proofs.Ytfndopemfhmhgaa.PartEnds
