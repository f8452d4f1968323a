/- The walk of PartGone. -/
import Derived.Deep.RegionHeld3
import Derived.Test.YtfndopemfhmhgaaPartAll
import Derived.Test.YtfndopemfhmhgaaPartFew
import Derived.Test.YtfndopemfhmhgaaPartNext
import Derived.Test.YtfndopemfhmhgaaEqDeep
namespace Go.Proofs.Ytfndopemfhmhgaa.PartGone
open Go.RowKit Mem PosMath PosCheck PartMath PartClass PartCheck PartEnds PartEnds2 PartTable PartNext PartFew PartTurn PartAll
set_option linter.unusedVariables false

/-- What the loop keeps. -/
def Inv (ok : Prop) (tr : Int) (p : PV) (steps told : Int) (i : Nat) : Prop :=
  0 ≤ steps ∧ 0 ≤ told ∧ steps ≤ i ∧ told ≤ i ∧ (ok ∧ PartOk p.job p.ph p.tt p.si tr → (p.ph = 1 → steps ≤ p.tt - 1 ∧ told = 0) ∧ (p.ph = 2 → steps ≤ tr ∧ told = 0) ∧ (p.ph = 3 → steps ≤ tr + 1 ∧ told ≤ 1))
set_option maxRecDepth 100000 in
set_option maxHeartbeats 2000000 in
theorem gone_many (a b c bo fr tr ag : Int) (X : Option Addr) (cp : Nat) (ks : List Cls) (hl : ks.length ≤ 9223372036854775807) (job x1 x2 x3 x4 x5 x6 : Int) (t1 t2 t3 : Bool) (ph tt si : Int) (Y : Option Addr) (cy : Nat) (ts : List Int) (hy : ts.length ≤ 9223372036854775807) (hn : 100 < ks.length) (w : World) (hk : ClsAt w w.heap.size X ks) :
    Calls Try.prog 7 #[.agg #[.int .i64 a, .int .i64 b, .int .i64 c, .int .i64 bo, .int .i64 fr, .int .i64 tr, .int .i64 ag, .slice X ks.length cp], .agg #[.int .i64 job, .int .i64 x1, .int .i64 x2, .int .i64 x3, .int .i64 x4, .int .i64 x5, .int .i64 x6, .bool t1, .bool t2, .bool t3, .int .u8 ph, .int .i64 tt, .int .i64 si], .slice Y ts.length cy] w (fun e w' => e = .returned (.bool true) ∧ Below w.heap.size w w') := by
  have HKK := Lib.hid hk
  clear hk
  go_enter Try.func7, Try.ntmps7
  go_wp2_with fail
  refine (alive_any _).mono ?_
  rintro e w1 ⟨rfl, hB1⟩
  have HB1 : Hid (Below w.heap.size w w1) := below_up (below_alloc (below_alloc (Below.refl _ _))) hB1
  have c1_0 : w1.cell? ⟨w.heap.size, 0, none⟩ = some (.int .i64 a) := keep_cell (cell_over _ (box0 w 26 #[.int .i64 a, .int .i64 b, .int .i64 c, .int .i64 bo, .int .i64 fr, .int .i64 tr, .int .i64 ag, .slice X ks.length cp] 0)) hB1
  have c1_1 : w1.cell? ⟨w.heap.size, 1, none⟩ = some (.int .i64 b) := keep_cell (cell_over _ (box0 w 26 #[.int .i64 a, .int .i64 b, .int .i64 c, .int .i64 bo, .int .i64 fr, .int .i64 tr, .int .i64 ag, .slice X ks.length cp] 1)) hB1
  have c1_2 : w1.cell? ⟨w.heap.size, 2, none⟩ = some (.int .i64 c) := keep_cell (cell_over _ (box0 w 26 #[.int .i64 a, .int .i64 b, .int .i64 c, .int .i64 bo, .int .i64 fr, .int .i64 tr, .int .i64 ag, .slice X ks.length cp] 2)) hB1
  have c1_3 : w1.cell? ⟨w.heap.size, 3, none⟩ = some (.int .i64 bo) := keep_cell (cell_over _ (box0 w 26 #[.int .i64 a, .int .i64 b, .int .i64 c, .int .i64 bo, .int .i64 fr, .int .i64 tr, .int .i64 ag, .slice X ks.length cp] 3)) hB1
  have c1_4 : w1.cell? ⟨w.heap.size, 4, none⟩ = some (.int .i64 fr) := keep_cell (cell_over _ (box0 w 26 #[.int .i64 a, .int .i64 b, .int .i64 c, .int .i64 bo, .int .i64 fr, .int .i64 tr, .int .i64 ag, .slice X ks.length cp] 4)) hB1
  have c1_5 : w1.cell? ⟨w.heap.size, 5, none⟩ = some (.int .i64 tr) := keep_cell (cell_over _ (box0 w 26 #[.int .i64 a, .int .i64 b, .int .i64 c, .int .i64 bo, .int .i64 fr, .int .i64 tr, .int .i64 ag, .slice X ks.length cp] 5)) hB1
  have c1_6 : w1.cell? ⟨w.heap.size, 6, none⟩ = some (.int .i64 ag) := keep_cell (cell_over _ (box0 w 26 #[.int .i64 a, .int .i64 b, .int .i64 c, .int .i64 bo, .int .i64 fr, .int .i64 tr, .int .i64 ag, .slice X ks.length cp] 6)) hB1
  have c1_7 : w1.cell? ⟨w.heap.size, 7, none⟩ = some (.slice X ks.length cp) := keep_cell (cell_over _ (box0 w 26 #[.int .i64 a, .int .i64 b, .int .i64 c, .int .i64 bo, .int .i64 fr, .int .i64 tr, .int .i64 ag, .slice X ks.length cp] 7)) hB1
  have c1_8 : w1.cell? ⟨w.heap.size + 1, 0, none⟩ = some (.int .i64 job) := keep_cell (box1 w 37 #[.int .i64 job, .int .i64 x1, .int .i64 x2, .int .i64 x3, .int .i64 x4, .int .i64 x5, .int .i64 x6, .bool t1, .bool t2, .bool t3, .int .u8 ph, .int .i64 tt, .int .i64 si] 0) hB1
  have c1_9 : w1.cell? ⟨w.heap.size + 1, 1, none⟩ = some (.int .i64 x1) := keep_cell (box1 w 37 #[.int .i64 job, .int .i64 x1, .int .i64 x2, .int .i64 x3, .int .i64 x4, .int .i64 x5, .int .i64 x6, .bool t1, .bool t2, .bool t3, .int .u8 ph, .int .i64 tt, .int .i64 si] 1) hB1
  have c1_10 : w1.cell? ⟨w.heap.size + 1, 2, none⟩ = some (.int .i64 x2) := keep_cell (box1 w 37 #[.int .i64 job, .int .i64 x1, .int .i64 x2, .int .i64 x3, .int .i64 x4, .int .i64 x5, .int .i64 x6, .bool t1, .bool t2, .bool t3, .int .u8 ph, .int .i64 tt, .int .i64 si] 2) hB1
  have c1_11 : w1.cell? ⟨w.heap.size + 1, 3, none⟩ = some (.int .i64 x3) := keep_cell (box1 w 37 #[.int .i64 job, .int .i64 x1, .int .i64 x2, .int .i64 x3, .int .i64 x4, .int .i64 x5, .int .i64 x6, .bool t1, .bool t2, .bool t3, .int .u8 ph, .int .i64 tt, .int .i64 si] 3) hB1
  have c1_12 : w1.cell? ⟨w.heap.size + 1, 4, none⟩ = some (.int .i64 x4) := keep_cell (box1 w 37 #[.int .i64 job, .int .i64 x1, .int .i64 x2, .int .i64 x3, .int .i64 x4, .int .i64 x5, .int .i64 x6, .bool t1, .bool t2, .bool t3, .int .u8 ph, .int .i64 tt, .int .i64 si] 4) hB1
  have c1_13 : w1.cell? ⟨w.heap.size + 1, 5, none⟩ = some (.int .i64 x5) := keep_cell (box1 w 37 #[.int .i64 job, .int .i64 x1, .int .i64 x2, .int .i64 x3, .int .i64 x4, .int .i64 x5, .int .i64 x6, .bool t1, .bool t2, .bool t3, .int .u8 ph, .int .i64 tt, .int .i64 si] 5) hB1
  have c1_14 : w1.cell? ⟨w.heap.size + 1, 6, none⟩ = some (.int .i64 x6) := keep_cell (box1 w 37 #[.int .i64 job, .int .i64 x1, .int .i64 x2, .int .i64 x3, .int .i64 x4, .int .i64 x5, .int .i64 x6, .bool t1, .bool t2, .bool t3, .int .u8 ph, .int .i64 tt, .int .i64 si] 6) hB1
  have c1_15 : w1.cell? ⟨w.heap.size + 1, 7, none⟩ = some (.bool t1) := keep_cell (box1 w 37 #[.int .i64 job, .int .i64 x1, .int .i64 x2, .int .i64 x3, .int .i64 x4, .int .i64 x5, .int .i64 x6, .bool t1, .bool t2, .bool t3, .int .u8 ph, .int .i64 tt, .int .i64 si] 7) hB1
  have c1_16 : w1.cell? ⟨w.heap.size + 1, 8, none⟩ = some (.bool t2) := keep_cell (box1 w 37 #[.int .i64 job, .int .i64 x1, .int .i64 x2, .int .i64 x3, .int .i64 x4, .int .i64 x5, .int .i64 x6, .bool t1, .bool t2, .bool t3, .int .u8 ph, .int .i64 tt, .int .i64 si] 8) hB1
  have c1_17 : w1.cell? ⟨w.heap.size + 1, 9, none⟩ = some (.bool t3) := keep_cell (box1 w 37 #[.int .i64 job, .int .i64 x1, .int .i64 x2, .int .i64 x3, .int .i64 x4, .int .i64 x5, .int .i64 x6, .bool t1, .bool t2, .bool t3, .int .u8 ph, .int .i64 tt, .int .i64 si] 9) hB1
  have c1_18 : w1.cell? ⟨w.heap.size + 1, 10, none⟩ = some (.int .u8 ph) := keep_cell (box1 w 37 #[.int .i64 job, .int .i64 x1, .int .i64 x2, .int .i64 x3, .int .i64 x4, .int .i64 x5, .int .i64 x6, .bool t1, .bool t2, .bool t3, .int .u8 ph, .int .i64 tt, .int .i64 si] 10) hB1
  have c1_19 : w1.cell? ⟨w.heap.size + 1, 11, none⟩ = some (.int .i64 tt) := keep_cell (box1 w 37 #[.int .i64 job, .int .i64 x1, .int .i64 x2, .int .i64 x3, .int .i64 x4, .int .i64 x5, .int .i64 x6, .bool t1, .bool t2, .bool t3, .int .u8 ph, .int .i64 tt, .int .i64 si] 11) hB1
  have c1_20 : w1.cell? ⟨w.heap.size + 1, 12, none⟩ = some (.int .i64 si) := keep_cell (box1 w 37 #[.int .i64 job, .int .i64 x1, .int .i64 x2, .int .i64 x3, .int .i64 x4, .int .i64 x5, .int .i64 x6, .bool t1, .bool t2, .bool t3, .int .u8 ph, .int .i64 tt, .int .i64 si] 12) hB1
  have z1_0 : w.heap.size < w1.heap.size := cell_lt c1_0
  have z1_1 : w.heap.size + 1 < w1.heap.size := cell_lt c1_8
  clear hB1  
  go_wp2_with fail
  go_ret
  exact ⟨rfl, HB1.out⟩
set_option maxRecDepth 100000 in
set_option maxHeartbeats 2000000 in
theorem gone_turns (a b c bo fr tr ag : Int) (X : Option Addr) (cp : Nat) (ks : List Cls) (hl : ks.length ≤ 9223372036854775807) (job x1 x2 x3 x4 x5 x6 : Int) (t1 t2 t3 : Bool) (ph tt si : Int) (Y : Option Addr) (cy : Nat) (ts : List Int) (hy : ts.length ≤ 9223372036854775807) (hn : ¬ 100 < ks.length) (hm : 40 < ts.length) (w : World) (hk : ClsAt w w.heap.size X ks) :
    Calls Try.prog 7 #[.agg #[.int .i64 a, .int .i64 b, .int .i64 c, .int .i64 bo, .int .i64 fr, .int .i64 tr, .int .i64 ag, .slice X ks.length cp], .agg #[.int .i64 job, .int .i64 x1, .int .i64 x2, .int .i64 x3, .int .i64 x4, .int .i64 x5, .int .i64 x6, .bool t1, .bool t2, .bool t3, .int .u8 ph, .int .i64 tt, .int .i64 si], .slice Y ts.length cy] w (fun e w' => e = .returned (.bool true) ∧ Below w.heap.size w w') := by
  have HKK := Lib.hid hk
  clear hk
  go_enter Try.func7, Try.ntmps7
  go_wp2_with fail
  refine (alive_any _).mono ?_
  rintro e w1 ⟨rfl, hB1⟩
  have HB1 : Hid (Below w.heap.size w w1) := below_up (below_alloc (below_alloc (Below.refl _ _))) hB1
  have c1_0 : w1.cell? ⟨w.heap.size, 0, none⟩ = some (.int .i64 a) := keep_cell (cell_over _ (box0 w 26 #[.int .i64 a, .int .i64 b, .int .i64 c, .int .i64 bo, .int .i64 fr, .int .i64 tr, .int .i64 ag, .slice X ks.length cp] 0)) hB1
  have c1_1 : w1.cell? ⟨w.heap.size, 1, none⟩ = some (.int .i64 b) := keep_cell (cell_over _ (box0 w 26 #[.int .i64 a, .int .i64 b, .int .i64 c, .int .i64 bo, .int .i64 fr, .int .i64 tr, .int .i64 ag, .slice X ks.length cp] 1)) hB1
  have c1_2 : w1.cell? ⟨w.heap.size, 2, none⟩ = some (.int .i64 c) := keep_cell (cell_over _ (box0 w 26 #[.int .i64 a, .int .i64 b, .int .i64 c, .int .i64 bo, .int .i64 fr, .int .i64 tr, .int .i64 ag, .slice X ks.length cp] 2)) hB1
  have c1_3 : w1.cell? ⟨w.heap.size, 3, none⟩ = some (.int .i64 bo) := keep_cell (cell_over _ (box0 w 26 #[.int .i64 a, .int .i64 b, .int .i64 c, .int .i64 bo, .int .i64 fr, .int .i64 tr, .int .i64 ag, .slice X ks.length cp] 3)) hB1
  have c1_4 : w1.cell? ⟨w.heap.size, 4, none⟩ = some (.int .i64 fr) := keep_cell (cell_over _ (box0 w 26 #[.int .i64 a, .int .i64 b, .int .i64 c, .int .i64 bo, .int .i64 fr, .int .i64 tr, .int .i64 ag, .slice X ks.length cp] 4)) hB1
  have c1_5 : w1.cell? ⟨w.heap.size, 5, none⟩ = some (.int .i64 tr) := keep_cell (cell_over _ (box0 w 26 #[.int .i64 a, .int .i64 b, .int .i64 c, .int .i64 bo, .int .i64 fr, .int .i64 tr, .int .i64 ag, .slice X ks.length cp] 5)) hB1
  have c1_6 : w1.cell? ⟨w.heap.size, 6, none⟩ = some (.int .i64 ag) := keep_cell (cell_over _ (box0 w 26 #[.int .i64 a, .int .i64 b, .int .i64 c, .int .i64 bo, .int .i64 fr, .int .i64 tr, .int .i64 ag, .slice X ks.length cp] 6)) hB1
  have c1_7 : w1.cell? ⟨w.heap.size, 7, none⟩ = some (.slice X ks.length cp) := keep_cell (cell_over _ (box0 w 26 #[.int .i64 a, .int .i64 b, .int .i64 c, .int .i64 bo, .int .i64 fr, .int .i64 tr, .int .i64 ag, .slice X ks.length cp] 7)) hB1
  have c1_8 : w1.cell? ⟨w.heap.size + 1, 0, none⟩ = some (.int .i64 job) := keep_cell (box1 w 37 #[.int .i64 job, .int .i64 x1, .int .i64 x2, .int .i64 x3, .int .i64 x4, .int .i64 x5, .int .i64 x6, .bool t1, .bool t2, .bool t3, .int .u8 ph, .int .i64 tt, .int .i64 si] 0) hB1
  have c1_9 : w1.cell? ⟨w.heap.size + 1, 1, none⟩ = some (.int .i64 x1) := keep_cell (box1 w 37 #[.int .i64 job, .int .i64 x1, .int .i64 x2, .int .i64 x3, .int .i64 x4, .int .i64 x5, .int .i64 x6, .bool t1, .bool t2, .bool t3, .int .u8 ph, .int .i64 tt, .int .i64 si] 1) hB1
  have c1_10 : w1.cell? ⟨w.heap.size + 1, 2, none⟩ = some (.int .i64 x2) := keep_cell (box1 w 37 #[.int .i64 job, .int .i64 x1, .int .i64 x2, .int .i64 x3, .int .i64 x4, .int .i64 x5, .int .i64 x6, .bool t1, .bool t2, .bool t3, .int .u8 ph, .int .i64 tt, .int .i64 si] 2) hB1
  have c1_11 : w1.cell? ⟨w.heap.size + 1, 3, none⟩ = some (.int .i64 x3) := keep_cell (box1 w 37 #[.int .i64 job, .int .i64 x1, .int .i64 x2, .int .i64 x3, .int .i64 x4, .int .i64 x5, .int .i64 x6, .bool t1, .bool t2, .bool t3, .int .u8 ph, .int .i64 tt, .int .i64 si] 3) hB1
  have c1_12 : w1.cell? ⟨w.heap.size + 1, 4, none⟩ = some (.int .i64 x4) := keep_cell (box1 w 37 #[.int .i64 job, .int .i64 x1, .int .i64 x2, .int .i64 x3, .int .i64 x4, .int .i64 x5, .int .i64 x6, .bool t1, .bool t2, .bool t3, .int .u8 ph, .int .i64 tt, .int .i64 si] 4) hB1
  have c1_13 : w1.cell? ⟨w.heap.size + 1, 5, none⟩ = some (.int .i64 x5) := keep_cell (box1 w 37 #[.int .i64 job, .int .i64 x1, .int .i64 x2, .int .i64 x3, .int .i64 x4, .int .i64 x5, .int .i64 x6, .bool t1, .bool t2, .bool t3, .int .u8 ph, .int .i64 tt, .int .i64 si] 5) hB1
  have c1_14 : w1.cell? ⟨w.heap.size + 1, 6, none⟩ = some (.int .i64 x6) := keep_cell (box1 w 37 #[.int .i64 job, .int .i64 x1, .int .i64 x2, .int .i64 x3, .int .i64 x4, .int .i64 x5, .int .i64 x6, .bool t1, .bool t2, .bool t3, .int .u8 ph, .int .i64 tt, .int .i64 si] 6) hB1
  have c1_15 : w1.cell? ⟨w.heap.size + 1, 7, none⟩ = some (.bool t1) := keep_cell (box1 w 37 #[.int .i64 job, .int .i64 x1, .int .i64 x2, .int .i64 x3, .int .i64 x4, .int .i64 x5, .int .i64 x6, .bool t1, .bool t2, .bool t3, .int .u8 ph, .int .i64 tt, .int .i64 si] 7) hB1
  have c1_16 : w1.cell? ⟨w.heap.size + 1, 8, none⟩ = some (.bool t2) := keep_cell (box1 w 37 #[.int .i64 job, .int .i64 x1, .int .i64 x2, .int .i64 x3, .int .i64 x4, .int .i64 x5, .int .i64 x6, .bool t1, .bool t2, .bool t3, .int .u8 ph, .int .i64 tt, .int .i64 si] 8) hB1
  have c1_17 : w1.cell? ⟨w.heap.size + 1, 9, none⟩ = some (.bool t3) := keep_cell (box1 w 37 #[.int .i64 job, .int .i64 x1, .int .i64 x2, .int .i64 x3, .int .i64 x4, .int .i64 x5, .int .i64 x6, .bool t1, .bool t2, .bool t3, .int .u8 ph, .int .i64 tt, .int .i64 si] 9) hB1
  have c1_18 : w1.cell? ⟨w.heap.size + 1, 10, none⟩ = some (.int .u8 ph) := keep_cell (box1 w 37 #[.int .i64 job, .int .i64 x1, .int .i64 x2, .int .i64 x3, .int .i64 x4, .int .i64 x5, .int .i64 x6, .bool t1, .bool t2, .bool t3, .int .u8 ph, .int .i64 tt, .int .i64 si] 10) hB1
  have c1_19 : w1.cell? ⟨w.heap.size + 1, 11, none⟩ = some (.int .i64 tt) := keep_cell (box1 w 37 #[.int .i64 job, .int .i64 x1, .int .i64 x2, .int .i64 x3, .int .i64 x4, .int .i64 x5, .int .i64 x6, .bool t1, .bool t2, .bool t3, .int .u8 ph, .int .i64 tt, .int .i64 si] 11) hB1
  have c1_20 : w1.cell? ⟨w.heap.size + 1, 12, none⟩ = some (.int .i64 si) := keep_cell (box1 w 37 #[.int .i64 job, .int .i64 x1, .int .i64 x2, .int .i64 x3, .int .i64 x4, .int .i64 x5, .int .i64 x6, .bool t1, .bool t2, .bool t3, .int .u8 ph, .int .i64 tt, .int .i64 si] 12) hB1
  have z1_0 : w.heap.size < w1.heap.size := cell_lt c1_0
  have z1_1 : w.heap.size + 1 < w1.heap.size := cell_lt c1_8
  clear hB1  
  go_wp2_with fail
  go_ret
  exact ⟨rfl, HB1.out⟩
theorem zero_part (w : World) : (Op.equalIn 10000 37 (.agg #[.int .i64 0, .int .i64 0, .int .i64 0, .int .i64 0, .int .i64 0, .int .i64 0, .int .i64 0, .bool false, .bool false, .bool false, .int .u8 0, .int .i64 0, .int .i64 0]) (.agg #[.int .i64 0, .int .i64 0, .int .i64 0, .int .i64 0, .int .i64 0, .int .i64 0, .int .i64 0, .bool false, .bool false, .bool false, .int .u8 0, .int .i64 0, .int .i64 0])).run Try.prog w = .ok true w :=
  EqDeep.eq_self (la := [.int .i64 0, .int .i64 0, .int .i64 0, .int .i64 0, .int .i64 0, .int .i64 0, .int .i64 0, .bool false, .bool false, .bool false, .int .u8 0, .int .i64 0, .int .i64 0]) (m := 10) (D := 10) (by kernel_rfl) (by omega) (by kernel_rfl) (by kernel_rfl) w
theorem sets13 {w W : World} {g : Nat} {v0 v1 v2 v3 v4 v5 v6 v7 v8 v9 v10 v11 v12 : Value} (hB : Below w.heap.size w W) (hg : w.heap.size ≤ g) :
    Below w.heap.size w (((((((((((((W.setCell ⟨g, 0, none⟩ v0).setCell ⟨g, 1, none⟩ v1).setCell ⟨g, 2, none⟩ v2).setCell ⟨g, 3, none⟩ v3).setCell ⟨g, 4, none⟩ v4).setCell ⟨g, 5, none⟩ v5).setCell ⟨g, 6, none⟩ v6).setCell ⟨g, 7, none⟩ v7).setCell ⟨g, 8, none⟩ v8).setCell ⟨g, 9, none⟩ v9).setCell ⟨g, 10, none⟩ v10).setCell ⟨g, 11, none⟩ v11).setCell ⟨g, 12, none⟩ v12) :=
  (((((((((((((hB.setCell (p := ⟨g, 0, none⟩) hg _).setCell (p := ⟨g, 1, none⟩) hg _).setCell (p := ⟨g, 2, none⟩) hg _).setCell (p := ⟨g, 3, none⟩) hg _).setCell (p := ⟨g, 4, none⟩) hg _).setCell (p := ⟨g, 5, none⟩) hg _).setCell (p := ⟨g, 6, none⟩) hg _).setCell (p := ⟨g, 7, none⟩) hg _).setCell (p := ⟨g, 8, none⟩) hg _).setCell (p := ⟨g, 9, none⟩) hg _).setCell (p := ⟨g, 10, none⟩) hg _).setCell (p := ⟨g, 11, none⟩) hg _).setCell (p := ⟨g, 12, none⟩) hg _)
set_option maxRecDepth 100000 in
set_option maxHeartbeats 16000000 in
theorem gone_loop (a b c bo fr tr ag : Int) (X : Option Addr) (cp : Nat) (ks : List Cls) (hl : ks.length ≤ 9223372036854775807) (job x1 x2 x3 x4 x5 x6 : Int) (t1 t2 t3 : Bool) (ph tt si : Int) (Y : Option Addr) (cy : Nat) (ts : List Int) (hy : ts.length ≤ 9223372036854775807) (hn : ¬ 100 < ks.length) (hm : ¬ 40 < ts.length) (w : World) (hr : Reads w w.heap.size 1 Y ts.length (ts.map (Value.int .u8))) (hk : ClsAt w w.heap.size X ks) :
    Calls Try.prog 7 #[.agg #[.int .i64 a, .int .i64 b, .int .i64 c, .int .i64 bo, .int .i64 fr, .int .i64 tr, .int .i64 ag, .slice X ks.length cp], .agg #[.int .i64 job, .int .i64 x1, .int .i64 x2, .int .i64 x3, .int .i64 x4, .int .i64 x5, .int .i64 x6, .bool t1, .bool t2, .bool t3, .int .u8 ph, .int .i64 tt, .int .i64 si], .slice Y ts.length cy] w (fun e w' => e = .returned (.bool true) ∧ Below w.heap.size w w') := by
  have HKK := Lib.hid hk
  have HR := Lib.hid hr
  clear hk hr
  go_enter Try.func7, Try.ntmps7
  go_wp2_with fail
  refine (alive_any _).mono ?_
  rintro e w1 ⟨rfl, hB1⟩
  have kd : Blk w1 w.heap.size 26 #[.int .i64 a, .int .i64 b, .int .i64 c, .int .i64 bo, .int .i64 fr, .int .i64 tr, .int .i64 ag, .slice X ks.length cp] := ((Blk.new w _ _).alloc _).below hB1 (by simp; omega)
  have kp : Blk w1 (w.heap.size + 1) 37 #[.int .i64 job, .int .i64 x1, .int .i64 x2, .int .i64 x3, .int .i64 x4, .int .i64 x5, .int .i64 x6, .bool t1, .bool t2, .bool t3, .int .u8 ph, .int .i64 tt, .int .i64 si] := (blk1 w _ _).below hB1 (by simp)
  have hb1 : Below w.heap.size w w1 := below_up (below_alloc (below_alloc (Below.refl _ _))) hB1
  have HB1 := Lib.hid hb1
  have KD1 := Lib.hid kd
  have KP1 := Lib.hid kp
  have d7 : w1.cell? ⟨w.heap.size, 7, none⟩ = some (.slice X ks.length cp) := kd.cell 7
  clear hB1 hb1 kd kp
  go_wp2_with fail
  clear d7
  go_loopw [8, 9, 10] (fun s8 s9 s10 wr => ∃ (p : PV) (steps told : Int) (i : Nat), s8 = .int .i64 steps ∧ s9 = .int .i64 told ∧ s10 = .int .i64 i ∧ i ≤ ts.length ∧ Hid (Inv (CfgOk a b c bo fr tr ag ks) tr p steps told i) ∧ Hid (Below w.heap.size w wr) ∧ Hid (Blk wr w.heap.size 26 #[.int .i64 a, .int .i64 b, .int .i64 c, .int .i64 bo, .int .i64 fr, .int .i64 tr, .int .i64 ag, .slice X ks.length cp]) ∧ Hid (Blk wr (w.heap.size + 1) 37 p.arr))
    (fun _ _ i _ => ts.length - (intOf i).toNat)
  case atStart =>
    refine ⟨⟨job, x1, x2, x3, x4, x5, x6, t1, t2, t3, ph, tt, si⟩, 0, 0, 0, rfl, rfl, rfl, by omega, ?_, HB1.out, KD1.out, KP1.out⟩
    refine ⟨by omega, by omega, by omega, by omega, fun h => ?_⟩
    have h1 := inB_true h.2.2.2.1
    dsimp only at h1 ⊢
    exact ⟨fun _ => ⟨by omega, rfl⟩, fun _ => ⟨by have := inB_true h.1.2.2.2.1; omega, rfl⟩, fun _ => ⟨by have := inB_true h.1.2.2.2.1; omega, by omega⟩⟩
  case round =>
    obtain ⟨⟨job, x1, x2, x3, x4, x5, x6, t1, t2, t3, ph, tt, si⟩, steps, told, i, rfl, rfl, rfl, hi, hinv, hB, hkd, hkp⟩ := hrel
    clear KD1 KP1 HB1
    by_cases hlt : i < ts.length
    · obtain ⟨turn, hturn⟩ : ∃ turn, ts[i]? = some turn := ⟨_, List.getElem?_eq_getElem hlt⟩
      obtain ⟨yb, yo, rfl, hyb, hyc⟩ := HR.out.flat (by omega)
      have hyc1 := (hB.out.cell (p := ⟨yb, yo + i, none⟩) hyb).trans (hyc i (.int .u8 turn) (by simp [hturn]))
      clear hyc
      obtain ⟨⟨q, nj, ng, ne⟩, hX⟩ : ∃ r, nextA a b c bo fr tr ag ks ⟨job, x1, x2, x3, x4, x5, x6, t1, t2, t3, ph, tt, si⟩ turn si = r := ⟨_, rfl⟩
      obtain ⟨job_, x1_, x2_, x3_, x4_, x5_, x6_, t1_, t2_, t3_, ph_, tt_, si_⟩ := q
      have HX : ∀ (w : World) (hk : ClsAt w w.heap.size X ks), Calls Try.prog 11 #[.agg #[.int .i64 a, .int .i64 b, .int .i64 c, .int .i64 bo, .int .i64 fr, .int .i64 tr, .int .i64 ag, .slice X ks.length cp], .agg #[.int .i64 job, .int .i64 x1, .int .i64 x2, .int .i64 x3, .int .i64 x4, .int .i64 x5, .int .i64 x6, .bool t1, .bool t2, .bool t3, .int .u8 ph, .int .i64 tt, .int .i64 si], .int .u8 turn, .int .i64 si] w (fun e w' => e = .returned (.tuple #[.agg #[.int .i64 job_, .int .i64 x1_, .int .i64 x2_, .int .i64 x3_, .int .i64 x4_, .int .i64 x5_, .int .i64 x6_, .bool t1_, .bool t2_, .bool t3_, .int .u8 ph_, .int .i64 tt_, .int .i64 si_], .int .u8 nj, .bool ng, .int .i64 ne]) ∧ Below w.heap.size w w') := fun w hk => by
        have := next_any a b c bo fr tr ag X cp ks hl ⟨job, x1, x2, x3, x4, x5, x6, t1, t2, t3, ph, tt, si⟩ turn si w hk
        rw [hX] at this
        exact this
      have HXh := Lib.hid HX
      have HX0 := Lib.hid hX
      have hkr := HKK.out.up hB.out
      have HKR := Lib.hid hkr
      have kd := hkd.out
      have kp := hkp.out
      have hz0 : w.heap.size < wr.heap.size := kd.lt
      have hz1 : w.heap.size + 1 < wr.heap.size := kp.lt
      have hyz : yb < wr.heap.size := by omega
      have ki : (i : Int) < (ts.length : Int) := by omega
      have ki0 : (0 : Int) ≤ (i : Int) := by omega
      clear HX hX hkr hturn
      have d0 : wr.cell? ⟨w.heap.size, 0, none⟩ = some (.int .i64 a) := kd.cell 0
      have d1 : wr.cell? ⟨w.heap.size, 1, none⟩ = some (.int .i64 b) := kd.cell 1
      have d2 : wr.cell? ⟨w.heap.size, 2, none⟩ = some (.int .i64 c) := kd.cell 2
      have d3 : wr.cell? ⟨w.heap.size, 3, none⟩ = some (.int .i64 bo) := kd.cell 3
      have d4 : wr.cell? ⟨w.heap.size, 4, none⟩ = some (.int .i64 fr) := kd.cell 4
      have d5 : wr.cell? ⟨w.heap.size, 5, none⟩ = some (.int .i64 tr) := kd.cell 5
      have d6 : wr.cell? ⟨w.heap.size, 6, none⟩ = some (.int .i64 ag) := kd.cell 6
      have d7 : wr.cell? ⟨w.heap.size, 7, none⟩ = some (.slice X ks.length cp) := kd.cell 7
      have p0 : wr.cell? ⟨w.heap.size + 1, 0, none⟩ = some (.int .i64 job) := kp.cell 0
      have p1 : wr.cell? ⟨w.heap.size + 1, 1, none⟩ = some (.int .i64 x1) := kp.cell 1
      have p2 : wr.cell? ⟨w.heap.size + 1, 2, none⟩ = some (.int .i64 x2) := kp.cell 2
      have p3 : wr.cell? ⟨w.heap.size + 1, 3, none⟩ = some (.int .i64 x3) := kp.cell 3
      have p4 : wr.cell? ⟨w.heap.size + 1, 4, none⟩ = some (.int .i64 x4) := kp.cell 4
      have p5 : wr.cell? ⟨w.heap.size + 1, 5, none⟩ = some (.int .i64 x5) := kp.cell 5
      have p6 : wr.cell? ⟨w.heap.size + 1, 6, none⟩ = some (.int .i64 x6) := kp.cell 6
      have p7 : wr.cell? ⟨w.heap.size + 1, 7, none⟩ = some (.bool t1) := kp.cell 7
      have p8 : wr.cell? ⟨w.heap.size + 1, 8, none⟩ = some (.bool t2) := kp.cell 8
      have p9 : wr.cell? ⟨w.heap.size + 1, 9, none⟩ = some (.bool t3) := kp.cell 9
      have p10 : wr.cell? ⟨w.heap.size + 1, 10, none⟩ = some (.int .u8 ph) := kp.cell 10
      have p11 : wr.cell? ⟨w.heap.size + 1, 11, none⟩ = some (.int .i64 tt) := kp.cell 11
      have p12 : wr.cell? ⟨w.heap.size + 1, 12, none⟩ = some (.int .i64 si) := kp.cell 12
      clear kd kp
      go_wp2_with fail
      go_upto_region 8 with fail
      go_cut [11, 12, 13, 14] (fun s11 s12 s13 s14 wx => ∃ gb : Nat, s11 = .pointer (some ⟨gb, 0, none⟩) ∧ s12 = .int .u8 nj ∧ s13 = .bool ng ∧ s14 = .int .i64 ne ∧ wr.heap.size ≤ gb ∧ Hid (Below wr.heap.size wr wx) ∧ Hid (Blk wx gb 37 #[.int .i64 job_, .int .i64 x1_, .int .i64 x2_, .int .i64 x3_, .int .i64 x4_, .int .i64 x5_, .int .i64 x6_, .bool t1_, .bool t2_, .bool t3_, .int .u8 ph_, .int .i64 tt_, .int .i64 si_]))
      case first =>
        have K0 : KeptL wr [(⟨w.heap.size, 0, none⟩, .int .i64 a), (⟨w.heap.size, 1, none⟩, .int .i64 b), (⟨w.heap.size, 2, none⟩, .int .i64 c), (⟨w.heap.size, 3, none⟩, .int .i64 bo), (⟨w.heap.size, 4, none⟩, .int .i64 fr), (⟨w.heap.size, 5, none⟩, .int .i64 tr), (⟨w.heap.size, 6, none⟩, .int .i64 ag), (⟨w.heap.size, 7, none⟩, .slice X ks.length cp), (⟨w.heap.size + 1, 0, none⟩, .int .i64 job), (⟨w.heap.size + 1, 1, none⟩, .int .i64 x1), (⟨w.heap.size + 1, 2, none⟩, .int .i64 x2), (⟨w.heap.size + 1, 3, none⟩, .int .i64 x3), (⟨w.heap.size + 1, 4, none⟩, .int .i64 x4), (⟨w.heap.size + 1, 5, none⟩, .int .i64 x5), (⟨w.heap.size + 1, 6, none⟩, .int .i64 x6), (⟨w.heap.size + 1, 7, none⟩, .bool t1), (⟨w.heap.size + 1, 8, none⟩, .bool t2), (⟨w.heap.size + 1, 9, none⟩, .bool t3), (⟨w.heap.size + 1, 10, none⟩, .int .u8 ph), (⟨w.heap.size + 1, 11, none⟩, .int .i64 tt), (⟨w.heap.size + 1, 12, none⟩, .int .i64 si), (⟨yb, yo + i, none⟩, .int .u8 turn)] wr := ⟨Below.refl _ _, d0, d1, d2, d3, d4, d5, d6, d7, p0, p1, p2, p3, p4, p5, p6, p7, p8, p9, p10, p11, p12, hyc1⟩
        have K1 := K0.drew
        have S0 : ∀ W, KeptL wr [(⟨w.heap.size, 0, none⟩, .int .i64 a), (⟨w.heap.size, 1, none⟩, .int .i64 b), (⟨w.heap.size, 2, none⟩, .int .i64 c), (⟨w.heap.size, 3, none⟩, .int .i64 bo), (⟨w.heap.size, 4, none⟩, .int .i64 fr), (⟨w.heap.size, 5, none⟩, .int .i64 tr), (⟨w.heap.size, 6, none⟩, .int .i64 ag), (⟨w.heap.size, 7, none⟩, .slice X ks.length cp), (⟨w.heap.size + 1, 0, none⟩, .int .i64 job), (⟨w.heap.size + 1, 1, none⟩, .int .i64 x1), (⟨w.heap.size + 1, 2, none⟩, .int .i64 x2), (⟨w.heap.size + 1, 3, none⟩, .int .i64 x3), (⟨w.heap.size + 1, 4, none⟩, .int .i64 x4), (⟨w.heap.size + 1, 5, none⟩, .int .i64 x5), (⟨w.heap.size + 1, 6, none⟩, .int .i64 x6), (⟨w.heap.size + 1, 7, none⟩, .bool t1), (⟨w.heap.size + 1, 8, none⟩, .bool t2), (⟨w.heap.size + 1, 9, none⟩, .bool t3), (⟨w.heap.size + 1, 10, none⟩, .int .u8 ph), (⟨w.heap.size + 1, 11, none⟩, .int .i64 tt), (⟨w.heap.size + 1, 12, none⟩, .int .i64 si), (⟨yb, yo + i, none⟩, .int .u8 turn)] W → (Below wr.heap.size wr W ∧ W.cell? ⟨w.heap.size, 0, none⟩ = some (.int .i64 a) ∧ W.cell? ⟨w.heap.size, 1, none⟩ = some (.int .i64 b) ∧ W.cell? ⟨w.heap.size, 2, none⟩ = some (.int .i64 c) ∧ W.cell? ⟨w.heap.size, 3, none⟩ = some (.int .i64 bo) ∧ W.cell? ⟨w.heap.size, 4, none⟩ = some (.int .i64 fr) ∧ W.cell? ⟨w.heap.size, 5, none⟩ = some (.int .i64 tr) ∧ W.cell? ⟨w.heap.size, 6, none⟩ = some (.int .i64 ag) ∧ W.cell? ⟨w.heap.size, 7, none⟩ = some (.slice X ks.length cp) ∧ W.cell? ⟨w.heap.size + 1, 0, none⟩ = some (.int .i64 job) ∧ W.cell? ⟨w.heap.size + 1, 1, none⟩ = some (.int .i64 x1) ∧ W.cell? ⟨w.heap.size + 1, 2, none⟩ = some (.int .i64 x2) ∧ W.cell? ⟨w.heap.size + 1, 3, none⟩ = some (.int .i64 x3) ∧ W.cell? ⟨w.heap.size + 1, 4, none⟩ = some (.int .i64 x4) ∧ W.cell? ⟨w.heap.size + 1, 5, none⟩ = some (.int .i64 x5) ∧ W.cell? ⟨w.heap.size + 1, 6, none⟩ = some (.int .i64 x6) ∧ W.cell? ⟨w.heap.size + 1, 7, none⟩ = some (.bool t1) ∧ W.cell? ⟨w.heap.size + 1, 8, none⟩ = some (.bool t2) ∧ W.cell? ⟨w.heap.size + 1, 9, none⟩ = some (.bool t3) ∧ W.cell? ⟨w.heap.size + 1, 10, none⟩ = some (.int .u8 ph) ∧ W.cell? ⟨w.heap.size + 1, 11, none⟩ = some (.int .i64 tt) ∧ W.cell? ⟨w.heap.size + 1, 12, none⟩ = some (.int .i64 si) ∧ W.cell? ⟨yb, yo + i, none⟩ = some (.int .u8 turn)) := fun _ h => h
        go_region_held3 (fun W => Below wr.heap.size wr W ∧ W.cell? ⟨w.heap.size, 0, none⟩ = some (.int .i64 a) ∧ W.cell? ⟨w.heap.size, 1, none⟩ = some (.int .i64 b) ∧ W.cell? ⟨w.heap.size, 2, none⟩ = some (.int .i64 c) ∧ W.cell? ⟨w.heap.size, 3, none⟩ = some (.int .i64 bo) ∧ W.cell? ⟨w.heap.size, 4, none⟩ = some (.int .i64 fr) ∧ W.cell? ⟨w.heap.size, 5, none⟩ = some (.int .i64 tr) ∧ W.cell? ⟨w.heap.size, 6, none⟩ = some (.int .i64 ag) ∧ W.cell? ⟨w.heap.size, 7, none⟩ = some (.slice X ks.length cp) ∧ W.cell? ⟨w.heap.size + 1, 0, none⟩ = some (.int .i64 job) ∧ W.cell? ⟨w.heap.size + 1, 1, none⟩ = some (.int .i64 x1) ∧ W.cell? ⟨w.heap.size + 1, 2, none⟩ = some (.int .i64 x2) ∧ W.cell? ⟨w.heap.size + 1, 3, none⟩ = some (.int .i64 x3) ∧ W.cell? ⟨w.heap.size + 1, 4, none⟩ = some (.int .i64 x4) ∧ W.cell? ⟨w.heap.size + 1, 5, none⟩ = some (.int .i64 x5) ∧ W.cell? ⟨w.heap.size + 1, 6, none⟩ = some (.int .i64 x6) ∧ W.cell? ⟨w.heap.size + 1, 7, none⟩ = some (.bool t1) ∧ W.cell? ⟨w.heap.size + 1, 8, none⟩ = some (.bool t2) ∧ W.cell? ⟨w.heap.size + 1, 9, none⟩ = some (.bool t3) ∧ W.cell? ⟨w.heap.size + 1, 10, none⟩ = some (.int .u8 ph) ∧ W.cell? ⟨w.heap.size + 1, 11, none⟩ = some (.int .i64 tt) ∧ W.cell? ⟨w.heap.size + 1, 12, none⟩ = some (.int .i64 si) ∧ W.cell? ⟨yb, yo + i, none⟩ = some (.int .u8 turn)) (first | with_reducible exact S0 _ K1 | with_reducible exact S0 _ KB | with_reducible exact S0 _ (KB.alloc _) | with_reducible exact S0 _ (K1.alloc _) | with_reducible exact S0 _ (K0.alloc _).drew | with_reducible exact S0 _ (KeptL.up K0 (sets13 KB1 (Nat.le_refl _)))) (first | (go_at_call 11; refine (HXh.out _ ?_).mono ?_; (first | exact HKR.out.up K1.1 | exact HKR.out.up (K1.alloc _).1 | exact HKR.out.up ((K0.alloc _).drew).1); rintro e w2 ⟨rfl, hB2⟩; (have KB : KeptL wr [(⟨w.heap.size, 0, none⟩, .int .i64 a), (⟨w.heap.size, 1, none⟩, .int .i64 b), (⟨w.heap.size, 2, none⟩, .int .i64 c), (⟨w.heap.size, 3, none⟩, .int .i64 bo), (⟨w.heap.size, 4, none⟩, .int .i64 fr), (⟨w.heap.size, 5, none⟩, .int .i64 tr), (⟨w.heap.size, 6, none⟩, .int .i64 ag), (⟨w.heap.size, 7, none⟩, .slice X ks.length cp), (⟨w.heap.size + 1, 0, none⟩, .int .i64 job), (⟨w.heap.size + 1, 1, none⟩, .int .i64 x1), (⟨w.heap.size + 1, 2, none⟩, .int .i64 x2), (⟨w.heap.size + 1, 3, none⟩, .int .i64 x3), (⟨w.heap.size + 1, 4, none⟩, .int .i64 x4), (⟨w.heap.size + 1, 5, none⟩, .int .i64 x5), (⟨w.heap.size + 1, 6, none⟩, .int .i64 x6), (⟨w.heap.size + 1, 7, none⟩, .bool t1), (⟨w.heap.size + 1, 8, none⟩, .bool t2), (⟨w.heap.size + 1, 9, none⟩, .bool t3), (⟨w.heap.size + 1, 10, none⟩, .int .u8 ph), (⟨w.heap.size + 1, 11, none⟩, .int .i64 tt), (⟨w.heap.size + 1, 12, none⟩, .int .i64 si), (⟨yb, yo + i, none⟩, .int .u8 turn)] w2 := (by first | exact K1.up hB2 | exact (K1.alloc _).up hB2 | exact ((K0.alloc _).drew).up hB2)); have KB1 := KB.1; (try (have kz : Blk w2 wr.heap.size 37 #[.int .i64 0, .int .i64 0, .int .i64 0, .int .i64 0, .int .i64 0, .int .i64 0, .int .i64 0, .bool false, .bool false, .bool false, .int .u8 0, .int .i64 0, .int .i64 0] := (Blk.new wr _ _).drew.below hB2 (by simp); have y0 : w2.cell? ⟨wr.heap.size, 0, none⟩ = some (.int .i64 0) := kz.cell 0; have g0 : w2.frozen? ⟨wr.heap.size, 0, none⟩ = false := kz.frozen 0; have y1 : w2.cell? ⟨wr.heap.size, 1, none⟩ = some (.int .i64 0) := kz.cell 1; have g1 : w2.frozen? ⟨wr.heap.size, 1, none⟩ = false := kz.frozen 1; have y2 : w2.cell? ⟨wr.heap.size, 2, none⟩ = some (.int .i64 0) := kz.cell 2; have g2 : w2.frozen? ⟨wr.heap.size, 2, none⟩ = false := kz.frozen 2; have y3 : w2.cell? ⟨wr.heap.size, 3, none⟩ = some (.int .i64 0) := kz.cell 3; have g3 : w2.frozen? ⟨wr.heap.size, 3, none⟩ = false := kz.frozen 3; have y4 : w2.cell? ⟨wr.heap.size, 4, none⟩ = some (.int .i64 0) := kz.cell 4; have g4 : w2.frozen? ⟨wr.heap.size, 4, none⟩ = false := kz.frozen 4; have y5 : w2.cell? ⟨wr.heap.size, 5, none⟩ = some (.int .i64 0) := kz.cell 5; have g5 : w2.frozen? ⟨wr.heap.size, 5, none⟩ = false := kz.frozen 5; have y6 : w2.cell? ⟨wr.heap.size, 6, none⟩ = some (.int .i64 0) := kz.cell 6; have g6 : w2.frozen? ⟨wr.heap.size, 6, none⟩ = false := kz.frozen 6; have y7 : w2.cell? ⟨wr.heap.size, 7, none⟩ = some (.bool false) := kz.cell 7; have g7 : w2.frozen? ⟨wr.heap.size, 7, none⟩ = false := kz.frozen 7; have y8 : w2.cell? ⟨wr.heap.size, 8, none⟩ = some (.bool false) := kz.cell 8; have g8 : w2.frozen? ⟨wr.heap.size, 8, none⟩ = false := kz.frozen 8; have y9 : w2.cell? ⟨wr.heap.size, 9, none⟩ = some (.bool false) := kz.cell 9; have g9 : w2.frozen? ⟨wr.heap.size, 9, none⟩ = false := kz.frozen 9; have y10 : w2.cell? ⟨wr.heap.size, 10, none⟩ = some (.int .u8 0) := kz.cell 10; have g10 : w2.frozen? ⟨wr.heap.size, 10, none⟩ = false := kz.frozen 10; have y11 : w2.cell? ⟨wr.heap.size, 11, none⟩ = some (.int .i64 0) := kz.cell 11; have g11 : w2.frozen? ⟨wr.heap.size, 11, none⟩ = false := kz.frozen 11; have y12 : w2.cell? ⟨wr.heap.size, 12, none⟩ = some (.int .i64 0) := kz.cell 12; have g12 : w2.frozen? ⟨wr.heap.size, 12, none⟩ = false := kz.frozen 12; have z2 : wr.heap.size < w2.heap.size := kz.lt; have KZ := Lib.hid kz; clear kz))))
        all_goals
          go_wp2_with fail
          go_meet
          first
            | exact ⟨_, rfl, rfl, rfl, rfl, KB1.size, below_alloc KB1, Blk.new _ _ _⟩
            | (have hs := store13 (w := wr) (g := wr.heap.size) KB1 (Nat.le_refl _) KZ.out (.int .i64 job_) (.int .i64 x1_) (.int .i64 x2_) (.int .i64 x3_) (.int .i64 x4_) (.int .i64 x5_) (.int .i64 x6_) (.bool t1_) (.bool t2_) (.bool t3_) (.int .u8 ph_) (.int .i64 tt_) (.int .i64 si_); exact ⟨_, rfl, rfl, rfl, rfl, Nat.le_refl _, hs.1, hs.2⟩)
      case rest =>
        obtain ⟨gb, rfl, rfl, rfl, rfl, hgb, hBx, hkb⟩ := hcut
        clear d0 d1 d2 d3 d4 d5 d6 d7
        clear p0 p1 p2 p3 p4 p5 p6 p7 p8 p9 p10 p11 p12
        have kd := hkd.out.below hBx.out hz0
        have kp := hkp.out.below hBx.out hz1
        have kb := hkb.out
        have hyc2 := (hBx.out.cell (p := ⟨yb, yo + i, none⟩) hyz).trans hyc1
        have HBX := Lib.hid (below_up hB.out hBx.out)
        have KDX := Lib.hid kd
        have KPX := Lib.hid kp
        have hzx0 : w.heap.size < wc.heap.size := kd.lt
        have hzx1 : w.heap.size + 1 < wc.heap.size := kp.lt
        have ne1 : ¬ gb = w.heap.size := by omega
        have ne2 : ¬ gb = w.heap.size + 1 := by omega
        have ne3 : ¬ w.heap.size = gb := by omega
        have ne4 : ¬ w.heap.size + 1 = gb := by omega
        have d5 : wc.cell? ⟨w.heap.size, 5, none⟩ = some (.int .i64 tr) := kd.cell 5
        have p0 : wc.cell? ⟨w.heap.size + 1, 0, none⟩ = some (.int .i64 job) := kp.cell 0
        have q0 : wc.frozen? ⟨w.heap.size + 1, 0, none⟩ = false := kp.frozen 0
        have p1 : wc.cell? ⟨w.heap.size + 1, 1, none⟩ = some (.int .i64 x1) := kp.cell 1
        have q1 : wc.frozen? ⟨w.heap.size + 1, 1, none⟩ = false := kp.frozen 1
        have p2 : wc.cell? ⟨w.heap.size + 1, 2, none⟩ = some (.int .i64 x2) := kp.cell 2
        have q2 : wc.frozen? ⟨w.heap.size + 1, 2, none⟩ = false := kp.frozen 2
        have p3 : wc.cell? ⟨w.heap.size + 1, 3, none⟩ = some (.int .i64 x3) := kp.cell 3
        have q3 : wc.frozen? ⟨w.heap.size + 1, 3, none⟩ = false := kp.frozen 3
        have p4 : wc.cell? ⟨w.heap.size + 1, 4, none⟩ = some (.int .i64 x4) := kp.cell 4
        have q4 : wc.frozen? ⟨w.heap.size + 1, 4, none⟩ = false := kp.frozen 4
        have p5 : wc.cell? ⟨w.heap.size + 1, 5, none⟩ = some (.int .i64 x5) := kp.cell 5
        have q5 : wc.frozen? ⟨w.heap.size + 1, 5, none⟩ = false := kp.frozen 5
        have p6 : wc.cell? ⟨w.heap.size + 1, 6, none⟩ = some (.int .i64 x6) := kp.cell 6
        have q6 : wc.frozen? ⟨w.heap.size + 1, 6, none⟩ = false := kp.frozen 6
        have p7 : wc.cell? ⟨w.heap.size + 1, 7, none⟩ = some (.bool t1) := kp.cell 7
        have q7 : wc.frozen? ⟨w.heap.size + 1, 7, none⟩ = false := kp.frozen 7
        have p8 : wc.cell? ⟨w.heap.size + 1, 8, none⟩ = some (.bool t2) := kp.cell 8
        have q8 : wc.frozen? ⟨w.heap.size + 1, 8, none⟩ = false := kp.frozen 8
        have p9 : wc.cell? ⟨w.heap.size + 1, 9, none⟩ = some (.bool t3) := kp.cell 9
        have q9 : wc.frozen? ⟨w.heap.size + 1, 9, none⟩ = false := kp.frozen 9
        have p10 : wc.cell? ⟨w.heap.size + 1, 10, none⟩ = some (.int .u8 ph) := kp.cell 10
        have q10 : wc.frozen? ⟨w.heap.size + 1, 10, none⟩ = false := kp.frozen 10
        have p11 : wc.cell? ⟨w.heap.size + 1, 11, none⟩ = some (.int .i64 tt) := kp.cell 11
        have q11 : wc.frozen? ⟨w.heap.size + 1, 11, none⟩ = false := kp.frozen 11
        have p12 : wc.cell? ⟨w.heap.size + 1, 12, none⟩ = some (.int .i64 si) := kp.cell 12
        have q12 : wc.frozen? ⟨w.heap.size + 1, 12, none⟩ = false := kp.frozen 12
        have b0 : wc.cell? ⟨gb, 0, none⟩ = some (.int .i64 job_) := kb.cell 0
        have b1 : wc.cell? ⟨gb, 1, none⟩ = some (.int .i64 x1_) := kb.cell 1
        have b2 : wc.cell? ⟨gb, 2, none⟩ = some (.int .i64 x2_) := kb.cell 2
        have b3 : wc.cell? ⟨gb, 3, none⟩ = some (.int .i64 x3_) := kb.cell 3
        have b4 : wc.cell? ⟨gb, 4, none⟩ = some (.int .i64 x4_) := kb.cell 4
        have b5 : wc.cell? ⟨gb, 5, none⟩ = some (.int .i64 x5_) := kb.cell 5
        have b6 : wc.cell? ⟨gb, 6, none⟩ = some (.int .i64 x6_) := kb.cell 6
        have b7 : wc.cell? ⟨gb, 7, none⟩ = some (.bool t1_) := kb.cell 7
        have b8 : wc.cell? ⟨gb, 8, none⟩ = some (.bool t2_) := kb.cell 8
        have b9 : wc.cell? ⟨gb, 9, none⟩ = some (.bool t3_) := kb.cell 9
        have b10 : wc.cell? ⟨gb, 10, none⟩ = some (.int .u8 ph_) := kb.cell 10
        have b11 : wc.cell? ⟨gb, 11, none⟩ = some (.int .i64 tt_) := kb.cell 11
        have b12 : wc.cell? ⟨gb, 12, none⟩ = some (.int .i64 si_) := kb.cell 12
        clear kd kp kb hkd hkp hyc1 hBx hkb hB
        have hv := hinv.out
        by_cases n0 : ne = 0
        · subst n0
          by_cases hok : CfgOk a b c bo fr tr ag ks ∧ PartOk job ph tt si tr
          · have hX := HX0.out
            unfold nextA at hX
            rw [if_pos hok] at hX
            have hw := went tr ⟨job, x1, x2, x3, x4, x5, x6, t1, t2, t3, ph, tt, si⟩ turn si hok.2.2.1
            rw [hX] at hw
            obtain ⟨v1, v2, v3, v4, v5⟩ := hv
            obtain ⟨v6, v7, v8⟩ := v5 hok
            have ptt := inB_true hok.2.2.2.1
            have pph := hok.2.2.1
            have ptr := inB_true hok.1.2.2.2.1
            dsimp only at v6 v7 v8 ptt pph
            have i32 : i ≤ 40 := by omega
            have f1 : IntKind.i64.wrap (steps + 1) = steps + 1 := IntWalk.i64_in _ (by omega)
            have f2 : IntKind.i64.wrap (told + 1) = told + 1 := IntWalk.i64_in _ (by omega)
            have f3 : IntKind.i64.wrap (tr + 2) = tr + 2 := IntWalk.i64_in _ (by omega)
            have f4 : IntKind.i64.wrap ((i : Int) + 1) = (i : Int) + 1 := IntWalk.i64_in _ (by omega)
            -- it is gone; it stays; it goes on
            have key : (ng = true ∧ nj = 0 ∧ ph = 3 ∧ turn ≠ 7 ∧ (⟨job_, x1_, x2_, x3_, x4_, x5_, x6_, t1_, t2_, t3_, ph_, tt_, si_⟩ : PV) = PV.zero) ∨ (ng = false ∧ ph = 3 ∧ turn = 7) ∨
                (ng = false ∧ ¬ (turn = 7 ∧ ph = 3) ∧ (⟨job_, x1_, x2_, x3_, x4_, x5_, x6_, t1_, t2_, t3_, ph_, tt_, si_⟩ : PV) = ⟨job, x1, x2, x3, x4, x5, x6, t1, t2, t3, ph_, tt_, si⟩ ∧ ph ≤ ph_ ∧ PartOk job ph_ tt_ si tr ∧ ((nj = 0 ∧ ((ph_ = 1 ∧ steps + 1 ≤ tt_ - 1 ∧ told = 0) ∨ (ph_ = 2 ∧ steps + 1 ≤ tr ∧ told = 0))) ∨ (3 ≤ nj ∧ ph_ = 3 ∧ steps + 1 ≤ tr + 1 ∧ told = 0))) := by
              rcases hw with hw | ⟨hin, hw | hw | hw | hw | hw⟩
              · exact absurd rfl hw
              · obtain ⟨hq, h2, h3⟩ := hw
                simp only [Prod.mk.injEq] at hq
                exact .inl ⟨hq.2.2.1, hq.2.1, h2, by omega, hq.1⟩
              · obtain ⟨hq, h2, h3⟩ := hw
                simp only [Prod.mk.injEq] at hq
                exact .inr (.inl ⟨hq.2.2.1, h2, h3⟩)
              · obtain ⟨h2, h3, hw⟩ := hw
                dsimp only at h2 hw
                have v9 := v6 h2
                rcases hw with ⟨h4, hq⟩ | ⟨h4, hq⟩
                · simp only [Prod.mk.injEq, PV.mk.injEq] at hq
                  refine .inr (.inr ⟨hq.2.2.1, by omega, ?_, by omega, ⟨hok.2.1, by omega, inB_mk (by omega) (by omega), hok.2.2.2.2⟩, .inl ⟨hq.2.1, .inl (by omega)⟩⟩)
                  simp [hq.1]
                · simp only [Prod.mk.injEq, PV.mk.injEq] at hq
                  refine .inr (.inr ⟨hq.2.2.1, by omega, ?_, by omega, ⟨hok.2.1, by omega, inB_mk (by omega) (by omega), hok.2.2.2.2⟩, .inr (by omega)⟩)
                  simp [hq.1]
              · obtain ⟨h2, h3, hq⟩ := hw
                simp only [Prod.mk.injEq, PV.mk.injEq] at hq
                dsimp only at h2
                have v9 := v6 h2
                refine .inr (.inr ⟨hq.2.2.1, by omega, ?_, by omega, ⟨hok.2.1, by omega, inB_mk (by omega) (by omega), hok.2.2.2.2⟩, .inl ⟨hq.2.1, .inr (by omega)⟩⟩)
                simp [hq.1]
              · obtain ⟨h2, h3, h4, h5, j, h6, h7, hq⟩ := hw
                simp only [Prod.mk.injEq, PV.mk.injEq] at hq
                dsimp only at h2
                have v9 : steps ≤ tr ∧ told = 0 := by
                  rcases h2 with h2 | h2
                  · have := v6 h2; omega
                  · exact v7 h2
                refine .inr (.inr ⟨hq.2.2.1, by omega, ?_, by omega, ⟨hok.2.1, by omega, inB_mk (by omega) (by omega), hok.2.2.2.2⟩, .inr (by omega)⟩)
                simp [hq.1]
            clear hw hX HX0
            rcases key with ⟨k1, k2, k3, k4, k5⟩ | ⟨k1, k2, k3⟩ | ⟨k1, k2, k3, k4, k5, k6⟩
            · unfold PV.zero at k5
              simp only [PV.mk.injEq] at k5
              obtain ⟨rfl, rfl, rfl, rfl, rfl, rfl, rfl, rfl, rfl, rfl, rfl, rfl, rfl⟩ := k5
              subst k1 k2 k3
              have v9 := v8 rfl
              clear v6 v7 v8 v5
              have k4' : (turn == 7) = false := by simpa using k4
              have n1 : ¬ tr + 2 < steps + 1 := by omega
              have n2 : ¬ 1 < told := by omega
              have hz := zero_part
              clear k4
              go_wp2_with fail
              go_ret
              exact ⟨rfl, HBX.out⟩
            · subst k1 k2 k3
              clear v6 v7 v8 v5
              go_wp2_with fail
              go_roundw
              case rel => exact ⟨⟨job, x1, x2, x3, x4, x5, x6, t1, t2, t3, 3, tt, si⟩, steps, told, i + 1, rfl, rfl, by go_num, by omega, ⟨v1, v2, by omega, by omega, hinv.out.2.2.2.2⟩, HBX.out, KDX.out, KPX.out⟩
              case measure => simp [intOf]; omega
            · simp only [PV.mk.injEq] at k3
              obtain ⟨rfl, rfl, rfl, rfl, rfl, rfl, rfl, rfl, rfl, rfl, _, _, rfl⟩ := k3
              subst k1
              clear v6 v7 v8 v5
              have n1 : ¬ tr + 2 < steps + 1 := by have := inB_true k5.2.2.1; omega
              have n4 : ¬ ph_ < ph := by omega
              have K5 := Lib.hid k5
              have hs := store13 (w := w) (g := w.heap.size + 1) HBX.out (by omega) KPX.out (.int .i64 job_) (.int .i64 x1_) (.int .i64 x2_) (.int .i64 x3_) (.int .i64 x4_) (.int .i64 x5_) (.int .i64 x6_) (.bool t1_) (.bool t2_) (.bool t3_) (.int .u8 ph_) (.int .i64 tt_) (.int .i64 si_)
              have hd := fun (v0 v1 v2 v3 v4 v5 v6 v7 v8 v9 v10 v11 v12 : Value) => (((((((((((((KDX.out.far (p := ⟨w.heap.size + 1, 0, none⟩) (by simp) v0).far (p := ⟨w.heap.size + 1, 1, none⟩) (by simp) v1).far (p := ⟨w.heap.size + 1, 2, none⟩) (by simp) v2).far (p := ⟨w.heap.size + 1, 3, none⟩) (by simp) v3).far (p := ⟨w.heap.size + 1, 4, none⟩) (by simp) v4).far (p := ⟨w.heap.size + 1, 5, none⟩) (by simp) v5).far (p := ⟨w.heap.size + 1, 6, none⟩) (by simp) v6).far (p := ⟨w.heap.size + 1, 7, none⟩) (by simp) v7).far (p := ⟨w.heap.size + 1, 8, none⟩) (by simp) v8).far (p := ⟨w.heap.size + 1, 9, none⟩) (by simp) v9).far (p := ⟨w.heap.size + 1, 10, none⟩) (by simp) v10).far (p := ⟨w.heap.size + 1, 11, none⟩) (by simp) v11).far (p := ⟨w.heap.size + 1, 12, none⟩) (by simp) v12)
              have HS := Lib.hid hs
              have HD := Lib.hid hd
              clear hs hd k5
              have f7 : (turn == 7 && ph == 3) = false := by
                by_cases e : turn = 7
                · have : ph ≠ 3 := fun e2 => k2 ⟨e, e2⟩
                  simp [this]
                · simp [e]
              by_cases e7 : turn = 7
              · have e3 : (ph == 3) = false := by
                  have : ph ≠ 3 := fun e2 => k2 ⟨e7, e2⟩
                  simpa using this
                have e7' : (turn == 7) = true := by simpa using e7
                have E7 := Lib.hid e7
                clear e7 f7 k2
                rcases k6 with ⟨k7, k8⟩ | ⟨k7, k8, k9, k10⟩
                · subst k7
                  have n2 : ¬ 1 < told := by omega
                  have hJ : (ph_ = 1 → steps + 1 ≤ tt_ - 1 ∧ told = 0) ∧ (ph_ = 2 → steps + 1 ≤ tr ∧ told = 0) ∧ (ph_ = 3 → steps + 1 ≤ tr + 1 ∧ told ≤ 1) := by omega
                  have HJ := Lib.hid hJ
                  clear hJ k8
                  go_wp2_with fail
                  go_roundw
                  case rel => exact ⟨⟨job_, x1_, x2_, x3_, x4_, x5_, x6_, t1_, t2_, t3_, ph_, tt_, si_⟩, steps + 1, told, i + 1, rfl, rfl, by go_num, by omega, ⟨by omega, by omega, by omega, by omega, fun _ => HJ.out⟩, HS.out.1, HD.out _ _ _ _ _ _ _ _ _ _ _ _ _, HS.out.2⟩
                  case measure => simp [intOf]; omega
                · subst k8 k10
                  have n2 : ¬ (1 : Int) < 0 + 1 := by omega
                  have n5 : (nj != 0) = true := by simp; omega
                  have n6 : ¬ nj < 3 := by omega
                  have hJ : ((3 : Int) = 1 → steps + 1 ≤ tt_ - 1 ∧ (0 : Int) + 1 = 0) ∧ ((3 : Int) = 2 → steps + 1 ≤ tr ∧ (0 : Int) + 1 = 0) ∧ ((3 : Int) = 3 → steps + 1 ≤ tr + 1 ∧ (0 : Int) + 1 ≤ 1) := by omega
                  have HJ := Lib.hid hJ
                  clear hJ
                  go_wp2_with fail
                  go_roundw
                  case rel => exact ⟨⟨job_, x1_, x2_, x3_, x4_, x5_, x6_, t1_, t2_, t3_, 3, tt_, si_⟩, steps + 1, 0 + 1, i + 1, rfl, rfl, by go_num, by omega, ⟨by omega, by omega, by omega, by omega, fun _ => HJ.out⟩, HS.out.1, HD.out _ _ _ _ _ _ _ _ _ _ _ _ _, HS.out.2⟩
                  case measure => simp [intOf]; omega
              · have e7' : (turn == 7) = false := by simpa using e7
                have E7 := Lib.hid e7
                clear e7 f7 k2
                rcases k6 with ⟨k7, k8⟩ | ⟨k7, k8, k9, k10⟩
                · subst k7
                  have n2 : ¬ 1 < told := by omega
                  have hJ : (ph_ = 1 → steps + 1 ≤ tt_ - 1 ∧ told = 0) ∧ (ph_ = 2 → steps + 1 ≤ tr ∧ told = 0) ∧ (ph_ = 3 → steps + 1 ≤ tr + 1 ∧ told ≤ 1) := by omega
                  have HJ := Lib.hid hJ
                  clear hJ k8
                  go_wp2_with fail
                  go_roundw
                  case rel => exact ⟨⟨job_, x1_, x2_, x3_, x4_, x5_, x6_, t1_, t2_, t3_, ph_, tt_, si_⟩, steps + 1, told, i + 1, rfl, rfl, by go_num, by omega, ⟨by omega, by omega, by omega, by omega, fun _ => HJ.out⟩, HS.out.1, HD.out _ _ _ _ _ _ _ _ _ _ _ _ _, HS.out.2⟩
                  case measure => simp [intOf]; omega
                · subst k8 k10
                  have n2 : ¬ (1 : Int) < 0 + 1 := by omega
                  have n5 : (nj != 0) = true := by simp; omega
                  have n6 : ¬ nj < 3 := by omega
                  have hJ : ((3 : Int) = 1 → steps + 1 ≤ tt_ - 1 ∧ (0 : Int) + 1 = 0) ∧ ((3 : Int) = 2 → steps + 1 ≤ tr ∧ (0 : Int) + 1 = 0) ∧ ((3 : Int) = 3 → steps + 1 ≤ tr + 1 ∧ (0 : Int) + 1 ≤ 1) := by omega
                  have HJ := Lib.hid hJ
                  clear hJ
                  go_wp2_with fail
                  go_roundw
                  case rel => exact ⟨⟨job_, x1_, x2_, x3_, x4_, x5_, x6_, t1_, t2_, t3_, 3, tt_, si_⟩, steps + 1, 0 + 1, i + 1, rfl, rfl, by go_num, by omega, ⟨by omega, by omega, by omega, by omega, fun _ => HJ.out⟩, HS.out.1, HD.out _ _ _ _ _ _ _ _ _ _ _ _ _, HS.out.2⟩
                  case measure => simp [intOf]; omega
          · have hX := HX0.out
            unfold nextA at hX
            rw [if_neg hok] at hX
            simp at hX
        · have n0' : (ne != 0) = true := by simpa using n0
          obtain ⟨v1, v2, v3, v4, v5⟩ := hv
          clear HX0 n0
          have V5 := Lib.hid v5
          clear v5
          go_wp2_with fail
          go_roundw
          case rel => exact ⟨⟨job, x1, x2, x3, x4, x5, x6, t1, t2, t3, ph, tt, si⟩, steps, told, i + 1, rfl, rfl, by go_num, by omega, ⟨v1, v2, by omega, by omega, V5.out⟩, HBX.out, KDX.out, KPX.out⟩
          case measure => simp [intOf]; omega
    · have hie : ¬ (i : Int) < (ts.length : Int) := by omega
      go_wp2_with fail
      go_ret
      exact ⟨rfl, hB.out⟩
theorem goneLaw (w : World) (a b c bo fr tr ag : Int) (X : Option Addr) (cp : Nat) (ks : List Cls) (hcp : ks.length ≤ cp) (hcm : cp ≤ maxLen) (hk : ClsAt w w.heap.size X ks) (p : PV) (wj : (Lit.int .i64 p.job).wf = true) (wp : (Lit.int .u8 p.ph).wf = true) (wt : (Lit.int .i64 p.tt).wf = true) (ws : (Lit.int .i64 p.si).wf = true)
    (Y : Option Addr) (cy : Nat) (ts : List Int) (hcy : ts.length ≤ cy) (hym : cy ≤ maxLen) (hr : Reads w w.heap.size 1 Y ts.length (ts.map (Value.int .u8))) (hw : ∀ n ∈ ts, (Lit.int .u8 n).wf = true) :
    Calls Try.prog 7 #[.agg #[.int .i64 a, .int .i64 b, .int .i64 c, .int .i64 bo, .int .i64 fr, .int .i64 tr, .int .i64 ag, .slice X ks.length cp], .agg p.arr, .slice Y ts.length cy] w fun e w' => e = .returned (.bool true) ∧ Below w.heap.size w w' := by
  unfold maxLen at hcm hym
  obtain ⟨job, x1, x2, x3, x4, x5, x6, t1, t2, t3, ph, tt, si⟩ := p
  by_cases hn : 100 < ks.length
  · exact gone_many a b c bo fr tr ag X cp ks (by omega) job x1 x2 x3 x4 x5 x6 t1 t2 t3 ph tt si Y cy ts (by omega) hn w hk
  · by_cases hm : 40 < ts.length
    · exact gone_turns a b c bo fr tr ag X cp ks (by omega) job x1 x2 x3 x4 x5 x6 t1 t2 t3 ph tt si Y cy ts (by omega) hn hm w hk
    · exact gone_loop a b c bo fr tr ag X cp ks (by omega) job x1 x2 x3 x4 x5 x6 t1 t2 t3 ph tt si Y cy ts (by omega) hn hm w hr hk
end Go.Proofs.Ytfndopemfhmhgaa.PartGone
