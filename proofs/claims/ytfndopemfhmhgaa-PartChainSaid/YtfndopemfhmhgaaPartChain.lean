/- The walk of PartChain. -/
import Derived.Test.YtfndopemfhmhgaaPartAll
import Derived.Test.YtfndopemfhmhgaaPartFew
import Derived.Test.YtfndopemfhmhgaaPartNext
namespace Go.Proofs.Ytfndopemfhmhgaa.PartChain
open Go.RowKit Mem PosMath PosCheck PartMath PartClass PartCheck PartEnds PartEnds2 PartTable PartNext PartFew PartTurn PartAll
set_option linter.unusedVariables false

set_option maxRecDepth 100000 in
set_option maxHeartbeats 2000000 in
theorem chain_early (a b c bo fr tr ag : Int) (X : Option Addr) (cp : Nat) (ks : List Cls) (hl : ks.length ≤ 9223372036854775807) (job x1 x2 x3 x4 x5 x6 : Int) (t1 t2 t3 : Bool) (ph tt si : Int) (wall ea ee : Int) (hE : endsV a b c bo fr tr ag ks ⟨job, x1, x2, x3, x4, x5, x6, t1, t2, t3, ph, tt, si⟩ wall = (ea, ee)) (h : ee ≠ 0 ∨ ph ≠ 1 ∨ 1099511627776 ≤ ea) (w : World) (hk : ClsAt w w.heap.size X ks) :
    Calls Try.prog 8 #[.agg #[.int .i64 a, .int .i64 b, .int .i64 c, .int .i64 bo, .int .i64 fr, .int .i64 tr, .int .i64 ag, .slice X ks.length cp], .agg #[.int .i64 job, .int .i64 x1, .int .i64 x2, .int .i64 x3, .int .i64 x4, .int .i64 x5, .int .i64 x6, .bool t1, .bool t2, .bool t3, .int .u8 ph, .int .i64 tt, .int .i64 si], .int .i64 wall] w (fun e w' => e = .returned (.bool true) ∧ Below w.heap.size w w') := by
  have HKK := Lib.hid hk
  clear hk
  have HE : ∀ (w : World) (hk : ClsAt w w.heap.size X ks), Calls Try.prog 14 #[.agg #[.int .i64 a, .int .i64 b, .int .i64 c, .int .i64 bo, .int .i64 fr, .int .i64 tr, .int .i64 ag, .slice X ks.length cp], .agg #[.int .i64 job, .int .i64 x1, .int .i64 x2, .int .i64 x3, .int .i64 x4, .int .i64 x5, .int .i64 x6, .bool t1, .bool t2, .bool t3, .int .u8 ph, .int .i64 tt, .int .i64 si], .int .i64 wall] w (fun e w' => e = .returned (.tuple #[.int .i64 ea, .int .i64 ee]) ∧ Below w.heap.size w w') := fun w hk => by
    have := ends_any a b c bo fr tr ag X cp ks hl ⟨job, x1, x2, x3, x4, x5, x6, t1, t2, t3, ph, tt, si⟩ wall w hk
    rw [hE] at this
    exact this
  have HEh := Lib.hid HE
  clear HE
  clear hE
  by_cases hn : 100 < ks.length
  · skip
    go_enter Try.func8, Try.ntmps8
    go_wp2_with fail
    refine (alive_any _).mono ?_
    rintro e w1 ⟨rfl, hB1⟩
    have HB1 : Hid (Below w.heap.size w w1) := below_up (below_alloc (below_alloc (Below.refl _ _))) hB1
    have c1_0 : w1.cell? ⟨w.heap.size, 0, none⟩ = some (.int .i64 a) := keep_cell (cell_over _ (box0 w 26 #[.int .i64 a, .int .i64 b, .int .i64 c, .int .i64 bo, .int .i64 fr, .int .i64 tr, .int .i64 ag, .slice X ks.length cp] 0)) hB1
    have c1_1 : w1.cell? ⟨w.heap.size, 1, none⟩ = some (.int .i64 b) := keep_cell (cell_over _ (box0 w 26 #[.int .i64 a, .int .i64 b, .int .i64 c, .int .i64 bo, .int .i64 fr, .int .i64 tr, .int .i64 ag, .slice X ks.length cp] 1)) hB1
    have c1_2 : w1.cell? ⟨w.heap.size, 2, none⟩ = some (.int .i64 c) := keep_cell (cell_over _ (box0 w 26 #[.int .i64 a, .int .i64 b, .int .i64 c, .int .i64 bo, .int .i64 fr, .int .i64 tr, .int .i64 ag, .slice X ks.length cp] 2)) hB1
    have c1_3 : w1.cell? ⟨w.heap.size, 3, none⟩ = some (.int .i64 bo) := keep_cell (cell_over _ (box0 w 26 #[.int .i64 a, .int .i64 b, .int .i64 c, .int .i64 bo, .int .i64 fr, .int .i64 tr, .int .i64 ag, .slice X ks.length cp] 3)) hB1
    have c1_4 : w1.cell? ⟨w.heap.size, 4, none⟩ = some (.int .i64 fr) := keep_cell (cell_over _ (box0 w 26 #[.int .i64 a, .int .i64 b, .int .i64 c, .int .i64 bo, .int .i64 fr, .int .i64 tr, .int .i64 ag, .slice X ks.length cp] 4)) hB1
    have c1_5 : w1.cell? ⟨w.heap.size, 5, none⟩ = some (.int .i64 tr) := keep_cell (cell_over _ (box0 w 26 #[.int .i64 a, .int .i64 b, .int .i64 c, .int .i64 bo, .int .i64 fr, .int .i64 tr, .int .i64 ag, .slice X ks.length cp] 5)) hB1
    have c1_6 : w1.cell? ⟨w.heap.size, 6, none⟩ = some (.int .i64 ag) := keep_cell (cell_over _ (box0 w 26 #[.int .i64 a, .int .i64 b, .int .i64 c, .int .i64 bo, .int .i64 fr, .int .i64 tr, .int .i64 ag, .slice X ks.length cp] 6)) hB1
    have c1_7 : w1.cell? ⟨w.heap.size, 7, none⟩ = some (.slice X ks.length cp) := keep_cell (cell_over _ (box0 w 26 #[.int .i64 a, .int .i64 b, .int .i64 c, .int .i64 bo, .int .i64 fr, .int .i64 tr, .int .i64 ag, .slice X ks.length cp] 7)) hB1
    have c1_8 : w1.cell? ⟨w.heap.size + 1, 0, none⟩ = some (.int .i64 job) := keep_cell (box1 w 37 #[.int .i64 job, .int .i64 x1, .int .i64 x2, .int .i64 x3, .int .i64 x4, .int .i64 x5, .int .i64 x6, .bool t1, .bool t2, .bool t3, .int .u8 ph, .int .i64 tt, .int .i64 si] 0) hB1
    have c1_9 : w1.cell? ⟨w.heap.size + 1, 1, none⟩ = some (.int .i64 x1) := keep_cell (box1 w 37 #[.int .i64 job, .int .i64 x1, .int .i64 x2, .int .i64 x3, .int .i64 x4, .int .i64 x5, .int .i64 x6, .bool t1, .bool t2, .bool t3, .int .u8 ph, .int .i64 tt, .int .i64 si] 1) hB1
    have c1_10 : w1.cell? ⟨w.heap.size + 1, 2, none⟩ = some (.int .i64 x2) := keep_cell (box1 w 37 #[.int .i64 job, .int .i64 x1, .int .i64 x2, .int .i64 x3, .int .i64 x4, .int .i64 x5, .int .i64 x6, .bool t1, .bool t2, .bool t3, .int .u8 ph, .int .i64 tt, .int .i64 si] 2) hB1
    have c1_11 : w1.cell? ⟨w.heap.size + 1, 3, none⟩ = some (.int .i64 x3) := keep_cell (box1 w 37 #[.int .i64 job, .int .i64 x1, .int .i64 x2, .int .i64 x3, .int .i64 x4, .int .i64 x5, .int .i64 x6, .bool t1, .bool t2, .bool t3, .int .u8 ph, .int .i64 tt, .int .i64 si] 3) hB1
    have c1_12 : w1.cell? ⟨w.heap.size + 1, 4, none⟩ = some (.int .i64 x4) := keep_cell (box1 w 37 #[.int .i64 job, .int .i64 x1, .int .i64 x2, .int .i64 x3, .int .i64 x4, .int .i64 x5, .int .i64 x6, .bool t1, .bool t2, .bool t3, .int .u8 ph, .int .i64 tt, .int .i64 si] 4) hB1
    have c1_13 : w1.cell? ⟨w.heap.size + 1, 5, none⟩ = some (.int .i64 x5) := keep_cell (box1 w 37 #[.int .i64 job, .int .i64 x1, .int .i64 x2, .int .i64 x3, .int .i64 x4, .int .i64 x5, .int .i64 x6, .bool t1, .bool t2, .bool t3, .int .u8 ph, .int .i64 tt, .int .i64 si] 5) hB1
    have c1_14 : w1.cell? ⟨w.heap.size + 1, 6, none⟩ = some (.int .i64 x6) := keep_cell (box1 w 37 #[.int .i64 job, .int .i64 x1, .int .i64 x2, .int .i64 x3, .int .i64 x4, .int .i64 x5, .int .i64 x6, .bool t1, .bool t2, .bool t3, .int .u8 ph, .int .i64 tt, .int .i64 si] 6) hB1
    have c1_15 : w1.cell? ⟨w.heap.size + 1, 7, none⟩ = some (.bool t1) := keep_cell (box1 w 37 #[.int .i64 job, .int .i64 x1, .int .i64 x2, .int .i64 x3, .int .i64 x4, .int .i64 x5, .int .i64 x6, .bool t1, .bool t2, .bool t3, .int .u8 ph, .int .i64 tt, .int .i64 si] 7) hB1
    have c1_16 : w1.cell? ⟨w.heap.size + 1, 8, none⟩ = some (.bool t2) := keep_cell (box1 w 37 #[.int .i64 job, .int .i64 x1, .int .i64 x2, .int .i64 x3, .int .i64 x4, .int .i64 x5, .int .i64 x6, .bool t1, .bool t2, .bool t3, .int .u8 ph, .int .i64 tt, .int .i64 si] 8) hB1
    have c1_17 : w1.cell? ⟨w.heap.size + 1, 9, none⟩ = some (.bool t3) := keep_cell (box1 w 37 #[.int .i64 job, .int .i64 x1, .int .i64 x2, .int .i64 x3, .int .i64 x4, .int .i64 x5, .int .i64 x6, .bool t1, .bool t2, .bool t3, .int .u8 ph, .int .i64 tt, .int .i64 si] 9) hB1
    have c1_18 : w1.cell? ⟨w.heap.size + 1, 10, none⟩ = some (.int .u8 ph) := keep_cell (box1 w 37 #[.int .i64 job, .int .i64 x1, .int .i64 x2, .int .i64 x3, .int .i64 x4, .int .i64 x5, .int .i64 x6, .bool t1, .bool t2, .bool t3, .int .u8 ph, .int .i64 tt, .int .i64 si] 10) hB1
    have c1_19 : w1.cell? ⟨w.heap.size + 1, 11, none⟩ = some (.int .i64 tt) := keep_cell (box1 w 37 #[.int .i64 job, .int .i64 x1, .int .i64 x2, .int .i64 x3, .int .i64 x4, .int .i64 x5, .int .i64 x6, .bool t1, .bool t2, .bool t3, .int .u8 ph, .int .i64 tt, .int .i64 si] 11) hB1
    have c1_20 : w1.cell? ⟨w.heap.size + 1, 12, none⟩ = some (.int .i64 si) := keep_cell (box1 w 37 #[.int .i64 job, .int .i64 x1, .int .i64 x2, .int .i64 x3, .int .i64 x4, .int .i64 x5, .int .i64 x6, .bool t1, .bool t2, .bool t3, .int .u8 ph, .int .i64 tt, .int .i64 si] 12) hB1
    have z1_0 : w.heap.size < w1.heap.size := cell_lt c1_0
    have z1_1 : w.heap.size + 1 < w1.heap.size := cell_lt c1_8
    clear hB1  
    go_wp2_with fail
    refine (HEh.out _ (HKK.out.up HB1.out)).mono ?_
    rintro e w2 ⟨rfl, hB2⟩
    have HB2 : Hid (Below w.heap.size w w2) := below_up HB1.out hB2
    have c2_0 : w2.cell? ⟨w.heap.size, 0, none⟩ = some (.int .i64 a) := keep_cell c1_0 hB2
    have c2_1 : w2.cell? ⟨w.heap.size, 1, none⟩ = some (.int .i64 b) := keep_cell c1_1 hB2
    have c2_2 : w2.cell? ⟨w.heap.size, 2, none⟩ = some (.int .i64 c) := keep_cell c1_2 hB2
    have c2_3 : w2.cell? ⟨w.heap.size, 3, none⟩ = some (.int .i64 bo) := keep_cell c1_3 hB2
    have c2_4 : w2.cell? ⟨w.heap.size, 4, none⟩ = some (.int .i64 fr) := keep_cell c1_4 hB2
    have c2_5 : w2.cell? ⟨w.heap.size, 5, none⟩ = some (.int .i64 tr) := keep_cell c1_5 hB2
    have c2_6 : w2.cell? ⟨w.heap.size, 6, none⟩ = some (.int .i64 ag) := keep_cell c1_6 hB2
    have c2_7 : w2.cell? ⟨w.heap.size, 7, none⟩ = some (.slice X ks.length cp) := keep_cell c1_7 hB2
    have c2_8 : w2.cell? ⟨w.heap.size + 1, 0, none⟩ = some (.int .i64 job) := keep_cell c1_8 hB2
    have c2_9 : w2.cell? ⟨w.heap.size + 1, 1, none⟩ = some (.int .i64 x1) := keep_cell c1_9 hB2
    have c2_10 : w2.cell? ⟨w.heap.size + 1, 2, none⟩ = some (.int .i64 x2) := keep_cell c1_10 hB2
    have c2_11 : w2.cell? ⟨w.heap.size + 1, 3, none⟩ = some (.int .i64 x3) := keep_cell c1_11 hB2
    have c2_12 : w2.cell? ⟨w.heap.size + 1, 4, none⟩ = some (.int .i64 x4) := keep_cell c1_12 hB2
    have c2_13 : w2.cell? ⟨w.heap.size + 1, 5, none⟩ = some (.int .i64 x5) := keep_cell c1_13 hB2
    have c2_14 : w2.cell? ⟨w.heap.size + 1, 6, none⟩ = some (.int .i64 x6) := keep_cell c1_14 hB2
    have c2_15 : w2.cell? ⟨w.heap.size + 1, 7, none⟩ = some (.bool t1) := keep_cell c1_15 hB2
    have c2_16 : w2.cell? ⟨w.heap.size + 1, 8, none⟩ = some (.bool t2) := keep_cell c1_16 hB2
    have c2_17 : w2.cell? ⟨w.heap.size + 1, 9, none⟩ = some (.bool t3) := keep_cell c1_17 hB2
    have c2_18 : w2.cell? ⟨w.heap.size + 1, 10, none⟩ = some (.int .u8 ph) := keep_cell c1_18 hB2
    have c2_19 : w2.cell? ⟨w.heap.size + 1, 11, none⟩ = some (.int .i64 tt) := keep_cell c1_19 hB2
    have c2_20 : w2.cell? ⟨w.heap.size + 1, 12, none⟩ = some (.int .i64 si) := keep_cell c1_20 hB2
    have z2_0 : w.heap.size < w2.heap.size := cell_lt c2_0
    have z2_1 : w.heap.size + 1 < w2.heap.size := cell_lt c2_8
    clear hB2 c1_0 c1_1 c1_2 c1_3 c1_4 c1_5 c1_6 c1_7 c1_8 c1_9 c1_10 c1_11 c1_12 c1_13 c1_14 c1_15 c1_16 c1_17 c1_18 c1_19 c1_20 z1_0 z1_1
    go_wp2_with fail
    go_ret
    exact ⟨rfl, HB2.out⟩
  · rcases h with h | h | h
    · have h1 : (ee != 0) = true := by simpa using h
      go_enter Try.func8, Try.ntmps8
      go_wp2_with fail
      refine (alive_any _).mono ?_
      rintro e w1 ⟨rfl, hB1⟩
      have HB1 : Hid (Below w.heap.size w w1) := below_up (below_alloc (below_alloc (Below.refl _ _))) hB1
      have c1_0 : w1.cell? ⟨w.heap.size, 0, none⟩ = some (.int .i64 a) := keep_cell (cell_over _ (box0 w 26 #[.int .i64 a, .int .i64 b, .int .i64 c, .int .i64 bo, .int .i64 fr, .int .i64 tr, .int .i64 ag, .slice X ks.length cp] 0)) hB1
      have c1_1 : w1.cell? ⟨w.heap.size, 1, none⟩ = some (.int .i64 b) := keep_cell (cell_over _ (box0 w 26 #[.int .i64 a, .int .i64 b, .int .i64 c, .int .i64 bo, .int .i64 fr, .int .i64 tr, .int .i64 ag, .slice X ks.length cp] 1)) hB1
      have c1_2 : w1.cell? ⟨w.heap.size, 2, none⟩ = some (.int .i64 c) := keep_cell (cell_over _ (box0 w 26 #[.int .i64 a, .int .i64 b, .int .i64 c, .int .i64 bo, .int .i64 fr, .int .i64 tr, .int .i64 ag, .slice X ks.length cp] 2)) hB1
      have c1_3 : w1.cell? ⟨w.heap.size, 3, none⟩ = some (.int .i64 bo) := keep_cell (cell_over _ (box0 w 26 #[.int .i64 a, .int .i64 b, .int .i64 c, .int .i64 bo, .int .i64 fr, .int .i64 tr, .int .i64 ag, .slice X ks.length cp] 3)) hB1
      have c1_4 : w1.cell? ⟨w.heap.size, 4, none⟩ = some (.int .i64 fr) := keep_cell (cell_over _ (box0 w 26 #[.int .i64 a, .int .i64 b, .int .i64 c, .int .i64 bo, .int .i64 fr, .int .i64 tr, .int .i64 ag, .slice X ks.length cp] 4)) hB1
      have c1_5 : w1.cell? ⟨w.heap.size, 5, none⟩ = some (.int .i64 tr) := keep_cell (cell_over _ (box0 w 26 #[.int .i64 a, .int .i64 b, .int .i64 c, .int .i64 bo, .int .i64 fr, .int .i64 tr, .int .i64 ag, .slice X ks.length cp] 5)) hB1
      have c1_6 : w1.cell? ⟨w.heap.size, 6, none⟩ = some (.int .i64 ag) := keep_cell (cell_over _ (box0 w 26 #[.int .i64 a, .int .i64 b, .int .i64 c, .int .i64 bo, .int .i64 fr, .int .i64 tr, .int .i64 ag, .slice X ks.length cp] 6)) hB1
      have c1_7 : w1.cell? ⟨w.heap.size, 7, none⟩ = some (.slice X ks.length cp) := keep_cell (cell_over _ (box0 w 26 #[.int .i64 a, .int .i64 b, .int .i64 c, .int .i64 bo, .int .i64 fr, .int .i64 tr, .int .i64 ag, .slice X ks.length cp] 7)) hB1
      have c1_8 : w1.cell? ⟨w.heap.size + 1, 0, none⟩ = some (.int .i64 job) := keep_cell (box1 w 37 #[.int .i64 job, .int .i64 x1, .int .i64 x2, .int .i64 x3, .int .i64 x4, .int .i64 x5, .int .i64 x6, .bool t1, .bool t2, .bool t3, .int .u8 ph, .int .i64 tt, .int .i64 si] 0) hB1
      have c1_9 : w1.cell? ⟨w.heap.size + 1, 1, none⟩ = some (.int .i64 x1) := keep_cell (box1 w 37 #[.int .i64 job, .int .i64 x1, .int .i64 x2, .int .i64 x3, .int .i64 x4, .int .i64 x5, .int .i64 x6, .bool t1, .bool t2, .bool t3, .int .u8 ph, .int .i64 tt, .int .i64 si] 1) hB1
      have c1_10 : w1.cell? ⟨w.heap.size + 1, 2, none⟩ = some (.int .i64 x2) := keep_cell (box1 w 37 #[.int .i64 job, .int .i64 x1, .int .i64 x2, .int .i64 x3, .int .i64 x4, .int .i64 x5, .int .i64 x6, .bool t1, .bool t2, .bool t3, .int .u8 ph, .int .i64 tt, .int .i64 si] 2) hB1
      have c1_11 : w1.cell? ⟨w.heap.size + 1, 3, none⟩ = some (.int .i64 x3) := keep_cell (box1 w 37 #[.int .i64 job, .int .i64 x1, .int .i64 x2, .int .i64 x3, .int .i64 x4, .int .i64 x5, .int .i64 x6, .bool t1, .bool t2, .bool t3, .int .u8 ph, .int .i64 tt, .int .i64 si] 3) hB1
      have c1_12 : w1.cell? ⟨w.heap.size + 1, 4, none⟩ = some (.int .i64 x4) := keep_cell (box1 w 37 #[.int .i64 job, .int .i64 x1, .int .i64 x2, .int .i64 x3, .int .i64 x4, .int .i64 x5, .int .i64 x6, .bool t1, .bool t2, .bool t3, .int .u8 ph, .int .i64 tt, .int .i64 si] 4) hB1
      have c1_13 : w1.cell? ⟨w.heap.size + 1, 5, none⟩ = some (.int .i64 x5) := keep_cell (box1 w 37 #[.int .i64 job, .int .i64 x1, .int .i64 x2, .int .i64 x3, .int .i64 x4, .int .i64 x5, .int .i64 x6, .bool t1, .bool t2, .bool t3, .int .u8 ph, .int .i64 tt, .int .i64 si] 5) hB1
      have c1_14 : w1.cell? ⟨w.heap.size + 1, 6, none⟩ = some (.int .i64 x6) := keep_cell (box1 w 37 #[.int .i64 job, .int .i64 x1, .int .i64 x2, .int .i64 x3, .int .i64 x4, .int .i64 x5, .int .i64 x6, .bool t1, .bool t2, .bool t3, .int .u8 ph, .int .i64 tt, .int .i64 si] 6) hB1
      have c1_15 : w1.cell? ⟨w.heap.size + 1, 7, none⟩ = some (.bool t1) := keep_cell (box1 w 37 #[.int .i64 job, .int .i64 x1, .int .i64 x2, .int .i64 x3, .int .i64 x4, .int .i64 x5, .int .i64 x6, .bool t1, .bool t2, .bool t3, .int .u8 ph, .int .i64 tt, .int .i64 si] 7) hB1
      have c1_16 : w1.cell? ⟨w.heap.size + 1, 8, none⟩ = some (.bool t2) := keep_cell (box1 w 37 #[.int .i64 job, .int .i64 x1, .int .i64 x2, .int .i64 x3, .int .i64 x4, .int .i64 x5, .int .i64 x6, .bool t1, .bool t2, .bool t3, .int .u8 ph, .int .i64 tt, .int .i64 si] 8) hB1
      have c1_17 : w1.cell? ⟨w.heap.size + 1, 9, none⟩ = some (.bool t3) := keep_cell (box1 w 37 #[.int .i64 job, .int .i64 x1, .int .i64 x2, .int .i64 x3, .int .i64 x4, .int .i64 x5, .int .i64 x6, .bool t1, .bool t2, .bool t3, .int .u8 ph, .int .i64 tt, .int .i64 si] 9) hB1
      have c1_18 : w1.cell? ⟨w.heap.size + 1, 10, none⟩ = some (.int .u8 ph) := keep_cell (box1 w 37 #[.int .i64 job, .int .i64 x1, .int .i64 x2, .int .i64 x3, .int .i64 x4, .int .i64 x5, .int .i64 x6, .bool t1, .bool t2, .bool t3, .int .u8 ph, .int .i64 tt, .int .i64 si] 10) hB1
      have c1_19 : w1.cell? ⟨w.heap.size + 1, 11, none⟩ = some (.int .i64 tt) := keep_cell (box1 w 37 #[.int .i64 job, .int .i64 x1, .int .i64 x2, .int .i64 x3, .int .i64 x4, .int .i64 x5, .int .i64 x6, .bool t1, .bool t2, .bool t3, .int .u8 ph, .int .i64 tt, .int .i64 si] 11) hB1
      have c1_20 : w1.cell? ⟨w.heap.size + 1, 12, none⟩ = some (.int .i64 si) := keep_cell (box1 w 37 #[.int .i64 job, .int .i64 x1, .int .i64 x2, .int .i64 x3, .int .i64 x4, .int .i64 x5, .int .i64 x6, .bool t1, .bool t2, .bool t3, .int .u8 ph, .int .i64 tt, .int .i64 si] 12) hB1
      have z1_0 : w.heap.size < w1.heap.size := cell_lt c1_0
      have z1_1 : w.heap.size + 1 < w1.heap.size := cell_lt c1_8
      clear hB1  
      go_wp2_with fail
      refine (HEh.out _ (HKK.out.up HB1.out)).mono ?_
      rintro e w2 ⟨rfl, hB2⟩
      have HB2 : Hid (Below w.heap.size w w2) := below_up HB1.out hB2
      have c2_0 : w2.cell? ⟨w.heap.size, 0, none⟩ = some (.int .i64 a) := keep_cell c1_0 hB2
      have c2_1 : w2.cell? ⟨w.heap.size, 1, none⟩ = some (.int .i64 b) := keep_cell c1_1 hB2
      have c2_2 : w2.cell? ⟨w.heap.size, 2, none⟩ = some (.int .i64 c) := keep_cell c1_2 hB2
      have c2_3 : w2.cell? ⟨w.heap.size, 3, none⟩ = some (.int .i64 bo) := keep_cell c1_3 hB2
      have c2_4 : w2.cell? ⟨w.heap.size, 4, none⟩ = some (.int .i64 fr) := keep_cell c1_4 hB2
      have c2_5 : w2.cell? ⟨w.heap.size, 5, none⟩ = some (.int .i64 tr) := keep_cell c1_5 hB2
      have c2_6 : w2.cell? ⟨w.heap.size, 6, none⟩ = some (.int .i64 ag) := keep_cell c1_6 hB2
      have c2_7 : w2.cell? ⟨w.heap.size, 7, none⟩ = some (.slice X ks.length cp) := keep_cell c1_7 hB2
      have c2_8 : w2.cell? ⟨w.heap.size + 1, 0, none⟩ = some (.int .i64 job) := keep_cell c1_8 hB2
      have c2_9 : w2.cell? ⟨w.heap.size + 1, 1, none⟩ = some (.int .i64 x1) := keep_cell c1_9 hB2
      have c2_10 : w2.cell? ⟨w.heap.size + 1, 2, none⟩ = some (.int .i64 x2) := keep_cell c1_10 hB2
      have c2_11 : w2.cell? ⟨w.heap.size + 1, 3, none⟩ = some (.int .i64 x3) := keep_cell c1_11 hB2
      have c2_12 : w2.cell? ⟨w.heap.size + 1, 4, none⟩ = some (.int .i64 x4) := keep_cell c1_12 hB2
      have c2_13 : w2.cell? ⟨w.heap.size + 1, 5, none⟩ = some (.int .i64 x5) := keep_cell c1_13 hB2
      have c2_14 : w2.cell? ⟨w.heap.size + 1, 6, none⟩ = some (.int .i64 x6) := keep_cell c1_14 hB2
      have c2_15 : w2.cell? ⟨w.heap.size + 1, 7, none⟩ = some (.bool t1) := keep_cell c1_15 hB2
      have c2_16 : w2.cell? ⟨w.heap.size + 1, 8, none⟩ = some (.bool t2) := keep_cell c1_16 hB2
      have c2_17 : w2.cell? ⟨w.heap.size + 1, 9, none⟩ = some (.bool t3) := keep_cell c1_17 hB2
      have c2_18 : w2.cell? ⟨w.heap.size + 1, 10, none⟩ = some (.int .u8 ph) := keep_cell c1_18 hB2
      have c2_19 : w2.cell? ⟨w.heap.size + 1, 11, none⟩ = some (.int .i64 tt) := keep_cell c1_19 hB2
      have c2_20 : w2.cell? ⟨w.heap.size + 1, 12, none⟩ = some (.int .i64 si) := keep_cell c1_20 hB2
      have z2_0 : w.heap.size < w2.heap.size := cell_lt c2_0
      have z2_1 : w.heap.size + 1 < w2.heap.size := cell_lt c2_8
      clear hB2 c1_0 c1_1 c1_2 c1_3 c1_4 c1_5 c1_6 c1_7 c1_8 c1_9 c1_10 c1_11 c1_12 c1_13 c1_14 c1_15 c1_16 c1_17 c1_18 c1_19 c1_20 z1_0 z1_1
      go_wp2_with fail
      go_ret
      exact ⟨rfl, HB2.out⟩
    · by_cases h0 : ee = 0
      · have h1 : (ph != 1) = true := by simpa using h
        subst h0
        go_enter Try.func8, Try.ntmps8
        go_wp2_with fail
        refine (alive_any _).mono ?_
        rintro e w1 ⟨rfl, hB1⟩
        have HB1 : Hid (Below w.heap.size w w1) := below_up (below_alloc (below_alloc (Below.refl _ _))) hB1
        have c1_0 : w1.cell? ⟨w.heap.size, 0, none⟩ = some (.int .i64 a) := keep_cell (cell_over _ (box0 w 26 #[.int .i64 a, .int .i64 b, .int .i64 c, .int .i64 bo, .int .i64 fr, .int .i64 tr, .int .i64 ag, .slice X ks.length cp] 0)) hB1
        have c1_1 : w1.cell? ⟨w.heap.size, 1, none⟩ = some (.int .i64 b) := keep_cell (cell_over _ (box0 w 26 #[.int .i64 a, .int .i64 b, .int .i64 c, .int .i64 bo, .int .i64 fr, .int .i64 tr, .int .i64 ag, .slice X ks.length cp] 1)) hB1
        have c1_2 : w1.cell? ⟨w.heap.size, 2, none⟩ = some (.int .i64 c) := keep_cell (cell_over _ (box0 w 26 #[.int .i64 a, .int .i64 b, .int .i64 c, .int .i64 bo, .int .i64 fr, .int .i64 tr, .int .i64 ag, .slice X ks.length cp] 2)) hB1
        have c1_3 : w1.cell? ⟨w.heap.size, 3, none⟩ = some (.int .i64 bo) := keep_cell (cell_over _ (box0 w 26 #[.int .i64 a, .int .i64 b, .int .i64 c, .int .i64 bo, .int .i64 fr, .int .i64 tr, .int .i64 ag, .slice X ks.length cp] 3)) hB1
        have c1_4 : w1.cell? ⟨w.heap.size, 4, none⟩ = some (.int .i64 fr) := keep_cell (cell_over _ (box0 w 26 #[.int .i64 a, .int .i64 b, .int .i64 c, .int .i64 bo, .int .i64 fr, .int .i64 tr, .int .i64 ag, .slice X ks.length cp] 4)) hB1
        have c1_5 : w1.cell? ⟨w.heap.size, 5, none⟩ = some (.int .i64 tr) := keep_cell (cell_over _ (box0 w 26 #[.int .i64 a, .int .i64 b, .int .i64 c, .int .i64 bo, .int .i64 fr, .int .i64 tr, .int .i64 ag, .slice X ks.length cp] 5)) hB1
        have c1_6 : w1.cell? ⟨w.heap.size, 6, none⟩ = some (.int .i64 ag) := keep_cell (cell_over _ (box0 w 26 #[.int .i64 a, .int .i64 b, .int .i64 c, .int .i64 bo, .int .i64 fr, .int .i64 tr, .int .i64 ag, .slice X ks.length cp] 6)) hB1
        have c1_7 : w1.cell? ⟨w.heap.size, 7, none⟩ = some (.slice X ks.length cp) := keep_cell (cell_over _ (box0 w 26 #[.int .i64 a, .int .i64 b, .int .i64 c, .int .i64 bo, .int .i64 fr, .int .i64 tr, .int .i64 ag, .slice X ks.length cp] 7)) hB1
        have c1_8 : w1.cell? ⟨w.heap.size + 1, 0, none⟩ = some (.int .i64 job) := keep_cell (box1 w 37 #[.int .i64 job, .int .i64 x1, .int .i64 x2, .int .i64 x3, .int .i64 x4, .int .i64 x5, .int .i64 x6, .bool t1, .bool t2, .bool t3, .int .u8 ph, .int .i64 tt, .int .i64 si] 0) hB1
        have c1_9 : w1.cell? ⟨w.heap.size + 1, 1, none⟩ = some (.int .i64 x1) := keep_cell (box1 w 37 #[.int .i64 job, .int .i64 x1, .int .i64 x2, .int .i64 x3, .int .i64 x4, .int .i64 x5, .int .i64 x6, .bool t1, .bool t2, .bool t3, .int .u8 ph, .int .i64 tt, .int .i64 si] 1) hB1
        have c1_10 : w1.cell? ⟨w.heap.size + 1, 2, none⟩ = some (.int .i64 x2) := keep_cell (box1 w 37 #[.int .i64 job, .int .i64 x1, .int .i64 x2, .int .i64 x3, .int .i64 x4, .int .i64 x5, .int .i64 x6, .bool t1, .bool t2, .bool t3, .int .u8 ph, .int .i64 tt, .int .i64 si] 2) hB1
        have c1_11 : w1.cell? ⟨w.heap.size + 1, 3, none⟩ = some (.int .i64 x3) := keep_cell (box1 w 37 #[.int .i64 job, .int .i64 x1, .int .i64 x2, .int .i64 x3, .int .i64 x4, .int .i64 x5, .int .i64 x6, .bool t1, .bool t2, .bool t3, .int .u8 ph, .int .i64 tt, .int .i64 si] 3) hB1
        have c1_12 : w1.cell? ⟨w.heap.size + 1, 4, none⟩ = some (.int .i64 x4) := keep_cell (box1 w 37 #[.int .i64 job, .int .i64 x1, .int .i64 x2, .int .i64 x3, .int .i64 x4, .int .i64 x5, .int .i64 x6, .bool t1, .bool t2, .bool t3, .int .u8 ph, .int .i64 tt, .int .i64 si] 4) hB1
        have c1_13 : w1.cell? ⟨w.heap.size + 1, 5, none⟩ = some (.int .i64 x5) := keep_cell (box1 w 37 #[.int .i64 job, .int .i64 x1, .int .i64 x2, .int .i64 x3, .int .i64 x4, .int .i64 x5, .int .i64 x6, .bool t1, .bool t2, .bool t3, .int .u8 ph, .int .i64 tt, .int .i64 si] 5) hB1
        have c1_14 : w1.cell? ⟨w.heap.size + 1, 6, none⟩ = some (.int .i64 x6) := keep_cell (box1 w 37 #[.int .i64 job, .int .i64 x1, .int .i64 x2, .int .i64 x3, .int .i64 x4, .int .i64 x5, .int .i64 x6, .bool t1, .bool t2, .bool t3, .int .u8 ph, .int .i64 tt, .int .i64 si] 6) hB1
        have c1_15 : w1.cell? ⟨w.heap.size + 1, 7, none⟩ = some (.bool t1) := keep_cell (box1 w 37 #[.int .i64 job, .int .i64 x1, .int .i64 x2, .int .i64 x3, .int .i64 x4, .int .i64 x5, .int .i64 x6, .bool t1, .bool t2, .bool t3, .int .u8 ph, .int .i64 tt, .int .i64 si] 7) hB1
        have c1_16 : w1.cell? ⟨w.heap.size + 1, 8, none⟩ = some (.bool t2) := keep_cell (box1 w 37 #[.int .i64 job, .int .i64 x1, .int .i64 x2, .int .i64 x3, .int .i64 x4, .int .i64 x5, .int .i64 x6, .bool t1, .bool t2, .bool t3, .int .u8 ph, .int .i64 tt, .int .i64 si] 8) hB1
        have c1_17 : w1.cell? ⟨w.heap.size + 1, 9, none⟩ = some (.bool t3) := keep_cell (box1 w 37 #[.int .i64 job, .int .i64 x1, .int .i64 x2, .int .i64 x3, .int .i64 x4, .int .i64 x5, .int .i64 x6, .bool t1, .bool t2, .bool t3, .int .u8 ph, .int .i64 tt, .int .i64 si] 9) hB1
        have c1_18 : w1.cell? ⟨w.heap.size + 1, 10, none⟩ = some (.int .u8 ph) := keep_cell (box1 w 37 #[.int .i64 job, .int .i64 x1, .int .i64 x2, .int .i64 x3, .int .i64 x4, .int .i64 x5, .int .i64 x6, .bool t1, .bool t2, .bool t3, .int .u8 ph, .int .i64 tt, .int .i64 si] 10) hB1
        have c1_19 : w1.cell? ⟨w.heap.size + 1, 11, none⟩ = some (.int .i64 tt) := keep_cell (box1 w 37 #[.int .i64 job, .int .i64 x1, .int .i64 x2, .int .i64 x3, .int .i64 x4, .int .i64 x5, .int .i64 x6, .bool t1, .bool t2, .bool t3, .int .u8 ph, .int .i64 tt, .int .i64 si] 11) hB1
        have c1_20 : w1.cell? ⟨w.heap.size + 1, 12, none⟩ = some (.int .i64 si) := keep_cell (box1 w 37 #[.int .i64 job, .int .i64 x1, .int .i64 x2, .int .i64 x3, .int .i64 x4, .int .i64 x5, .int .i64 x6, .bool t1, .bool t2, .bool t3, .int .u8 ph, .int .i64 tt, .int .i64 si] 12) hB1
        have z1_0 : w.heap.size < w1.heap.size := cell_lt c1_0
        have z1_1 : w.heap.size + 1 < w1.heap.size := cell_lt c1_8
        clear hB1  
        go_wp2_with fail
        refine (HEh.out _ (HKK.out.up HB1.out)).mono ?_
        rintro e w2 ⟨rfl, hB2⟩
        have HB2 : Hid (Below w.heap.size w w2) := below_up HB1.out hB2
        have c2_0 : w2.cell? ⟨w.heap.size, 0, none⟩ = some (.int .i64 a) := keep_cell c1_0 hB2
        have c2_1 : w2.cell? ⟨w.heap.size, 1, none⟩ = some (.int .i64 b) := keep_cell c1_1 hB2
        have c2_2 : w2.cell? ⟨w.heap.size, 2, none⟩ = some (.int .i64 c) := keep_cell c1_2 hB2
        have c2_3 : w2.cell? ⟨w.heap.size, 3, none⟩ = some (.int .i64 bo) := keep_cell c1_3 hB2
        have c2_4 : w2.cell? ⟨w.heap.size, 4, none⟩ = some (.int .i64 fr) := keep_cell c1_4 hB2
        have c2_5 : w2.cell? ⟨w.heap.size, 5, none⟩ = some (.int .i64 tr) := keep_cell c1_5 hB2
        have c2_6 : w2.cell? ⟨w.heap.size, 6, none⟩ = some (.int .i64 ag) := keep_cell c1_6 hB2
        have c2_7 : w2.cell? ⟨w.heap.size, 7, none⟩ = some (.slice X ks.length cp) := keep_cell c1_7 hB2
        have c2_8 : w2.cell? ⟨w.heap.size + 1, 0, none⟩ = some (.int .i64 job) := keep_cell c1_8 hB2
        have c2_9 : w2.cell? ⟨w.heap.size + 1, 1, none⟩ = some (.int .i64 x1) := keep_cell c1_9 hB2
        have c2_10 : w2.cell? ⟨w.heap.size + 1, 2, none⟩ = some (.int .i64 x2) := keep_cell c1_10 hB2
        have c2_11 : w2.cell? ⟨w.heap.size + 1, 3, none⟩ = some (.int .i64 x3) := keep_cell c1_11 hB2
        have c2_12 : w2.cell? ⟨w.heap.size + 1, 4, none⟩ = some (.int .i64 x4) := keep_cell c1_12 hB2
        have c2_13 : w2.cell? ⟨w.heap.size + 1, 5, none⟩ = some (.int .i64 x5) := keep_cell c1_13 hB2
        have c2_14 : w2.cell? ⟨w.heap.size + 1, 6, none⟩ = some (.int .i64 x6) := keep_cell c1_14 hB2
        have c2_15 : w2.cell? ⟨w.heap.size + 1, 7, none⟩ = some (.bool t1) := keep_cell c1_15 hB2
        have c2_16 : w2.cell? ⟨w.heap.size + 1, 8, none⟩ = some (.bool t2) := keep_cell c1_16 hB2
        have c2_17 : w2.cell? ⟨w.heap.size + 1, 9, none⟩ = some (.bool t3) := keep_cell c1_17 hB2
        have c2_18 : w2.cell? ⟨w.heap.size + 1, 10, none⟩ = some (.int .u8 ph) := keep_cell c1_18 hB2
        have c2_19 : w2.cell? ⟨w.heap.size + 1, 11, none⟩ = some (.int .i64 tt) := keep_cell c1_19 hB2
        have c2_20 : w2.cell? ⟨w.heap.size + 1, 12, none⟩ = some (.int .i64 si) := keep_cell c1_20 hB2
        have z2_0 : w.heap.size < w2.heap.size := cell_lt c2_0
        have z2_1 : w.heap.size + 1 < w2.heap.size := cell_lt c2_8
        clear hB2 c1_0 c1_1 c1_2 c1_3 c1_4 c1_5 c1_6 c1_7 c1_8 c1_9 c1_10 c1_11 c1_12 c1_13 c1_14 c1_15 c1_16 c1_17 c1_18 c1_19 c1_20 z1_0 z1_1
        go_wp2_with fail
        go_ret
        exact ⟨rfl, HB2.out⟩
      · have h1 : (ee != 0) = true := by simpa using h0
        go_enter Try.func8, Try.ntmps8
        go_wp2_with fail
        refine (alive_any _).mono ?_
        rintro e w1 ⟨rfl, hB1⟩
        have HB1 : Hid (Below w.heap.size w w1) := below_up (below_alloc (below_alloc (Below.refl _ _))) hB1
        have c1_0 : w1.cell? ⟨w.heap.size, 0, none⟩ = some (.int .i64 a) := keep_cell (cell_over _ (box0 w 26 #[.int .i64 a, .int .i64 b, .int .i64 c, .int .i64 bo, .int .i64 fr, .int .i64 tr, .int .i64 ag, .slice X ks.length cp] 0)) hB1
        have c1_1 : w1.cell? ⟨w.heap.size, 1, none⟩ = some (.int .i64 b) := keep_cell (cell_over _ (box0 w 26 #[.int .i64 a, .int .i64 b, .int .i64 c, .int .i64 bo, .int .i64 fr, .int .i64 tr, .int .i64 ag, .slice X ks.length cp] 1)) hB1
        have c1_2 : w1.cell? ⟨w.heap.size, 2, none⟩ = some (.int .i64 c) := keep_cell (cell_over _ (box0 w 26 #[.int .i64 a, .int .i64 b, .int .i64 c, .int .i64 bo, .int .i64 fr, .int .i64 tr, .int .i64 ag, .slice X ks.length cp] 2)) hB1
        have c1_3 : w1.cell? ⟨w.heap.size, 3, none⟩ = some (.int .i64 bo) := keep_cell (cell_over _ (box0 w 26 #[.int .i64 a, .int .i64 b, .int .i64 c, .int .i64 bo, .int .i64 fr, .int .i64 tr, .int .i64 ag, .slice X ks.length cp] 3)) hB1
        have c1_4 : w1.cell? ⟨w.heap.size, 4, none⟩ = some (.int .i64 fr) := keep_cell (cell_over _ (box0 w 26 #[.int .i64 a, .int .i64 b, .int .i64 c, .int .i64 bo, .int .i64 fr, .int .i64 tr, .int .i64 ag, .slice X ks.length cp] 4)) hB1
        have c1_5 : w1.cell? ⟨w.heap.size, 5, none⟩ = some (.int .i64 tr) := keep_cell (cell_over _ (box0 w 26 #[.int .i64 a, .int .i64 b, .int .i64 c, .int .i64 bo, .int .i64 fr, .int .i64 tr, .int .i64 ag, .slice X ks.length cp] 5)) hB1
        have c1_6 : w1.cell? ⟨w.heap.size, 6, none⟩ = some (.int .i64 ag) := keep_cell (cell_over _ (box0 w 26 #[.int .i64 a, .int .i64 b, .int .i64 c, .int .i64 bo, .int .i64 fr, .int .i64 tr, .int .i64 ag, .slice X ks.length cp] 6)) hB1
        have c1_7 : w1.cell? ⟨w.heap.size, 7, none⟩ = some (.slice X ks.length cp) := keep_cell (cell_over _ (box0 w 26 #[.int .i64 a, .int .i64 b, .int .i64 c, .int .i64 bo, .int .i64 fr, .int .i64 tr, .int .i64 ag, .slice X ks.length cp] 7)) hB1
        have c1_8 : w1.cell? ⟨w.heap.size + 1, 0, none⟩ = some (.int .i64 job) := keep_cell (box1 w 37 #[.int .i64 job, .int .i64 x1, .int .i64 x2, .int .i64 x3, .int .i64 x4, .int .i64 x5, .int .i64 x6, .bool t1, .bool t2, .bool t3, .int .u8 ph, .int .i64 tt, .int .i64 si] 0) hB1
        have c1_9 : w1.cell? ⟨w.heap.size + 1, 1, none⟩ = some (.int .i64 x1) := keep_cell (box1 w 37 #[.int .i64 job, .int .i64 x1, .int .i64 x2, .int .i64 x3, .int .i64 x4, .int .i64 x5, .int .i64 x6, .bool t1, .bool t2, .bool t3, .int .u8 ph, .int .i64 tt, .int .i64 si] 1) hB1
        have c1_10 : w1.cell? ⟨w.heap.size + 1, 2, none⟩ = some (.int .i64 x2) := keep_cell (box1 w 37 #[.int .i64 job, .int .i64 x1, .int .i64 x2, .int .i64 x3, .int .i64 x4, .int .i64 x5, .int .i64 x6, .bool t1, .bool t2, .bool t3, .int .u8 ph, .int .i64 tt, .int .i64 si] 2) hB1
        have c1_11 : w1.cell? ⟨w.heap.size + 1, 3, none⟩ = some (.int .i64 x3) := keep_cell (box1 w 37 #[.int .i64 job, .int .i64 x1, .int .i64 x2, .int .i64 x3, .int .i64 x4, .int .i64 x5, .int .i64 x6, .bool t1, .bool t2, .bool t3, .int .u8 ph, .int .i64 tt, .int .i64 si] 3) hB1
        have c1_12 : w1.cell? ⟨w.heap.size + 1, 4, none⟩ = some (.int .i64 x4) := keep_cell (box1 w 37 #[.int .i64 job, .int .i64 x1, .int .i64 x2, .int .i64 x3, .int .i64 x4, .int .i64 x5, .int .i64 x6, .bool t1, .bool t2, .bool t3, .int .u8 ph, .int .i64 tt, .int .i64 si] 4) hB1
        have c1_13 : w1.cell? ⟨w.heap.size + 1, 5, none⟩ = some (.int .i64 x5) := keep_cell (box1 w 37 #[.int .i64 job, .int .i64 x1, .int .i64 x2, .int .i64 x3, .int .i64 x4, .int .i64 x5, .int .i64 x6, .bool t1, .bool t2, .bool t3, .int .u8 ph, .int .i64 tt, .int .i64 si] 5) hB1
        have c1_14 : w1.cell? ⟨w.heap.size + 1, 6, none⟩ = some (.int .i64 x6) := keep_cell (box1 w 37 #[.int .i64 job, .int .i64 x1, .int .i64 x2, .int .i64 x3, .int .i64 x4, .int .i64 x5, .int .i64 x6, .bool t1, .bool t2, .bool t3, .int .u8 ph, .int .i64 tt, .int .i64 si] 6) hB1
        have c1_15 : w1.cell? ⟨w.heap.size + 1, 7, none⟩ = some (.bool t1) := keep_cell (box1 w 37 #[.int .i64 job, .int .i64 x1, .int .i64 x2, .int .i64 x3, .int .i64 x4, .int .i64 x5, .int .i64 x6, .bool t1, .bool t2, .bool t3, .int .u8 ph, .int .i64 tt, .int .i64 si] 7) hB1
        have c1_16 : w1.cell? ⟨w.heap.size + 1, 8, none⟩ = some (.bool t2) := keep_cell (box1 w 37 #[.int .i64 job, .int .i64 x1, .int .i64 x2, .int .i64 x3, .int .i64 x4, .int .i64 x5, .int .i64 x6, .bool t1, .bool t2, .bool t3, .int .u8 ph, .int .i64 tt, .int .i64 si] 8) hB1
        have c1_17 : w1.cell? ⟨w.heap.size + 1, 9, none⟩ = some (.bool t3) := keep_cell (box1 w 37 #[.int .i64 job, .int .i64 x1, .int .i64 x2, .int .i64 x3, .int .i64 x4, .int .i64 x5, .int .i64 x6, .bool t1, .bool t2, .bool t3, .int .u8 ph, .int .i64 tt, .int .i64 si] 9) hB1
        have c1_18 : w1.cell? ⟨w.heap.size + 1, 10, none⟩ = some (.int .u8 ph) := keep_cell (box1 w 37 #[.int .i64 job, .int .i64 x1, .int .i64 x2, .int .i64 x3, .int .i64 x4, .int .i64 x5, .int .i64 x6, .bool t1, .bool t2, .bool t3, .int .u8 ph, .int .i64 tt, .int .i64 si] 10) hB1
        have c1_19 : w1.cell? ⟨w.heap.size + 1, 11, none⟩ = some (.int .i64 tt) := keep_cell (box1 w 37 #[.int .i64 job, .int .i64 x1, .int .i64 x2, .int .i64 x3, .int .i64 x4, .int .i64 x5, .int .i64 x6, .bool t1, .bool t2, .bool t3, .int .u8 ph, .int .i64 tt, .int .i64 si] 11) hB1
        have c1_20 : w1.cell? ⟨w.heap.size + 1, 12, none⟩ = some (.int .i64 si) := keep_cell (box1 w 37 #[.int .i64 job, .int .i64 x1, .int .i64 x2, .int .i64 x3, .int .i64 x4, .int .i64 x5, .int .i64 x6, .bool t1, .bool t2, .bool t3, .int .u8 ph, .int .i64 tt, .int .i64 si] 12) hB1
        have z1_0 : w.heap.size < w1.heap.size := cell_lt c1_0
        have z1_1 : w.heap.size + 1 < w1.heap.size := cell_lt c1_8
        clear hB1  
        go_wp2_with fail
        refine (HEh.out _ (HKK.out.up HB1.out)).mono ?_
        rintro e w2 ⟨rfl, hB2⟩
        have HB2 : Hid (Below w.heap.size w w2) := below_up HB1.out hB2
        have c2_0 : w2.cell? ⟨w.heap.size, 0, none⟩ = some (.int .i64 a) := keep_cell c1_0 hB2
        have c2_1 : w2.cell? ⟨w.heap.size, 1, none⟩ = some (.int .i64 b) := keep_cell c1_1 hB2
        have c2_2 : w2.cell? ⟨w.heap.size, 2, none⟩ = some (.int .i64 c) := keep_cell c1_2 hB2
        have c2_3 : w2.cell? ⟨w.heap.size, 3, none⟩ = some (.int .i64 bo) := keep_cell c1_3 hB2
        have c2_4 : w2.cell? ⟨w.heap.size, 4, none⟩ = some (.int .i64 fr) := keep_cell c1_4 hB2
        have c2_5 : w2.cell? ⟨w.heap.size, 5, none⟩ = some (.int .i64 tr) := keep_cell c1_5 hB2
        have c2_6 : w2.cell? ⟨w.heap.size, 6, none⟩ = some (.int .i64 ag) := keep_cell c1_6 hB2
        have c2_7 : w2.cell? ⟨w.heap.size, 7, none⟩ = some (.slice X ks.length cp) := keep_cell c1_7 hB2
        have c2_8 : w2.cell? ⟨w.heap.size + 1, 0, none⟩ = some (.int .i64 job) := keep_cell c1_8 hB2
        have c2_9 : w2.cell? ⟨w.heap.size + 1, 1, none⟩ = some (.int .i64 x1) := keep_cell c1_9 hB2
        have c2_10 : w2.cell? ⟨w.heap.size + 1, 2, none⟩ = some (.int .i64 x2) := keep_cell c1_10 hB2
        have c2_11 : w2.cell? ⟨w.heap.size + 1, 3, none⟩ = some (.int .i64 x3) := keep_cell c1_11 hB2
        have c2_12 : w2.cell? ⟨w.heap.size + 1, 4, none⟩ = some (.int .i64 x4) := keep_cell c1_12 hB2
        have c2_13 : w2.cell? ⟨w.heap.size + 1, 5, none⟩ = some (.int .i64 x5) := keep_cell c1_13 hB2
        have c2_14 : w2.cell? ⟨w.heap.size + 1, 6, none⟩ = some (.int .i64 x6) := keep_cell c1_14 hB2
        have c2_15 : w2.cell? ⟨w.heap.size + 1, 7, none⟩ = some (.bool t1) := keep_cell c1_15 hB2
        have c2_16 : w2.cell? ⟨w.heap.size + 1, 8, none⟩ = some (.bool t2) := keep_cell c1_16 hB2
        have c2_17 : w2.cell? ⟨w.heap.size + 1, 9, none⟩ = some (.bool t3) := keep_cell c1_17 hB2
        have c2_18 : w2.cell? ⟨w.heap.size + 1, 10, none⟩ = some (.int .u8 ph) := keep_cell c1_18 hB2
        have c2_19 : w2.cell? ⟨w.heap.size + 1, 11, none⟩ = some (.int .i64 tt) := keep_cell c1_19 hB2
        have c2_20 : w2.cell? ⟨w.heap.size + 1, 12, none⟩ = some (.int .i64 si) := keep_cell c1_20 hB2
        have z2_0 : w.heap.size < w2.heap.size := cell_lt c2_0
        have z2_1 : w.heap.size + 1 < w2.heap.size := cell_lt c2_8
        clear hB2 c1_0 c1_1 c1_2 c1_3 c1_4 c1_5 c1_6 c1_7 c1_8 c1_9 c1_10 c1_11 c1_12 c1_13 c1_14 c1_15 c1_16 c1_17 c1_18 c1_19 c1_20 z1_0 z1_1
        go_wp2_with fail
        go_ret
        exact ⟨rfl, HB2.out⟩
    · by_cases h0 : ee = 0
      · by_cases h2 : ph = 1
        · have h3 : (ph != 1) = false := by simpa using h2
          clear h2
          subst h0
          go_enter Try.func8, Try.ntmps8
          go_wp2_with fail
          refine (alive_any _).mono ?_
          rintro e w1 ⟨rfl, hB1⟩
          have HB1 : Hid (Below w.heap.size w w1) := below_up (below_alloc (below_alloc (Below.refl _ _))) hB1
          have c1_0 : w1.cell? ⟨w.heap.size, 0, none⟩ = some (.int .i64 a) := keep_cell (cell_over _ (box0 w 26 #[.int .i64 a, .int .i64 b, .int .i64 c, .int .i64 bo, .int .i64 fr, .int .i64 tr, .int .i64 ag, .slice X ks.length cp] 0)) hB1
          have c1_1 : w1.cell? ⟨w.heap.size, 1, none⟩ = some (.int .i64 b) := keep_cell (cell_over _ (box0 w 26 #[.int .i64 a, .int .i64 b, .int .i64 c, .int .i64 bo, .int .i64 fr, .int .i64 tr, .int .i64 ag, .slice X ks.length cp] 1)) hB1
          have c1_2 : w1.cell? ⟨w.heap.size, 2, none⟩ = some (.int .i64 c) := keep_cell (cell_over _ (box0 w 26 #[.int .i64 a, .int .i64 b, .int .i64 c, .int .i64 bo, .int .i64 fr, .int .i64 tr, .int .i64 ag, .slice X ks.length cp] 2)) hB1
          have c1_3 : w1.cell? ⟨w.heap.size, 3, none⟩ = some (.int .i64 bo) := keep_cell (cell_over _ (box0 w 26 #[.int .i64 a, .int .i64 b, .int .i64 c, .int .i64 bo, .int .i64 fr, .int .i64 tr, .int .i64 ag, .slice X ks.length cp] 3)) hB1
          have c1_4 : w1.cell? ⟨w.heap.size, 4, none⟩ = some (.int .i64 fr) := keep_cell (cell_over _ (box0 w 26 #[.int .i64 a, .int .i64 b, .int .i64 c, .int .i64 bo, .int .i64 fr, .int .i64 tr, .int .i64 ag, .slice X ks.length cp] 4)) hB1
          have c1_5 : w1.cell? ⟨w.heap.size, 5, none⟩ = some (.int .i64 tr) := keep_cell (cell_over _ (box0 w 26 #[.int .i64 a, .int .i64 b, .int .i64 c, .int .i64 bo, .int .i64 fr, .int .i64 tr, .int .i64 ag, .slice X ks.length cp] 5)) hB1
          have c1_6 : w1.cell? ⟨w.heap.size, 6, none⟩ = some (.int .i64 ag) := keep_cell (cell_over _ (box0 w 26 #[.int .i64 a, .int .i64 b, .int .i64 c, .int .i64 bo, .int .i64 fr, .int .i64 tr, .int .i64 ag, .slice X ks.length cp] 6)) hB1
          have c1_7 : w1.cell? ⟨w.heap.size, 7, none⟩ = some (.slice X ks.length cp) := keep_cell (cell_over _ (box0 w 26 #[.int .i64 a, .int .i64 b, .int .i64 c, .int .i64 bo, .int .i64 fr, .int .i64 tr, .int .i64 ag, .slice X ks.length cp] 7)) hB1
          have c1_8 : w1.cell? ⟨w.heap.size + 1, 0, none⟩ = some (.int .i64 job) := keep_cell (box1 w 37 #[.int .i64 job, .int .i64 x1, .int .i64 x2, .int .i64 x3, .int .i64 x4, .int .i64 x5, .int .i64 x6, .bool t1, .bool t2, .bool t3, .int .u8 ph, .int .i64 tt, .int .i64 si] 0) hB1
          have c1_9 : w1.cell? ⟨w.heap.size + 1, 1, none⟩ = some (.int .i64 x1) := keep_cell (box1 w 37 #[.int .i64 job, .int .i64 x1, .int .i64 x2, .int .i64 x3, .int .i64 x4, .int .i64 x5, .int .i64 x6, .bool t1, .bool t2, .bool t3, .int .u8 ph, .int .i64 tt, .int .i64 si] 1) hB1
          have c1_10 : w1.cell? ⟨w.heap.size + 1, 2, none⟩ = some (.int .i64 x2) := keep_cell (box1 w 37 #[.int .i64 job, .int .i64 x1, .int .i64 x2, .int .i64 x3, .int .i64 x4, .int .i64 x5, .int .i64 x6, .bool t1, .bool t2, .bool t3, .int .u8 ph, .int .i64 tt, .int .i64 si] 2) hB1
          have c1_11 : w1.cell? ⟨w.heap.size + 1, 3, none⟩ = some (.int .i64 x3) := keep_cell (box1 w 37 #[.int .i64 job, .int .i64 x1, .int .i64 x2, .int .i64 x3, .int .i64 x4, .int .i64 x5, .int .i64 x6, .bool t1, .bool t2, .bool t3, .int .u8 ph, .int .i64 tt, .int .i64 si] 3) hB1
          have c1_12 : w1.cell? ⟨w.heap.size + 1, 4, none⟩ = some (.int .i64 x4) := keep_cell (box1 w 37 #[.int .i64 job, .int .i64 x1, .int .i64 x2, .int .i64 x3, .int .i64 x4, .int .i64 x5, .int .i64 x6, .bool t1, .bool t2, .bool t3, .int .u8 ph, .int .i64 tt, .int .i64 si] 4) hB1
          have c1_13 : w1.cell? ⟨w.heap.size + 1, 5, none⟩ = some (.int .i64 x5) := keep_cell (box1 w 37 #[.int .i64 job, .int .i64 x1, .int .i64 x2, .int .i64 x3, .int .i64 x4, .int .i64 x5, .int .i64 x6, .bool t1, .bool t2, .bool t3, .int .u8 ph, .int .i64 tt, .int .i64 si] 5) hB1
          have c1_14 : w1.cell? ⟨w.heap.size + 1, 6, none⟩ = some (.int .i64 x6) := keep_cell (box1 w 37 #[.int .i64 job, .int .i64 x1, .int .i64 x2, .int .i64 x3, .int .i64 x4, .int .i64 x5, .int .i64 x6, .bool t1, .bool t2, .bool t3, .int .u8 ph, .int .i64 tt, .int .i64 si] 6) hB1
          have c1_15 : w1.cell? ⟨w.heap.size + 1, 7, none⟩ = some (.bool t1) := keep_cell (box1 w 37 #[.int .i64 job, .int .i64 x1, .int .i64 x2, .int .i64 x3, .int .i64 x4, .int .i64 x5, .int .i64 x6, .bool t1, .bool t2, .bool t3, .int .u8 ph, .int .i64 tt, .int .i64 si] 7) hB1
          have c1_16 : w1.cell? ⟨w.heap.size + 1, 8, none⟩ = some (.bool t2) := keep_cell (box1 w 37 #[.int .i64 job, .int .i64 x1, .int .i64 x2, .int .i64 x3, .int .i64 x4, .int .i64 x5, .int .i64 x6, .bool t1, .bool t2, .bool t3, .int .u8 ph, .int .i64 tt, .int .i64 si] 8) hB1
          have c1_17 : w1.cell? ⟨w.heap.size + 1, 9, none⟩ = some (.bool t3) := keep_cell (box1 w 37 #[.int .i64 job, .int .i64 x1, .int .i64 x2, .int .i64 x3, .int .i64 x4, .int .i64 x5, .int .i64 x6, .bool t1, .bool t2, .bool t3, .int .u8 ph, .int .i64 tt, .int .i64 si] 9) hB1
          have c1_18 : w1.cell? ⟨w.heap.size + 1, 10, none⟩ = some (.int .u8 ph) := keep_cell (box1 w 37 #[.int .i64 job, .int .i64 x1, .int .i64 x2, .int .i64 x3, .int .i64 x4, .int .i64 x5, .int .i64 x6, .bool t1, .bool t2, .bool t3, .int .u8 ph, .int .i64 tt, .int .i64 si] 10) hB1
          have c1_19 : w1.cell? ⟨w.heap.size + 1, 11, none⟩ = some (.int .i64 tt) := keep_cell (box1 w 37 #[.int .i64 job, .int .i64 x1, .int .i64 x2, .int .i64 x3, .int .i64 x4, .int .i64 x5, .int .i64 x6, .bool t1, .bool t2, .bool t3, .int .u8 ph, .int .i64 tt, .int .i64 si] 11) hB1
          have c1_20 : w1.cell? ⟨w.heap.size + 1, 12, none⟩ = some (.int .i64 si) := keep_cell (box1 w 37 #[.int .i64 job, .int .i64 x1, .int .i64 x2, .int .i64 x3, .int .i64 x4, .int .i64 x5, .int .i64 x6, .bool t1, .bool t2, .bool t3, .int .u8 ph, .int .i64 tt, .int .i64 si] 12) hB1
          have z1_0 : w.heap.size < w1.heap.size := cell_lt c1_0
          have z1_1 : w.heap.size + 1 < w1.heap.size := cell_lt c1_8
          clear hB1  
          go_wp2_with fail
          refine (HEh.out _ (HKK.out.up HB1.out)).mono ?_
          rintro e w2 ⟨rfl, hB2⟩
          have HB2 : Hid (Below w.heap.size w w2) := below_up HB1.out hB2
          have c2_0 : w2.cell? ⟨w.heap.size, 0, none⟩ = some (.int .i64 a) := keep_cell c1_0 hB2
          have c2_1 : w2.cell? ⟨w.heap.size, 1, none⟩ = some (.int .i64 b) := keep_cell c1_1 hB2
          have c2_2 : w2.cell? ⟨w.heap.size, 2, none⟩ = some (.int .i64 c) := keep_cell c1_2 hB2
          have c2_3 : w2.cell? ⟨w.heap.size, 3, none⟩ = some (.int .i64 bo) := keep_cell c1_3 hB2
          have c2_4 : w2.cell? ⟨w.heap.size, 4, none⟩ = some (.int .i64 fr) := keep_cell c1_4 hB2
          have c2_5 : w2.cell? ⟨w.heap.size, 5, none⟩ = some (.int .i64 tr) := keep_cell c1_5 hB2
          have c2_6 : w2.cell? ⟨w.heap.size, 6, none⟩ = some (.int .i64 ag) := keep_cell c1_6 hB2
          have c2_7 : w2.cell? ⟨w.heap.size, 7, none⟩ = some (.slice X ks.length cp) := keep_cell c1_7 hB2
          have c2_8 : w2.cell? ⟨w.heap.size + 1, 0, none⟩ = some (.int .i64 job) := keep_cell c1_8 hB2
          have c2_9 : w2.cell? ⟨w.heap.size + 1, 1, none⟩ = some (.int .i64 x1) := keep_cell c1_9 hB2
          have c2_10 : w2.cell? ⟨w.heap.size + 1, 2, none⟩ = some (.int .i64 x2) := keep_cell c1_10 hB2
          have c2_11 : w2.cell? ⟨w.heap.size + 1, 3, none⟩ = some (.int .i64 x3) := keep_cell c1_11 hB2
          have c2_12 : w2.cell? ⟨w.heap.size + 1, 4, none⟩ = some (.int .i64 x4) := keep_cell c1_12 hB2
          have c2_13 : w2.cell? ⟨w.heap.size + 1, 5, none⟩ = some (.int .i64 x5) := keep_cell c1_13 hB2
          have c2_14 : w2.cell? ⟨w.heap.size + 1, 6, none⟩ = some (.int .i64 x6) := keep_cell c1_14 hB2
          have c2_15 : w2.cell? ⟨w.heap.size + 1, 7, none⟩ = some (.bool t1) := keep_cell c1_15 hB2
          have c2_16 : w2.cell? ⟨w.heap.size + 1, 8, none⟩ = some (.bool t2) := keep_cell c1_16 hB2
          have c2_17 : w2.cell? ⟨w.heap.size + 1, 9, none⟩ = some (.bool t3) := keep_cell c1_17 hB2
          have c2_18 : w2.cell? ⟨w.heap.size + 1, 10, none⟩ = some (.int .u8 ph) := keep_cell c1_18 hB2
          have c2_19 : w2.cell? ⟨w.heap.size + 1, 11, none⟩ = some (.int .i64 tt) := keep_cell c1_19 hB2
          have c2_20 : w2.cell? ⟨w.heap.size + 1, 12, none⟩ = some (.int .i64 si) := keep_cell c1_20 hB2
          have z2_0 : w.heap.size < w2.heap.size := cell_lt c2_0
          have z2_1 : w.heap.size + 1 < w2.heap.size := cell_lt c2_8
          clear hB2 c1_0 c1_1 c1_2 c1_3 c1_4 c1_5 c1_6 c1_7 c1_8 c1_9 c1_10 c1_11 c1_12 c1_13 c1_14 c1_15 c1_16 c1_17 c1_18 c1_19 c1_20 z1_0 z1_1
          go_wp2_with fail
          go_ret
          exact ⟨rfl, HB2.out⟩
        · have h1 : (ph != 1) = true := by simpa using h2
          subst h0
          go_enter Try.func8, Try.ntmps8
          go_wp2_with fail
          refine (alive_any _).mono ?_
          rintro e w1 ⟨rfl, hB1⟩
          have HB1 : Hid (Below w.heap.size w w1) := below_up (below_alloc (below_alloc (Below.refl _ _))) hB1
          have c1_0 : w1.cell? ⟨w.heap.size, 0, none⟩ = some (.int .i64 a) := keep_cell (cell_over _ (box0 w 26 #[.int .i64 a, .int .i64 b, .int .i64 c, .int .i64 bo, .int .i64 fr, .int .i64 tr, .int .i64 ag, .slice X ks.length cp] 0)) hB1
          have c1_1 : w1.cell? ⟨w.heap.size, 1, none⟩ = some (.int .i64 b) := keep_cell (cell_over _ (box0 w 26 #[.int .i64 a, .int .i64 b, .int .i64 c, .int .i64 bo, .int .i64 fr, .int .i64 tr, .int .i64 ag, .slice X ks.length cp] 1)) hB1
          have c1_2 : w1.cell? ⟨w.heap.size, 2, none⟩ = some (.int .i64 c) := keep_cell (cell_over _ (box0 w 26 #[.int .i64 a, .int .i64 b, .int .i64 c, .int .i64 bo, .int .i64 fr, .int .i64 tr, .int .i64 ag, .slice X ks.length cp] 2)) hB1
          have c1_3 : w1.cell? ⟨w.heap.size, 3, none⟩ = some (.int .i64 bo) := keep_cell (cell_over _ (box0 w 26 #[.int .i64 a, .int .i64 b, .int .i64 c, .int .i64 bo, .int .i64 fr, .int .i64 tr, .int .i64 ag, .slice X ks.length cp] 3)) hB1
          have c1_4 : w1.cell? ⟨w.heap.size, 4, none⟩ = some (.int .i64 fr) := keep_cell (cell_over _ (box0 w 26 #[.int .i64 a, .int .i64 b, .int .i64 c, .int .i64 bo, .int .i64 fr, .int .i64 tr, .int .i64 ag, .slice X ks.length cp] 4)) hB1
          have c1_5 : w1.cell? ⟨w.heap.size, 5, none⟩ = some (.int .i64 tr) := keep_cell (cell_over _ (box0 w 26 #[.int .i64 a, .int .i64 b, .int .i64 c, .int .i64 bo, .int .i64 fr, .int .i64 tr, .int .i64 ag, .slice X ks.length cp] 5)) hB1
          have c1_6 : w1.cell? ⟨w.heap.size, 6, none⟩ = some (.int .i64 ag) := keep_cell (cell_over _ (box0 w 26 #[.int .i64 a, .int .i64 b, .int .i64 c, .int .i64 bo, .int .i64 fr, .int .i64 tr, .int .i64 ag, .slice X ks.length cp] 6)) hB1
          have c1_7 : w1.cell? ⟨w.heap.size, 7, none⟩ = some (.slice X ks.length cp) := keep_cell (cell_over _ (box0 w 26 #[.int .i64 a, .int .i64 b, .int .i64 c, .int .i64 bo, .int .i64 fr, .int .i64 tr, .int .i64 ag, .slice X ks.length cp] 7)) hB1
          have c1_8 : w1.cell? ⟨w.heap.size + 1, 0, none⟩ = some (.int .i64 job) := keep_cell (box1 w 37 #[.int .i64 job, .int .i64 x1, .int .i64 x2, .int .i64 x3, .int .i64 x4, .int .i64 x5, .int .i64 x6, .bool t1, .bool t2, .bool t3, .int .u8 ph, .int .i64 tt, .int .i64 si] 0) hB1
          have c1_9 : w1.cell? ⟨w.heap.size + 1, 1, none⟩ = some (.int .i64 x1) := keep_cell (box1 w 37 #[.int .i64 job, .int .i64 x1, .int .i64 x2, .int .i64 x3, .int .i64 x4, .int .i64 x5, .int .i64 x6, .bool t1, .bool t2, .bool t3, .int .u8 ph, .int .i64 tt, .int .i64 si] 1) hB1
          have c1_10 : w1.cell? ⟨w.heap.size + 1, 2, none⟩ = some (.int .i64 x2) := keep_cell (box1 w 37 #[.int .i64 job, .int .i64 x1, .int .i64 x2, .int .i64 x3, .int .i64 x4, .int .i64 x5, .int .i64 x6, .bool t1, .bool t2, .bool t3, .int .u8 ph, .int .i64 tt, .int .i64 si] 2) hB1
          have c1_11 : w1.cell? ⟨w.heap.size + 1, 3, none⟩ = some (.int .i64 x3) := keep_cell (box1 w 37 #[.int .i64 job, .int .i64 x1, .int .i64 x2, .int .i64 x3, .int .i64 x4, .int .i64 x5, .int .i64 x6, .bool t1, .bool t2, .bool t3, .int .u8 ph, .int .i64 tt, .int .i64 si] 3) hB1
          have c1_12 : w1.cell? ⟨w.heap.size + 1, 4, none⟩ = some (.int .i64 x4) := keep_cell (box1 w 37 #[.int .i64 job, .int .i64 x1, .int .i64 x2, .int .i64 x3, .int .i64 x4, .int .i64 x5, .int .i64 x6, .bool t1, .bool t2, .bool t3, .int .u8 ph, .int .i64 tt, .int .i64 si] 4) hB1
          have c1_13 : w1.cell? ⟨w.heap.size + 1, 5, none⟩ = some (.int .i64 x5) := keep_cell (box1 w 37 #[.int .i64 job, .int .i64 x1, .int .i64 x2, .int .i64 x3, .int .i64 x4, .int .i64 x5, .int .i64 x6, .bool t1, .bool t2, .bool t3, .int .u8 ph, .int .i64 tt, .int .i64 si] 5) hB1
          have c1_14 : w1.cell? ⟨w.heap.size + 1, 6, none⟩ = some (.int .i64 x6) := keep_cell (box1 w 37 #[.int .i64 job, .int .i64 x1, .int .i64 x2, .int .i64 x3, .int .i64 x4, .int .i64 x5, .int .i64 x6, .bool t1, .bool t2, .bool t3, .int .u8 ph, .int .i64 tt, .int .i64 si] 6) hB1
          have c1_15 : w1.cell? ⟨w.heap.size + 1, 7, none⟩ = some (.bool t1) := keep_cell (box1 w 37 #[.int .i64 job, .int .i64 x1, .int .i64 x2, .int .i64 x3, .int .i64 x4, .int .i64 x5, .int .i64 x6, .bool t1, .bool t2, .bool t3, .int .u8 ph, .int .i64 tt, .int .i64 si] 7) hB1
          have c1_16 : w1.cell? ⟨w.heap.size + 1, 8, none⟩ = some (.bool t2) := keep_cell (box1 w 37 #[.int .i64 job, .int .i64 x1, .int .i64 x2, .int .i64 x3, .int .i64 x4, .int .i64 x5, .int .i64 x6, .bool t1, .bool t2, .bool t3, .int .u8 ph, .int .i64 tt, .int .i64 si] 8) hB1
          have c1_17 : w1.cell? ⟨w.heap.size + 1, 9, none⟩ = some (.bool t3) := keep_cell (box1 w 37 #[.int .i64 job, .int .i64 x1, .int .i64 x2, .int .i64 x3, .int .i64 x4, .int .i64 x5, .int .i64 x6, .bool t1, .bool t2, .bool t3, .int .u8 ph, .int .i64 tt, .int .i64 si] 9) hB1
          have c1_18 : w1.cell? ⟨w.heap.size + 1, 10, none⟩ = some (.int .u8 ph) := keep_cell (box1 w 37 #[.int .i64 job, .int .i64 x1, .int .i64 x2, .int .i64 x3, .int .i64 x4, .int .i64 x5, .int .i64 x6, .bool t1, .bool t2, .bool t3, .int .u8 ph, .int .i64 tt, .int .i64 si] 10) hB1
          have c1_19 : w1.cell? ⟨w.heap.size + 1, 11, none⟩ = some (.int .i64 tt) := keep_cell (box1 w 37 #[.int .i64 job, .int .i64 x1, .int .i64 x2, .int .i64 x3, .int .i64 x4, .int .i64 x5, .int .i64 x6, .bool t1, .bool t2, .bool t3, .int .u8 ph, .int .i64 tt, .int .i64 si] 11) hB1
          have c1_20 : w1.cell? ⟨w.heap.size + 1, 12, none⟩ = some (.int .i64 si) := keep_cell (box1 w 37 #[.int .i64 job, .int .i64 x1, .int .i64 x2, .int .i64 x3, .int .i64 x4, .int .i64 x5, .int .i64 x6, .bool t1, .bool t2, .bool t3, .int .u8 ph, .int .i64 tt, .int .i64 si] 12) hB1
          have z1_0 : w.heap.size < w1.heap.size := cell_lt c1_0
          have z1_1 : w.heap.size + 1 < w1.heap.size := cell_lt c1_8
          clear hB1  
          go_wp2_with fail
          refine (HEh.out _ (HKK.out.up HB1.out)).mono ?_
          rintro e w2 ⟨rfl, hB2⟩
          have HB2 : Hid (Below w.heap.size w w2) := below_up HB1.out hB2
          have c2_0 : w2.cell? ⟨w.heap.size, 0, none⟩ = some (.int .i64 a) := keep_cell c1_0 hB2
          have c2_1 : w2.cell? ⟨w.heap.size, 1, none⟩ = some (.int .i64 b) := keep_cell c1_1 hB2
          have c2_2 : w2.cell? ⟨w.heap.size, 2, none⟩ = some (.int .i64 c) := keep_cell c1_2 hB2
          have c2_3 : w2.cell? ⟨w.heap.size, 3, none⟩ = some (.int .i64 bo) := keep_cell c1_3 hB2
          have c2_4 : w2.cell? ⟨w.heap.size, 4, none⟩ = some (.int .i64 fr) := keep_cell c1_4 hB2
          have c2_5 : w2.cell? ⟨w.heap.size, 5, none⟩ = some (.int .i64 tr) := keep_cell c1_5 hB2
          have c2_6 : w2.cell? ⟨w.heap.size, 6, none⟩ = some (.int .i64 ag) := keep_cell c1_6 hB2
          have c2_7 : w2.cell? ⟨w.heap.size, 7, none⟩ = some (.slice X ks.length cp) := keep_cell c1_7 hB2
          have c2_8 : w2.cell? ⟨w.heap.size + 1, 0, none⟩ = some (.int .i64 job) := keep_cell c1_8 hB2
          have c2_9 : w2.cell? ⟨w.heap.size + 1, 1, none⟩ = some (.int .i64 x1) := keep_cell c1_9 hB2
          have c2_10 : w2.cell? ⟨w.heap.size + 1, 2, none⟩ = some (.int .i64 x2) := keep_cell c1_10 hB2
          have c2_11 : w2.cell? ⟨w.heap.size + 1, 3, none⟩ = some (.int .i64 x3) := keep_cell c1_11 hB2
          have c2_12 : w2.cell? ⟨w.heap.size + 1, 4, none⟩ = some (.int .i64 x4) := keep_cell c1_12 hB2
          have c2_13 : w2.cell? ⟨w.heap.size + 1, 5, none⟩ = some (.int .i64 x5) := keep_cell c1_13 hB2
          have c2_14 : w2.cell? ⟨w.heap.size + 1, 6, none⟩ = some (.int .i64 x6) := keep_cell c1_14 hB2
          have c2_15 : w2.cell? ⟨w.heap.size + 1, 7, none⟩ = some (.bool t1) := keep_cell c1_15 hB2
          have c2_16 : w2.cell? ⟨w.heap.size + 1, 8, none⟩ = some (.bool t2) := keep_cell c1_16 hB2
          have c2_17 : w2.cell? ⟨w.heap.size + 1, 9, none⟩ = some (.bool t3) := keep_cell c1_17 hB2
          have c2_18 : w2.cell? ⟨w.heap.size + 1, 10, none⟩ = some (.int .u8 ph) := keep_cell c1_18 hB2
          have c2_19 : w2.cell? ⟨w.heap.size + 1, 11, none⟩ = some (.int .i64 tt) := keep_cell c1_19 hB2
          have c2_20 : w2.cell? ⟨w.heap.size + 1, 12, none⟩ = some (.int .i64 si) := keep_cell c1_20 hB2
          have z2_0 : w.heap.size < w2.heap.size := cell_lt c2_0
          have z2_1 : w.heap.size + 1 < w2.heap.size := cell_lt c2_8
          clear hB2 c1_0 c1_1 c1_2 c1_3 c1_4 c1_5 c1_6 c1_7 c1_8 c1_9 c1_10 c1_11 c1_12 c1_13 c1_14 c1_15 c1_16 c1_17 c1_18 c1_19 c1_20 z1_0 z1_1
          go_wp2_with fail
          go_ret
          exact ⟨rfl, HB2.out⟩
      · have h1 : (ee != 0) = true := by simpa using h0
        go_enter Try.func8, Try.ntmps8
        go_wp2_with fail
        refine (alive_any _).mono ?_
        rintro e w1 ⟨rfl, hB1⟩
        have HB1 : Hid (Below w.heap.size w w1) := below_up (below_alloc (below_alloc (Below.refl _ _))) hB1
        have c1_0 : w1.cell? ⟨w.heap.size, 0, none⟩ = some (.int .i64 a) := keep_cell (cell_over _ (box0 w 26 #[.int .i64 a, .int .i64 b, .int .i64 c, .int .i64 bo, .int .i64 fr, .int .i64 tr, .int .i64 ag, .slice X ks.length cp] 0)) hB1
        have c1_1 : w1.cell? ⟨w.heap.size, 1, none⟩ = some (.int .i64 b) := keep_cell (cell_over _ (box0 w 26 #[.int .i64 a, .int .i64 b, .int .i64 c, .int .i64 bo, .int .i64 fr, .int .i64 tr, .int .i64 ag, .slice X ks.length cp] 1)) hB1
        have c1_2 : w1.cell? ⟨w.heap.size, 2, none⟩ = some (.int .i64 c) := keep_cell (cell_over _ (box0 w 26 #[.int .i64 a, .int .i64 b, .int .i64 c, .int .i64 bo, .int .i64 fr, .int .i64 tr, .int .i64 ag, .slice X ks.length cp] 2)) hB1
        have c1_3 : w1.cell? ⟨w.heap.size, 3, none⟩ = some (.int .i64 bo) := keep_cell (cell_over _ (box0 w 26 #[.int .i64 a, .int .i64 b, .int .i64 c, .int .i64 bo, .int .i64 fr, .int .i64 tr, .int .i64 ag, .slice X ks.length cp] 3)) hB1
        have c1_4 : w1.cell? ⟨w.heap.size, 4, none⟩ = some (.int .i64 fr) := keep_cell (cell_over _ (box0 w 26 #[.int .i64 a, .int .i64 b, .int .i64 c, .int .i64 bo, .int .i64 fr, .int .i64 tr, .int .i64 ag, .slice X ks.length cp] 4)) hB1
        have c1_5 : w1.cell? ⟨w.heap.size, 5, none⟩ = some (.int .i64 tr) := keep_cell (cell_over _ (box0 w 26 #[.int .i64 a, .int .i64 b, .int .i64 c, .int .i64 bo, .int .i64 fr, .int .i64 tr, .int .i64 ag, .slice X ks.length cp] 5)) hB1
        have c1_6 : w1.cell? ⟨w.heap.size, 6, none⟩ = some (.int .i64 ag) := keep_cell (cell_over _ (box0 w 26 #[.int .i64 a, .int .i64 b, .int .i64 c, .int .i64 bo, .int .i64 fr, .int .i64 tr, .int .i64 ag, .slice X ks.length cp] 6)) hB1
        have c1_7 : w1.cell? ⟨w.heap.size, 7, none⟩ = some (.slice X ks.length cp) := keep_cell (cell_over _ (box0 w 26 #[.int .i64 a, .int .i64 b, .int .i64 c, .int .i64 bo, .int .i64 fr, .int .i64 tr, .int .i64 ag, .slice X ks.length cp] 7)) hB1
        have c1_8 : w1.cell? ⟨w.heap.size + 1, 0, none⟩ = some (.int .i64 job) := keep_cell (box1 w 37 #[.int .i64 job, .int .i64 x1, .int .i64 x2, .int .i64 x3, .int .i64 x4, .int .i64 x5, .int .i64 x6, .bool t1, .bool t2, .bool t3, .int .u8 ph, .int .i64 tt, .int .i64 si] 0) hB1
        have c1_9 : w1.cell? ⟨w.heap.size + 1, 1, none⟩ = some (.int .i64 x1) := keep_cell (box1 w 37 #[.int .i64 job, .int .i64 x1, .int .i64 x2, .int .i64 x3, .int .i64 x4, .int .i64 x5, .int .i64 x6, .bool t1, .bool t2, .bool t3, .int .u8 ph, .int .i64 tt, .int .i64 si] 1) hB1
        have c1_10 : w1.cell? ⟨w.heap.size + 1, 2, none⟩ = some (.int .i64 x2) := keep_cell (box1 w 37 #[.int .i64 job, .int .i64 x1, .int .i64 x2, .int .i64 x3, .int .i64 x4, .int .i64 x5, .int .i64 x6, .bool t1, .bool t2, .bool t3, .int .u8 ph, .int .i64 tt, .int .i64 si] 2) hB1
        have c1_11 : w1.cell? ⟨w.heap.size + 1, 3, none⟩ = some (.int .i64 x3) := keep_cell (box1 w 37 #[.int .i64 job, .int .i64 x1, .int .i64 x2, .int .i64 x3, .int .i64 x4, .int .i64 x5, .int .i64 x6, .bool t1, .bool t2, .bool t3, .int .u8 ph, .int .i64 tt, .int .i64 si] 3) hB1
        have c1_12 : w1.cell? ⟨w.heap.size + 1, 4, none⟩ = some (.int .i64 x4) := keep_cell (box1 w 37 #[.int .i64 job, .int .i64 x1, .int .i64 x2, .int .i64 x3, .int .i64 x4, .int .i64 x5, .int .i64 x6, .bool t1, .bool t2, .bool t3, .int .u8 ph, .int .i64 tt, .int .i64 si] 4) hB1
        have c1_13 : w1.cell? ⟨w.heap.size + 1, 5, none⟩ = some (.int .i64 x5) := keep_cell (box1 w 37 #[.int .i64 job, .int .i64 x1, .int .i64 x2, .int .i64 x3, .int .i64 x4, .int .i64 x5, .int .i64 x6, .bool t1, .bool t2, .bool t3, .int .u8 ph, .int .i64 tt, .int .i64 si] 5) hB1
        have c1_14 : w1.cell? ⟨w.heap.size + 1, 6, none⟩ = some (.int .i64 x6) := keep_cell (box1 w 37 #[.int .i64 job, .int .i64 x1, .int .i64 x2, .int .i64 x3, .int .i64 x4, .int .i64 x5, .int .i64 x6, .bool t1, .bool t2, .bool t3, .int .u8 ph, .int .i64 tt, .int .i64 si] 6) hB1
        have c1_15 : w1.cell? ⟨w.heap.size + 1, 7, none⟩ = some (.bool t1) := keep_cell (box1 w 37 #[.int .i64 job, .int .i64 x1, .int .i64 x2, .int .i64 x3, .int .i64 x4, .int .i64 x5, .int .i64 x6, .bool t1, .bool t2, .bool t3, .int .u8 ph, .int .i64 tt, .int .i64 si] 7) hB1
        have c1_16 : w1.cell? ⟨w.heap.size + 1, 8, none⟩ = some (.bool t2) := keep_cell (box1 w 37 #[.int .i64 job, .int .i64 x1, .int .i64 x2, .int .i64 x3, .int .i64 x4, .int .i64 x5, .int .i64 x6, .bool t1, .bool t2, .bool t3, .int .u8 ph, .int .i64 tt, .int .i64 si] 8) hB1
        have c1_17 : w1.cell? ⟨w.heap.size + 1, 9, none⟩ = some (.bool t3) := keep_cell (box1 w 37 #[.int .i64 job, .int .i64 x1, .int .i64 x2, .int .i64 x3, .int .i64 x4, .int .i64 x5, .int .i64 x6, .bool t1, .bool t2, .bool t3, .int .u8 ph, .int .i64 tt, .int .i64 si] 9) hB1
        have c1_18 : w1.cell? ⟨w.heap.size + 1, 10, none⟩ = some (.int .u8 ph) := keep_cell (box1 w 37 #[.int .i64 job, .int .i64 x1, .int .i64 x2, .int .i64 x3, .int .i64 x4, .int .i64 x5, .int .i64 x6, .bool t1, .bool t2, .bool t3, .int .u8 ph, .int .i64 tt, .int .i64 si] 10) hB1
        have c1_19 : w1.cell? ⟨w.heap.size + 1, 11, none⟩ = some (.int .i64 tt) := keep_cell (box1 w 37 #[.int .i64 job, .int .i64 x1, .int .i64 x2, .int .i64 x3, .int .i64 x4, .int .i64 x5, .int .i64 x6, .bool t1, .bool t2, .bool t3, .int .u8 ph, .int .i64 tt, .int .i64 si] 11) hB1
        have c1_20 : w1.cell? ⟨w.heap.size + 1, 12, none⟩ = some (.int .i64 si) := keep_cell (box1 w 37 #[.int .i64 job, .int .i64 x1, .int .i64 x2, .int .i64 x3, .int .i64 x4, .int .i64 x5, .int .i64 x6, .bool t1, .bool t2, .bool t3, .int .u8 ph, .int .i64 tt, .int .i64 si] 12) hB1
        have z1_0 : w.heap.size < w1.heap.size := cell_lt c1_0
        have z1_1 : w.heap.size + 1 < w1.heap.size := cell_lt c1_8
        clear hB1  
        go_wp2_with fail
        refine (HEh.out _ (HKK.out.up HB1.out)).mono ?_
        rintro e w2 ⟨rfl, hB2⟩
        have HB2 : Hid (Below w.heap.size w w2) := below_up HB1.out hB2
        have c2_0 : w2.cell? ⟨w.heap.size, 0, none⟩ = some (.int .i64 a) := keep_cell c1_0 hB2
        have c2_1 : w2.cell? ⟨w.heap.size, 1, none⟩ = some (.int .i64 b) := keep_cell c1_1 hB2
        have c2_2 : w2.cell? ⟨w.heap.size, 2, none⟩ = some (.int .i64 c) := keep_cell c1_2 hB2
        have c2_3 : w2.cell? ⟨w.heap.size, 3, none⟩ = some (.int .i64 bo) := keep_cell c1_3 hB2
        have c2_4 : w2.cell? ⟨w.heap.size, 4, none⟩ = some (.int .i64 fr) := keep_cell c1_4 hB2
        have c2_5 : w2.cell? ⟨w.heap.size, 5, none⟩ = some (.int .i64 tr) := keep_cell c1_5 hB2
        have c2_6 : w2.cell? ⟨w.heap.size, 6, none⟩ = some (.int .i64 ag) := keep_cell c1_6 hB2
        have c2_7 : w2.cell? ⟨w.heap.size, 7, none⟩ = some (.slice X ks.length cp) := keep_cell c1_7 hB2
        have c2_8 : w2.cell? ⟨w.heap.size + 1, 0, none⟩ = some (.int .i64 job) := keep_cell c1_8 hB2
        have c2_9 : w2.cell? ⟨w.heap.size + 1, 1, none⟩ = some (.int .i64 x1) := keep_cell c1_9 hB2
        have c2_10 : w2.cell? ⟨w.heap.size + 1, 2, none⟩ = some (.int .i64 x2) := keep_cell c1_10 hB2
        have c2_11 : w2.cell? ⟨w.heap.size + 1, 3, none⟩ = some (.int .i64 x3) := keep_cell c1_11 hB2
        have c2_12 : w2.cell? ⟨w.heap.size + 1, 4, none⟩ = some (.int .i64 x4) := keep_cell c1_12 hB2
        have c2_13 : w2.cell? ⟨w.heap.size + 1, 5, none⟩ = some (.int .i64 x5) := keep_cell c1_13 hB2
        have c2_14 : w2.cell? ⟨w.heap.size + 1, 6, none⟩ = some (.int .i64 x6) := keep_cell c1_14 hB2
        have c2_15 : w2.cell? ⟨w.heap.size + 1, 7, none⟩ = some (.bool t1) := keep_cell c1_15 hB2
        have c2_16 : w2.cell? ⟨w.heap.size + 1, 8, none⟩ = some (.bool t2) := keep_cell c1_16 hB2
        have c2_17 : w2.cell? ⟨w.heap.size + 1, 9, none⟩ = some (.bool t3) := keep_cell c1_17 hB2
        have c2_18 : w2.cell? ⟨w.heap.size + 1, 10, none⟩ = some (.int .u8 ph) := keep_cell c1_18 hB2
        have c2_19 : w2.cell? ⟨w.heap.size + 1, 11, none⟩ = some (.int .i64 tt) := keep_cell c1_19 hB2
        have c2_20 : w2.cell? ⟨w.heap.size + 1, 12, none⟩ = some (.int .i64 si) := keep_cell c1_20 hB2
        have z2_0 : w.heap.size < w2.heap.size := cell_lt c2_0
        have z2_1 : w.heap.size + 1 < w2.heap.size := cell_lt c2_8
        clear hB2 c1_0 c1_1 c1_2 c1_3 c1_4 c1_5 c1_6 c1_7 c1_8 c1_9 c1_10 c1_11 c1_12 c1_13 c1_14 c1_15 c1_16 c1_17 c1_18 c1_19 c1_20 z1_0 z1_1
        go_wp2_with fail
        go_ret
        exact ⟨rfl, HB2.out⟩
def chainP (job x1 x2 x3 x4 x5 x6 : Int) (t1 t2 t3 : Bool) (tt si s1 s2 : Int) (k : Nat) : Array Value := match k with | 0 => #[.int .i64 job, .int .i64 x1, .int .i64 x2, .int .i64 x3, .int .i64 x4, .int .i64 x5, .int .i64 x6, .bool t1, .bool t2, .bool t3, .int .u8 1, .int .i64 tt, .int .i64 si] | 1 => #[.int .i64 job, .int .i64 x1, .int .i64 x2, .int .i64 x3, .int .i64 x4, .int .i64 x5, .int .i64 x6, .bool t1, .bool t2, .bool t3, .int .u8 2, .int .i64 tt, .int .i64 s1] | _ => #[.int .i64 job, .int .i64 x1, .int .i64 x2, .int .i64 x3, .int .i64 x4, .int .i64 x5, .int .i64 x6, .bool t1, .bool t2, .bool t3, .int .u8 3, .int .i64 tt, .int .i64 s2]
set_option maxRecDepth 100000 in
set_option maxHeartbeats 8000000 in
theorem chain_main (a b c bo fr tr ag : Int) (X : Option Addr) (cp : Nat) (ks : List Cls) (hl : ks.length ≤ 9223372036854775807) (job x1 x2 x3 x4 x5 x6 : Int) (t1 t2 t3 : Bool) (tt si : Int) (wall s1 s2 s3 : Int) (hn : ¬ 100 < ks.length) (hs : s3 < 1099511627776) (hE : endsV a b c bo fr tr ag ks ⟨job, x1, x2, x3, x4, x5, x6, t1, t2, t3, 1, tt, si⟩ wall = (s3, 0)) (hT0 : turnsV a b c bo fr tr ag ks ⟨job, x1, x2, x3, x4, x5, x6, t1, t2, t3, 1, tt, si⟩ wall = (s1, 0)) (hT1 : turnsV a b c bo fr tr ag ks ⟨job, x1, x2, x3, x4, x5, x6, t1, t2, t3, 2, tt, s1⟩ wall = (s2, 0)) (hT2 : turnsV a b c bo fr tr ag ks ⟨job, x1, x2, x3, x4, x5, x6, t1, t2, t3, 3, tt, s2⟩ wall = (s3, 0)) (hX0 : nextA a b c bo fr tr ag ks ⟨job, x1, x2, x3, x4, x5, x6, t1, t2, t3, 1, tt, si⟩ 1 s1 = (⟨job, x1, x2, x3, x4, x5, x6, t1, t2, t3, 2, tt, s1⟩, 0, false, 0)) (hX1 : nextA a b c bo fr tr ag ks ⟨job, x1, x2, x3, x4, x5, x6, t1, t2, t3, 2, tt, s1⟩ 5 s2 = (⟨job, x1, x2, x3, x4, x5, x6, t1, t2, t3, 3, tt, s2⟩, 4, false, 0)) (hX2 : nextA a b c bo fr tr ag ks ⟨job, x1, x2, x3, x4, x5, x6, t1, t2, t3, 3, tt, s2⟩ 8 s3 = (PV.zero, 0, true, 0)) (w : World) (hk : ClsAt w w.heap.size X ks) :
    Calls Try.prog 8 #[.agg #[.int .i64 a, .int .i64 b, .int .i64 c, .int .i64 bo, .int .i64 fr, .int .i64 tr, .int .i64 ag, .slice X ks.length cp], .agg #[.int .i64 job, .int .i64 x1, .int .i64 x2, .int .i64 x3, .int .i64 x4, .int .i64 x5, .int .i64 x6, .bool t1, .bool t2, .bool t3, .int .u8 1, .int .i64 tt, .int .i64 si], .int .i64 wall] w (fun e w' => e = .returned (.bool true) ∧ Below w.heap.size w w') := by
  have HKK := Lib.hid hk
  clear hk
  have HE : ∀ (w : World) (hk : ClsAt w w.heap.size X ks), Calls Try.prog 14 #[.agg #[.int .i64 a, .int .i64 b, .int .i64 c, .int .i64 bo, .int .i64 fr, .int .i64 tr, .int .i64 ag, .slice X ks.length cp], .agg #[.int .i64 job, .int .i64 x1, .int .i64 x2, .int .i64 x3, .int .i64 x4, .int .i64 x5, .int .i64 x6, .bool t1, .bool t2, .bool t3, .int .u8 1, .int .i64 tt, .int .i64 si], .int .i64 wall] w (fun e w' => e = .returned (.tuple #[.int .i64 s3, .int .i64 0]) ∧ Below w.heap.size w w') := fun w hk => by
    have := ends_any a b c bo fr tr ag X cp ks hl ⟨job, x1, x2, x3, x4, x5, x6, t1, t2, t3, 1, tt, si⟩ wall w hk
    rw [hE] at this
    exact this
  have HEh := Lib.hid HE
  clear HE
  have HT0 : ∀ (w : World) (hk : ClsAt w w.heap.size X ks), Calls Try.prog 16 #[.agg #[.int .i64 a, .int .i64 b, .int .i64 c, .int .i64 bo, .int .i64 fr, .int .i64 tr, .int .i64 ag, .slice X ks.length cp], .agg #[.int .i64 job, .int .i64 x1, .int .i64 x2, .int .i64 x3, .int .i64 x4, .int .i64 x5, .int .i64 x6, .bool t1, .bool t2, .bool t3, .int .u8 1, .int .i64 tt, .int .i64 si], .int .i64 wall] w (fun e w' => e = .returned (.tuple #[.int .i64 s1, .int .i64 0]) ∧ Below w.heap.size w w') := fun w hk => by
    have := turns_any a b c bo fr tr ag X cp ks hl ⟨job, x1, x2, x3, x4, x5, x6, t1, t2, t3, 1, tt, si⟩ wall w hk
    rw [hT0] at this
    exact this
  have HT0h := Lib.hid HT0
  clear HT0
  have HX0 : ∀ (w : World) (hk : ClsAt w w.heap.size X ks), Calls Try.prog 11 #[.agg #[.int .i64 a, .int .i64 b, .int .i64 c, .int .i64 bo, .int .i64 fr, .int .i64 tr, .int .i64 ag, .slice X ks.length cp], .agg #[.int .i64 job, .int .i64 x1, .int .i64 x2, .int .i64 x3, .int .i64 x4, .int .i64 x5, .int .i64 x6, .bool t1, .bool t2, .bool t3, .int .u8 1, .int .i64 tt, .int .i64 si], .int .u8 1, .int .i64 s1] w (fun e w' => e = .returned (.tuple #[.agg #[.int .i64 job, .int .i64 x1, .int .i64 x2, .int .i64 x3, .int .i64 x4, .int .i64 x5, .int .i64 x6, .bool t1, .bool t2, .bool t3, .int .u8 2, .int .i64 tt, .int .i64 s1], .int .u8 0, .bool false, .int .i64 0]) ∧ Below w.heap.size w w') := fun w hk => by
    have := next_any a b c bo fr tr ag X cp ks hl ⟨job, x1, x2, x3, x4, x5, x6, t1, t2, t3, 1, tt, si⟩ 1 s1 w hk
    rw [hX0] at this
    exact this
  have HX0h := Lib.hid HX0
  clear HX0
  have HT1 : ∀ (w : World) (hk : ClsAt w w.heap.size X ks), Calls Try.prog 16 #[.agg #[.int .i64 a, .int .i64 b, .int .i64 c, .int .i64 bo, .int .i64 fr, .int .i64 tr, .int .i64 ag, .slice X ks.length cp], .agg #[.int .i64 job, .int .i64 x1, .int .i64 x2, .int .i64 x3, .int .i64 x4, .int .i64 x5, .int .i64 x6, .bool t1, .bool t2, .bool t3, .int .u8 2, .int .i64 tt, .int .i64 s1], .int .i64 wall] w (fun e w' => e = .returned (.tuple #[.int .i64 s2, .int .i64 0]) ∧ Below w.heap.size w w') := fun w hk => by
    have := turns_any a b c bo fr tr ag X cp ks hl ⟨job, x1, x2, x3, x4, x5, x6, t1, t2, t3, 2, tt, s1⟩ wall w hk
    rw [hT1] at this
    exact this
  have HT1h := Lib.hid HT1
  clear HT1
  have HX1 : ∀ (w : World) (hk : ClsAt w w.heap.size X ks), Calls Try.prog 11 #[.agg #[.int .i64 a, .int .i64 b, .int .i64 c, .int .i64 bo, .int .i64 fr, .int .i64 tr, .int .i64 ag, .slice X ks.length cp], .agg #[.int .i64 job, .int .i64 x1, .int .i64 x2, .int .i64 x3, .int .i64 x4, .int .i64 x5, .int .i64 x6, .bool t1, .bool t2, .bool t3, .int .u8 2, .int .i64 tt, .int .i64 s1], .int .u8 5, .int .i64 s2] w (fun e w' => e = .returned (.tuple #[.agg #[.int .i64 job, .int .i64 x1, .int .i64 x2, .int .i64 x3, .int .i64 x4, .int .i64 x5, .int .i64 x6, .bool t1, .bool t2, .bool t3, .int .u8 3, .int .i64 tt, .int .i64 s2], .int .u8 4, .bool false, .int .i64 0]) ∧ Below w.heap.size w w') := fun w hk => by
    have := next_any a b c bo fr tr ag X cp ks hl ⟨job, x1, x2, x3, x4, x5, x6, t1, t2, t3, 2, tt, s1⟩ 5 s2 w hk
    rw [hX1] at this
    exact this
  have HX1h := Lib.hid HX1
  clear HX1
  have HT2 : ∀ (w : World) (hk : ClsAt w w.heap.size X ks), Calls Try.prog 16 #[.agg #[.int .i64 a, .int .i64 b, .int .i64 c, .int .i64 bo, .int .i64 fr, .int .i64 tr, .int .i64 ag, .slice X ks.length cp], .agg #[.int .i64 job, .int .i64 x1, .int .i64 x2, .int .i64 x3, .int .i64 x4, .int .i64 x5, .int .i64 x6, .bool t1, .bool t2, .bool t3, .int .u8 3, .int .i64 tt, .int .i64 s2], .int .i64 wall] w (fun e w' => e = .returned (.tuple #[.int .i64 s3, .int .i64 0]) ∧ Below w.heap.size w w') := fun w hk => by
    have := turns_any a b c bo fr tr ag X cp ks hl ⟨job, x1, x2, x3, x4, x5, x6, t1, t2, t3, 3, tt, s2⟩ wall w hk
    rw [hT2] at this
    exact this
  have HT2h := Lib.hid HT2
  clear HT2
  have HX2 : ∀ (w : World) (hk : ClsAt w w.heap.size X ks), Calls Try.prog 11 #[.agg #[.int .i64 a, .int .i64 b, .int .i64 c, .int .i64 bo, .int .i64 fr, .int .i64 tr, .int .i64 ag, .slice X ks.length cp], .agg #[.int .i64 job, .int .i64 x1, .int .i64 x2, .int .i64 x3, .int .i64 x4, .int .i64 x5, .int .i64 x6, .bool t1, .bool t2, .bool t3, .int .u8 3, .int .i64 tt, .int .i64 s2], .int .u8 8, .int .i64 s3] w (fun e w' => e = .returned (.tuple #[.agg #[.int .i64 0, .int .i64 0, .int .i64 0, .int .i64 0, .int .i64 0, .int .i64 0, .int .i64 0, .bool false, .bool false, .bool false, .int .u8 0, .int .i64 0, .int .i64 0], .int .u8 0, .bool true, .int .i64 0]) ∧ Below w.heap.size w w') := fun w hk => by
    have := next_any a b c bo fr tr ag X cp ks hl ⟨job, x1, x2, x3, x4, x5, x6, t1, t2, t3, 3, tt, s2⟩ 8 s3 w hk
    rw [hX2] at this
    exact this
  have HX2h := Lib.hid HX2
  clear HX2
  clear hE hT0 hT1 hT2 hX0 hX1 hX2
  have ix0 : ∀ w, (Instr.index 52 (.agg #[.int .u8 1, .int .u8 5, .int .u8 8]) (.int .i64 0)).run Try.prog w = .ok (.int .u8 1) w := fun _ => by kernel_rfl
  have ix1 : ∀ w, (Instr.index 52 (.agg #[.int .u8 1, .int .u8 5, .int .u8 8]) (.int .i64 1)).run Try.prog w = .ok (.int .u8 5) w := fun _ => by kernel_rfl
  have ix2 : ∀ w, (Instr.index 52 (.agg #[.int .u8 1, .int .u8 5, .int .u8 8]) (.int .i64 2)).run Try.prog w = .ok (.int .u8 8) w := fun _ => by kernel_rfl
  have hs1 : ¬ 1099511627776 ≤ s3 := by omega
  go_enter Try.func8, Try.ntmps8
  go_wp2_with fail
  refine (alive_any _).mono ?_
  rintro e w1 ⟨rfl, hB1⟩
  have kd : Blk w1 w.heap.size 26 #[.int .i64 a, .int .i64 b, .int .i64 c, .int .i64 bo, .int .i64 fr, .int .i64 tr, .int .i64 ag, .slice X ks.length cp] := ((Blk.new w _ _).alloc _).below hB1 (by simp; omega)
  have kp : Blk w1 (w.heap.size + 1) 37 #[.int .i64 job, .int .i64 x1, .int .i64 x2, .int .i64 x3, .int .i64 x4, .int .i64 x5, .int .i64 x6, .bool t1, .bool t2, .bool t3, .int .u8 1, .int .i64 tt, .int .i64 si] := (blk1 w _ _).below hB1 (by simp)
  have hb1 : Below w.heap.size w w1 := below_up (below_alloc (below_alloc (Below.refl _ _))) hB1
  have HB1 := Lib.hid hb1
  have KD1 := Lib.hid kd
  have KP1 := Lib.hid kp
  have d0 : w1.cell? ⟨w.heap.size, 0, none⟩ = some (.int .i64 a) := kd.cell 0
  have d1 : w1.cell? ⟨w.heap.size, 1, none⟩ = some (.int .i64 b) := kd.cell 1
  have d2 : w1.cell? ⟨w.heap.size, 2, none⟩ = some (.int .i64 c) := kd.cell 2
  have d3 : w1.cell? ⟨w.heap.size, 3, none⟩ = some (.int .i64 bo) := kd.cell 3
  have d4 : w1.cell? ⟨w.heap.size, 4, none⟩ = some (.int .i64 fr) := kd.cell 4
  have d5 : w1.cell? ⟨w.heap.size, 5, none⟩ = some (.int .i64 tr) := kd.cell 5
  have d6 : w1.cell? ⟨w.heap.size, 6, none⟩ = some (.int .i64 ag) := kd.cell 6
  have d7 : w1.cell? ⟨w.heap.size, 7, none⟩ = some (.slice X ks.length cp) := kd.cell 7
  have p0 : w1.cell? ⟨w.heap.size + 1, 0, none⟩ = some (.int .i64 job) := kp.cell 0
  have p1 : w1.cell? ⟨w.heap.size + 1, 1, none⟩ = some (.int .i64 x1) := kp.cell 1
  have p2 : w1.cell? ⟨w.heap.size + 1, 2, none⟩ = some (.int .i64 x2) := kp.cell 2
  have p3 : w1.cell? ⟨w.heap.size + 1, 3, none⟩ = some (.int .i64 x3) := kp.cell 3
  have p4 : w1.cell? ⟨w.heap.size + 1, 4, none⟩ = some (.int .i64 x4) := kp.cell 4
  have p5 : w1.cell? ⟨w.heap.size + 1, 5, none⟩ = some (.int .i64 x5) := kp.cell 5
  have p6 : w1.cell? ⟨w.heap.size + 1, 6, none⟩ = some (.int .i64 x6) := kp.cell 6
  have p7 : w1.cell? ⟨w.heap.size + 1, 7, none⟩ = some (.bool t1) := kp.cell 7
  have p8 : w1.cell? ⟨w.heap.size + 1, 8, none⟩ = some (.bool t2) := kp.cell 8
  have p9 : w1.cell? ⟨w.heap.size + 1, 9, none⟩ = some (.bool t3) := kp.cell 9
  have p10 : w1.cell? ⟨w.heap.size + 1, 10, none⟩ = some (.int .u8 1) := kp.cell 10
  have p11 : w1.cell? ⟨w.heap.size + 1, 11, none⟩ = some (.int .i64 tt) := kp.cell 11
  have p12 : w1.cell? ⟨w.heap.size + 1, 12, none⟩ = some (.int .i64 si) := kp.cell 12
  clear hB1 hb1 kd kp
  go_wp2_with fail
  refine (HEh.out _ (HKK.out.up HB1.out)).mono ?_
  rintro e w2 ⟨rfl, hB2⟩
  have HB2 := Lib.hid (below_up HB1.out hB2)
  have kd := KD1.out.below hB2 (cell_lt d0)
  have kp := KP1.out.below hB2 (cell_lt p0)
  have KD2 := Lib.hid kd
  have KP2 := Lib.hid kp
  clear hB2 d0 d1 d2 d3 d4 d5 d6 d7 p0 p1 p2 p3 p4 p5 p6 p7 p8 p9 p10 p11 p12 HB1 KD1 KP1
  have d7 : w2.cell? ⟨w.heap.size, 7, none⟩ = some (.slice X ks.length cp) := kd.cell 7
  have p10 : w2.cell? ⟨w.heap.size + 1, 10, none⟩ = some (.int .u8 1) := kp.cell 10
  clear kd kp
  go_wp2_with fail
  clear d7 p10
  go_loopw [49] (fun s49 wr => ∃ k : Nat, k ≤ 2 ∧ s49 = .int .i64 k ∧ Hid (Below w.heap.size w wr) ∧ Hid (Blk wr w.heap.size 26 #[.int .i64 a, .int .i64 b, .int .i64 c, .int .i64 bo, .int .i64 fr, .int .i64 tr, .int .i64 ag, .slice X ks.length cp]) ∧ Hid (Blk wr (w.heap.size + 1) 37 (chainP job x1 x2 x3 x4 x5 x6 t1 t2 t3 tt si s1 s2 k)))
    (fun i _ => 3 - (intOf i).toNat)
  case atStart => exact ⟨0, by omega, rfl, HB2.out, KD2.out, KP2.out⟩
  case round =>
    obtain ⟨k, hk, rfl, hB, hkd, hkp⟩ := hrel
    clear HB2 KD2 KP2
    have kd := hkd.out
    have hz0 : w.heap.size < wr.heap.size := kd.lt
    have d0 : wr.cell? ⟨w.heap.size, 0, none⟩ = some (.int .i64 a) := kd.cell 0
    have d1 : wr.cell? ⟨w.heap.size, 1, none⟩ = some (.int .i64 b) := kd.cell 1
    have d2 : wr.cell? ⟨w.heap.size, 2, none⟩ = some (.int .i64 c) := kd.cell 2
    have d3 : wr.cell? ⟨w.heap.size, 3, none⟩ = some (.int .i64 bo) := kd.cell 3
    have d4 : wr.cell? ⟨w.heap.size, 4, none⟩ = some (.int .i64 fr) := kd.cell 4
    have d5 : wr.cell? ⟨w.heap.size, 5, none⟩ = some (.int .i64 tr) := kd.cell 5
    have d6 : wr.cell? ⟨w.heap.size, 6, none⟩ = some (.int .i64 ag) := kd.cell 6
    have d7 : wr.cell? ⟨w.heap.size, 7, none⟩ = some (.slice X ks.length cp) := kd.cell 7
    match k, hk, hkp with
    | 0, _, hkp =>
      dsimp only [chainP] at hkp
      have kp := hkp.out
      have hz1 : w.heap.size + 1 < wr.heap.size := kp.lt
      have p0 : wr.cell? ⟨w.heap.size + 1, 0, none⟩ = some (.int .i64 job) := kp.cell 0
      have p1 : wr.cell? ⟨w.heap.size + 1, 1, none⟩ = some (.int .i64 x1) := kp.cell 1
      have p2 : wr.cell? ⟨w.heap.size + 1, 2, none⟩ = some (.int .i64 x2) := kp.cell 2
      have p3 : wr.cell? ⟨w.heap.size + 1, 3, none⟩ = some (.int .i64 x3) := kp.cell 3
      have p4 : wr.cell? ⟨w.heap.size + 1, 4, none⟩ = some (.int .i64 x4) := kp.cell 4
      have p5 : wr.cell? ⟨w.heap.size + 1, 5, none⟩ = some (.int .i64 x5) := kp.cell 5
      have p6 : wr.cell? ⟨w.heap.size + 1, 6, none⟩ = some (.int .i64 x6) := kp.cell 6
      have p7 : wr.cell? ⟨w.heap.size + 1, 7, none⟩ = some (.bool t1) := kp.cell 7
      have p8 : wr.cell? ⟨w.heap.size + 1, 8, none⟩ = some (.bool t2) := kp.cell 8
      have p9 : wr.cell? ⟨w.heap.size + 1, 9, none⟩ = some (.bool t3) := kp.cell 9
      have p10 : wr.cell? ⟨w.heap.size + 1, 10, none⟩ = some (.int .u8 1) := kp.cell 10
      have p11 : wr.cell? ⟨w.heap.size + 1, 11, none⟩ = some (.int .i64 tt) := kp.cell 11
      have p12 : wr.cell? ⟨w.heap.size + 1, 12, none⟩ = some (.int .i64 si) := kp.cell 12
      clear kd kp
      go_wp2_with fail
      refine (HT0h.out _ (HKK.out.up hB.out)).mono ?_
      rintro e w3 ⟨rfl, hB3⟩
      have HB3 := Lib.hid (below_up hB.out hB3)
      have kd := hkd.out.below hB3 hz0
      have kp := hkp.out.below hB3 hz1
      have KD3 := Lib.hid kd
      have KP3 := Lib.hid kp
      have hy0 : w.heap.size < w3.heap.size := kd.lt
      have hy1 : w.heap.size + 1 < w3.heap.size := kp.lt
      clear hB3 hz0 hz1 d0 d1 d2 d3 d4 d5 d6 d7 p0 p1 p2 p3 p4 p5 p6 p7 p8 p9 p10 p11 p12
      have d0 : w3.cell? ⟨w.heap.size, 0, none⟩ = some (.int .i64 a) := kd.cell 0
      have d1 : w3.cell? ⟨w.heap.size, 1, none⟩ = some (.int .i64 b) := kd.cell 1
      have d2 : w3.cell? ⟨w.heap.size, 2, none⟩ = some (.int .i64 c) := kd.cell 2
      have d3 : w3.cell? ⟨w.heap.size, 3, none⟩ = some (.int .i64 bo) := kd.cell 3
      have d4 : w3.cell? ⟨w.heap.size, 4, none⟩ = some (.int .i64 fr) := kd.cell 4
      have d5 : w3.cell? ⟨w.heap.size, 5, none⟩ = some (.int .i64 tr) := kd.cell 5
      have d6 : w3.cell? ⟨w.heap.size, 6, none⟩ = some (.int .i64 ag) := kd.cell 6
      have d7 : w3.cell? ⟨w.heap.size, 7, none⟩ = some (.slice X ks.length cp) := kd.cell 7
      have p0 : w3.cell? ⟨w.heap.size + 1, 0, none⟩ = some (.int .i64 job) := kp.cell 0
      have p1 : w3.cell? ⟨w.heap.size + 1, 1, none⟩ = some (.int .i64 x1) := kp.cell 1
      have p2 : w3.cell? ⟨w.heap.size + 1, 2, none⟩ = some (.int .i64 x2) := kp.cell 2
      have p3 : w3.cell? ⟨w.heap.size + 1, 3, none⟩ = some (.int .i64 x3) := kp.cell 3
      have p4 : w3.cell? ⟨w.heap.size + 1, 4, none⟩ = some (.int .i64 x4) := kp.cell 4
      have p5 : w3.cell? ⟨w.heap.size + 1, 5, none⟩ = some (.int .i64 x5) := kp.cell 5
      have p6 : w3.cell? ⟨w.heap.size + 1, 6, none⟩ = some (.int .i64 x6) := kp.cell 6
      have p7 : w3.cell? ⟨w.heap.size + 1, 7, none⟩ = some (.bool t1) := kp.cell 7
      have p8 : w3.cell? ⟨w.heap.size + 1, 8, none⟩ = some (.bool t2) := kp.cell 8
      have p9 : w3.cell? ⟨w.heap.size + 1, 9, none⟩ = some (.bool t3) := kp.cell 9
      have p10 : w3.cell? ⟨w.heap.size + 1, 10, none⟩ = some (.int .u8 1) := kp.cell 10
      have p11 : w3.cell? ⟨w.heap.size + 1, 11, none⟩ = some (.int .i64 tt) := kp.cell 11
      have p12 : w3.cell? ⟨w.heap.size + 1, 12, none⟩ = some (.int .i64 si) := kp.cell 12
      clear kd kp
      go_wp2_with fail
      refine (HX0h.out _ (HKK.out.up HB3.out)).mono ?_
      rintro e w4 ⟨rfl, hB4⟩
      have HB4 := Lib.hid (below_up HB3.out hB4)
      have kd := KD3.out.below hB4 hy0
      have kp := KP3.out.below hB4 hy1
      have KD4 := Lib.hid kd
      have KP4 := Lib.hid kp
      have hv0 : w.heap.size < w4.heap.size := kd.lt
      have hv1 : w.heap.size + 1 < w4.heap.size := kp.lt
      clear hB4 hy0 hy1 d0 d1 d2 d3 d4 d5 d6 d7 p0 p1 p2 p3 p4 p5 p6 p7 p8 p9 p10 p11 p12
      have p0 : w4.cell? ⟨w.heap.size + 1, 0, none⟩ = some (.int .i64 job) := kp.cell 0
      have q0 : w4.frozen? ⟨w.heap.size + 1, 0, none⟩ = false := kp.frozen 0
      have p1 : w4.cell? ⟨w.heap.size + 1, 1, none⟩ = some (.int .i64 x1) := kp.cell 1
      have q1 : w4.frozen? ⟨w.heap.size + 1, 1, none⟩ = false := kp.frozen 1
      have p2 : w4.cell? ⟨w.heap.size + 1, 2, none⟩ = some (.int .i64 x2) := kp.cell 2
      have q2 : w4.frozen? ⟨w.heap.size + 1, 2, none⟩ = false := kp.frozen 2
      have p3 : w4.cell? ⟨w.heap.size + 1, 3, none⟩ = some (.int .i64 x3) := kp.cell 3
      have q3 : w4.frozen? ⟨w.heap.size + 1, 3, none⟩ = false := kp.frozen 3
      have p4 : w4.cell? ⟨w.heap.size + 1, 4, none⟩ = some (.int .i64 x4) := kp.cell 4
      have q4 : w4.frozen? ⟨w.heap.size + 1, 4, none⟩ = false := kp.frozen 4
      have p5 : w4.cell? ⟨w.heap.size + 1, 5, none⟩ = some (.int .i64 x5) := kp.cell 5
      have q5 : w4.frozen? ⟨w.heap.size + 1, 5, none⟩ = false := kp.frozen 5
      have p6 : w4.cell? ⟨w.heap.size + 1, 6, none⟩ = some (.int .i64 x6) := kp.cell 6
      have q6 : w4.frozen? ⟨w.heap.size + 1, 6, none⟩ = false := kp.frozen 6
      have p7 : w4.cell? ⟨w.heap.size + 1, 7, none⟩ = some (.bool t1) := kp.cell 7
      have q7 : w4.frozen? ⟨w.heap.size + 1, 7, none⟩ = false := kp.frozen 7
      have p8 : w4.cell? ⟨w.heap.size + 1, 8, none⟩ = some (.bool t2) := kp.cell 8
      have q8 : w4.frozen? ⟨w.heap.size + 1, 8, none⟩ = false := kp.frozen 8
      have p9 : w4.cell? ⟨w.heap.size + 1, 9, none⟩ = some (.bool t3) := kp.cell 9
      have q9 : w4.frozen? ⟨w.heap.size + 1, 9, none⟩ = false := kp.frozen 9
      have p10 : w4.cell? ⟨w.heap.size + 1, 10, none⟩ = some (.int .u8 1) := kp.cell 10
      have q10 : w4.frozen? ⟨w.heap.size + 1, 10, none⟩ = false := kp.frozen 10
      have p11 : w4.cell? ⟨w.heap.size + 1, 11, none⟩ = some (.int .i64 tt) := kp.cell 11
      have q11 : w4.frozen? ⟨w.heap.size + 1, 11, none⟩ = false := kp.frozen 11
      have p12 : w4.cell? ⟨w.heap.size + 1, 12, none⟩ = some (.int .i64 si) := kp.cell 12
      have q12 : w4.frozen? ⟨w.heap.size + 1, 12, none⟩ = false := kp.frozen 12
      have ne4 : ¬ w.heap.size + 1 = w4.heap.size := by omega
      have ne5 : ¬ w4.heap.size = w.heap.size + 1 := by omega
      have HS := Lib.hid (store13 (w := w) (g := w.heap.size + 1) HB4.out (by omega) KP4.out (.int .i64 job) (.int .i64 x1) (.int .i64 x2) (.int .i64 x3) (.int .i64 x4) (.int .i64 x5) (.int .i64 x6) (.bool t1) (.bool t2) (.bool t3) (.int .u8 2) (.int .i64 tt) (.int .i64 s1))
      have HD := Lib.hid ((((((((((((((KD4.out.far (p := ⟨w.heap.size + 1, 0, none⟩) (by simp) (.int .i64 job)).far (p := ⟨w.heap.size + 1, 1, none⟩) (by simp) (.int .i64 x1)).far (p := ⟨w.heap.size + 1, 2, none⟩) (by simp) (.int .i64 x2)).far (p := ⟨w.heap.size + 1, 3, none⟩) (by simp) (.int .i64 x3)).far (p := ⟨w.heap.size + 1, 4, none⟩) (by simp) (.int .i64 x4)).far (p := ⟨w.heap.size + 1, 5, none⟩) (by simp) (.int .i64 x5)).far (p := ⟨w.heap.size + 1, 6, none⟩) (by simp) (.int .i64 x6)).far (p := ⟨w.heap.size + 1, 7, none⟩) (by simp) (.bool t1)).far (p := ⟨w.heap.size + 1, 8, none⟩) (by simp) (.bool t2)).far (p := ⟨w.heap.size + 1, 9, none⟩) (by simp) (.bool t3)).far (p := ⟨w.heap.size + 1, 10, none⟩) (by simp) (.int .u8 2)).far (p := ⟨w.heap.size + 1, 11, none⟩) (by simp) (.int .i64 tt)).far (p := ⟨w.heap.size + 1, 12, none⟩) (by simp) (.int .i64 s1)))
      clear kd kp
      go_wp2_with fail
      go_roundw
      case rel =>
        refine ⟨1, by omega, rfl, ?_, ?_, ?_⟩
        · exact below_alloc HS.out.1
        · exact HD.out.alloc _
        · exact HS.out.2.alloc _
      case measure => simp [intOf]
    | 1, _, hkp =>
      dsimp only [chainP] at hkp
      have kp := hkp.out
      have hz1 : w.heap.size + 1 < wr.heap.size := kp.lt
      have p0 : wr.cell? ⟨w.heap.size + 1, 0, none⟩ = some (.int .i64 job) := kp.cell 0
      have p1 : wr.cell? ⟨w.heap.size + 1, 1, none⟩ = some (.int .i64 x1) := kp.cell 1
      have p2 : wr.cell? ⟨w.heap.size + 1, 2, none⟩ = some (.int .i64 x2) := kp.cell 2
      have p3 : wr.cell? ⟨w.heap.size + 1, 3, none⟩ = some (.int .i64 x3) := kp.cell 3
      have p4 : wr.cell? ⟨w.heap.size + 1, 4, none⟩ = some (.int .i64 x4) := kp.cell 4
      have p5 : wr.cell? ⟨w.heap.size + 1, 5, none⟩ = some (.int .i64 x5) := kp.cell 5
      have p6 : wr.cell? ⟨w.heap.size + 1, 6, none⟩ = some (.int .i64 x6) := kp.cell 6
      have p7 : wr.cell? ⟨w.heap.size + 1, 7, none⟩ = some (.bool t1) := kp.cell 7
      have p8 : wr.cell? ⟨w.heap.size + 1, 8, none⟩ = some (.bool t2) := kp.cell 8
      have p9 : wr.cell? ⟨w.heap.size + 1, 9, none⟩ = some (.bool t3) := kp.cell 9
      have p10 : wr.cell? ⟨w.heap.size + 1, 10, none⟩ = some (.int .u8 2) := kp.cell 10
      have p11 : wr.cell? ⟨w.heap.size + 1, 11, none⟩ = some (.int .i64 tt) := kp.cell 11
      have p12 : wr.cell? ⟨w.heap.size + 1, 12, none⟩ = some (.int .i64 s1) := kp.cell 12
      clear kd kp
      go_wp2_with fail
      refine (HT1h.out _ (HKK.out.up hB.out)).mono ?_
      rintro e w3 ⟨rfl, hB3⟩
      have HB3 := Lib.hid (below_up hB.out hB3)
      have kd := hkd.out.below hB3 hz0
      have kp := hkp.out.below hB3 hz1
      have KD3 := Lib.hid kd
      have KP3 := Lib.hid kp
      have hy0 : w.heap.size < w3.heap.size := kd.lt
      have hy1 : w.heap.size + 1 < w3.heap.size := kp.lt
      clear hB3 hz0 hz1 d0 d1 d2 d3 d4 d5 d6 d7 p0 p1 p2 p3 p4 p5 p6 p7 p8 p9 p10 p11 p12
      have d0 : w3.cell? ⟨w.heap.size, 0, none⟩ = some (.int .i64 a) := kd.cell 0
      have d1 : w3.cell? ⟨w.heap.size, 1, none⟩ = some (.int .i64 b) := kd.cell 1
      have d2 : w3.cell? ⟨w.heap.size, 2, none⟩ = some (.int .i64 c) := kd.cell 2
      have d3 : w3.cell? ⟨w.heap.size, 3, none⟩ = some (.int .i64 bo) := kd.cell 3
      have d4 : w3.cell? ⟨w.heap.size, 4, none⟩ = some (.int .i64 fr) := kd.cell 4
      have d5 : w3.cell? ⟨w.heap.size, 5, none⟩ = some (.int .i64 tr) := kd.cell 5
      have d6 : w3.cell? ⟨w.heap.size, 6, none⟩ = some (.int .i64 ag) := kd.cell 6
      have d7 : w3.cell? ⟨w.heap.size, 7, none⟩ = some (.slice X ks.length cp) := kd.cell 7
      have p0 : w3.cell? ⟨w.heap.size + 1, 0, none⟩ = some (.int .i64 job) := kp.cell 0
      have p1 : w3.cell? ⟨w.heap.size + 1, 1, none⟩ = some (.int .i64 x1) := kp.cell 1
      have p2 : w3.cell? ⟨w.heap.size + 1, 2, none⟩ = some (.int .i64 x2) := kp.cell 2
      have p3 : w3.cell? ⟨w.heap.size + 1, 3, none⟩ = some (.int .i64 x3) := kp.cell 3
      have p4 : w3.cell? ⟨w.heap.size + 1, 4, none⟩ = some (.int .i64 x4) := kp.cell 4
      have p5 : w3.cell? ⟨w.heap.size + 1, 5, none⟩ = some (.int .i64 x5) := kp.cell 5
      have p6 : w3.cell? ⟨w.heap.size + 1, 6, none⟩ = some (.int .i64 x6) := kp.cell 6
      have p7 : w3.cell? ⟨w.heap.size + 1, 7, none⟩ = some (.bool t1) := kp.cell 7
      have p8 : w3.cell? ⟨w.heap.size + 1, 8, none⟩ = some (.bool t2) := kp.cell 8
      have p9 : w3.cell? ⟨w.heap.size + 1, 9, none⟩ = some (.bool t3) := kp.cell 9
      have p10 : w3.cell? ⟨w.heap.size + 1, 10, none⟩ = some (.int .u8 2) := kp.cell 10
      have p11 : w3.cell? ⟨w.heap.size + 1, 11, none⟩ = some (.int .i64 tt) := kp.cell 11
      have p12 : w3.cell? ⟨w.heap.size + 1, 12, none⟩ = some (.int .i64 s1) := kp.cell 12
      clear kd kp
      go_wp2_with fail
      refine (HX1h.out _ (HKK.out.up HB3.out)).mono ?_
      rintro e w4 ⟨rfl, hB4⟩
      have HB4 := Lib.hid (below_up HB3.out hB4)
      have kd := KD3.out.below hB4 hy0
      have kp := KP3.out.below hB4 hy1
      have KD4 := Lib.hid kd
      have KP4 := Lib.hid kp
      have hv0 : w.heap.size < w4.heap.size := kd.lt
      have hv1 : w.heap.size + 1 < w4.heap.size := kp.lt
      clear hB4 hy0 hy1 d0 d1 d2 d3 d4 d5 d6 d7 p0 p1 p2 p3 p4 p5 p6 p7 p8 p9 p10 p11 p12
      have p0 : w4.cell? ⟨w.heap.size + 1, 0, none⟩ = some (.int .i64 job) := kp.cell 0
      have q0 : w4.frozen? ⟨w.heap.size + 1, 0, none⟩ = false := kp.frozen 0
      have p1 : w4.cell? ⟨w.heap.size + 1, 1, none⟩ = some (.int .i64 x1) := kp.cell 1
      have q1 : w4.frozen? ⟨w.heap.size + 1, 1, none⟩ = false := kp.frozen 1
      have p2 : w4.cell? ⟨w.heap.size + 1, 2, none⟩ = some (.int .i64 x2) := kp.cell 2
      have q2 : w4.frozen? ⟨w.heap.size + 1, 2, none⟩ = false := kp.frozen 2
      have p3 : w4.cell? ⟨w.heap.size + 1, 3, none⟩ = some (.int .i64 x3) := kp.cell 3
      have q3 : w4.frozen? ⟨w.heap.size + 1, 3, none⟩ = false := kp.frozen 3
      have p4 : w4.cell? ⟨w.heap.size + 1, 4, none⟩ = some (.int .i64 x4) := kp.cell 4
      have q4 : w4.frozen? ⟨w.heap.size + 1, 4, none⟩ = false := kp.frozen 4
      have p5 : w4.cell? ⟨w.heap.size + 1, 5, none⟩ = some (.int .i64 x5) := kp.cell 5
      have q5 : w4.frozen? ⟨w.heap.size + 1, 5, none⟩ = false := kp.frozen 5
      have p6 : w4.cell? ⟨w.heap.size + 1, 6, none⟩ = some (.int .i64 x6) := kp.cell 6
      have q6 : w4.frozen? ⟨w.heap.size + 1, 6, none⟩ = false := kp.frozen 6
      have p7 : w4.cell? ⟨w.heap.size + 1, 7, none⟩ = some (.bool t1) := kp.cell 7
      have q7 : w4.frozen? ⟨w.heap.size + 1, 7, none⟩ = false := kp.frozen 7
      have p8 : w4.cell? ⟨w.heap.size + 1, 8, none⟩ = some (.bool t2) := kp.cell 8
      have q8 : w4.frozen? ⟨w.heap.size + 1, 8, none⟩ = false := kp.frozen 8
      have p9 : w4.cell? ⟨w.heap.size + 1, 9, none⟩ = some (.bool t3) := kp.cell 9
      have q9 : w4.frozen? ⟨w.heap.size + 1, 9, none⟩ = false := kp.frozen 9
      have p10 : w4.cell? ⟨w.heap.size + 1, 10, none⟩ = some (.int .u8 2) := kp.cell 10
      have q10 : w4.frozen? ⟨w.heap.size + 1, 10, none⟩ = false := kp.frozen 10
      have p11 : w4.cell? ⟨w.heap.size + 1, 11, none⟩ = some (.int .i64 tt) := kp.cell 11
      have q11 : w4.frozen? ⟨w.heap.size + 1, 11, none⟩ = false := kp.frozen 11
      have p12 : w4.cell? ⟨w.heap.size + 1, 12, none⟩ = some (.int .i64 s1) := kp.cell 12
      have q12 : w4.frozen? ⟨w.heap.size + 1, 12, none⟩ = false := kp.frozen 12
      have ne4 : ¬ w.heap.size + 1 = w4.heap.size := by omega
      have ne5 : ¬ w4.heap.size = w.heap.size + 1 := by omega
      have HS := Lib.hid (store13 (w := w) (g := w.heap.size + 1) HB4.out (by omega) KP4.out (.int .i64 job) (.int .i64 x1) (.int .i64 x2) (.int .i64 x3) (.int .i64 x4) (.int .i64 x5) (.int .i64 x6) (.bool t1) (.bool t2) (.bool t3) (.int .u8 3) (.int .i64 tt) (.int .i64 s2))
      have HD := Lib.hid ((((((((((((((KD4.out.far (p := ⟨w.heap.size + 1, 0, none⟩) (by simp) (.int .i64 job)).far (p := ⟨w.heap.size + 1, 1, none⟩) (by simp) (.int .i64 x1)).far (p := ⟨w.heap.size + 1, 2, none⟩) (by simp) (.int .i64 x2)).far (p := ⟨w.heap.size + 1, 3, none⟩) (by simp) (.int .i64 x3)).far (p := ⟨w.heap.size + 1, 4, none⟩) (by simp) (.int .i64 x4)).far (p := ⟨w.heap.size + 1, 5, none⟩) (by simp) (.int .i64 x5)).far (p := ⟨w.heap.size + 1, 6, none⟩) (by simp) (.int .i64 x6)).far (p := ⟨w.heap.size + 1, 7, none⟩) (by simp) (.bool t1)).far (p := ⟨w.heap.size + 1, 8, none⟩) (by simp) (.bool t2)).far (p := ⟨w.heap.size + 1, 9, none⟩) (by simp) (.bool t3)).far (p := ⟨w.heap.size + 1, 10, none⟩) (by simp) (.int .u8 3)).far (p := ⟨w.heap.size + 1, 11, none⟩) (by simp) (.int .i64 tt)).far (p := ⟨w.heap.size + 1, 12, none⟩) (by simp) (.int .i64 s2)))
      clear kd kp
      go_wp2_with fail
      go_roundw
      case rel =>
        refine ⟨2, by omega, rfl, ?_, ?_, ?_⟩
        · exact below_alloc HS.out.1
        · exact HD.out.alloc _
        · exact HS.out.2.alloc _
      case measure => simp [intOf]
    | 2, _, hkp =>
      dsimp only [chainP] at hkp
      have kp := hkp.out
      have hz1 : w.heap.size + 1 < wr.heap.size := kp.lt
      have p0 : wr.cell? ⟨w.heap.size + 1, 0, none⟩ = some (.int .i64 job) := kp.cell 0
      have p1 : wr.cell? ⟨w.heap.size + 1, 1, none⟩ = some (.int .i64 x1) := kp.cell 1
      have p2 : wr.cell? ⟨w.heap.size + 1, 2, none⟩ = some (.int .i64 x2) := kp.cell 2
      have p3 : wr.cell? ⟨w.heap.size + 1, 3, none⟩ = some (.int .i64 x3) := kp.cell 3
      have p4 : wr.cell? ⟨w.heap.size + 1, 4, none⟩ = some (.int .i64 x4) := kp.cell 4
      have p5 : wr.cell? ⟨w.heap.size + 1, 5, none⟩ = some (.int .i64 x5) := kp.cell 5
      have p6 : wr.cell? ⟨w.heap.size + 1, 6, none⟩ = some (.int .i64 x6) := kp.cell 6
      have p7 : wr.cell? ⟨w.heap.size + 1, 7, none⟩ = some (.bool t1) := kp.cell 7
      have p8 : wr.cell? ⟨w.heap.size + 1, 8, none⟩ = some (.bool t2) := kp.cell 8
      have p9 : wr.cell? ⟨w.heap.size + 1, 9, none⟩ = some (.bool t3) := kp.cell 9
      have p10 : wr.cell? ⟨w.heap.size + 1, 10, none⟩ = some (.int .u8 3) := kp.cell 10
      have p11 : wr.cell? ⟨w.heap.size + 1, 11, none⟩ = some (.int .i64 tt) := kp.cell 11
      have p12 : wr.cell? ⟨w.heap.size + 1, 12, none⟩ = some (.int .i64 s2) := kp.cell 12
      clear kd kp
      go_wp2_with fail
      refine (HT2h.out _ (HKK.out.up hB.out)).mono ?_
      rintro e w3 ⟨rfl, hB3⟩
      have HB3 := Lib.hid (below_up hB.out hB3)
      have kd := hkd.out.below hB3 hz0
      have kp := hkp.out.below hB3 hz1
      have KD3 := Lib.hid kd
      have KP3 := Lib.hid kp
      have hy0 : w.heap.size < w3.heap.size := kd.lt
      have hy1 : w.heap.size + 1 < w3.heap.size := kp.lt
      clear hB3 hz0 hz1 d0 d1 d2 d3 d4 d5 d6 d7 p0 p1 p2 p3 p4 p5 p6 p7 p8 p9 p10 p11 p12
      have d0 : w3.cell? ⟨w.heap.size, 0, none⟩ = some (.int .i64 a) := kd.cell 0
      have d1 : w3.cell? ⟨w.heap.size, 1, none⟩ = some (.int .i64 b) := kd.cell 1
      have d2 : w3.cell? ⟨w.heap.size, 2, none⟩ = some (.int .i64 c) := kd.cell 2
      have d3 : w3.cell? ⟨w.heap.size, 3, none⟩ = some (.int .i64 bo) := kd.cell 3
      have d4 : w3.cell? ⟨w.heap.size, 4, none⟩ = some (.int .i64 fr) := kd.cell 4
      have d5 : w3.cell? ⟨w.heap.size, 5, none⟩ = some (.int .i64 tr) := kd.cell 5
      have d6 : w3.cell? ⟨w.heap.size, 6, none⟩ = some (.int .i64 ag) := kd.cell 6
      have d7 : w3.cell? ⟨w.heap.size, 7, none⟩ = some (.slice X ks.length cp) := kd.cell 7
      have p0 : w3.cell? ⟨w.heap.size + 1, 0, none⟩ = some (.int .i64 job) := kp.cell 0
      have p1 : w3.cell? ⟨w.heap.size + 1, 1, none⟩ = some (.int .i64 x1) := kp.cell 1
      have p2 : w3.cell? ⟨w.heap.size + 1, 2, none⟩ = some (.int .i64 x2) := kp.cell 2
      have p3 : w3.cell? ⟨w.heap.size + 1, 3, none⟩ = some (.int .i64 x3) := kp.cell 3
      have p4 : w3.cell? ⟨w.heap.size + 1, 4, none⟩ = some (.int .i64 x4) := kp.cell 4
      have p5 : w3.cell? ⟨w.heap.size + 1, 5, none⟩ = some (.int .i64 x5) := kp.cell 5
      have p6 : w3.cell? ⟨w.heap.size + 1, 6, none⟩ = some (.int .i64 x6) := kp.cell 6
      have p7 : w3.cell? ⟨w.heap.size + 1, 7, none⟩ = some (.bool t1) := kp.cell 7
      have p8 : w3.cell? ⟨w.heap.size + 1, 8, none⟩ = some (.bool t2) := kp.cell 8
      have p9 : w3.cell? ⟨w.heap.size + 1, 9, none⟩ = some (.bool t3) := kp.cell 9
      have p10 : w3.cell? ⟨w.heap.size + 1, 10, none⟩ = some (.int .u8 3) := kp.cell 10
      have p11 : w3.cell? ⟨w.heap.size + 1, 11, none⟩ = some (.int .i64 tt) := kp.cell 11
      have p12 : w3.cell? ⟨w.heap.size + 1, 12, none⟩ = some (.int .i64 s2) := kp.cell 12
      clear kd kp
      go_wp2_with fail
      refine (HX2h.out _ (HKK.out.up HB3.out)).mono ?_
      rintro e w4 ⟨rfl, hB4⟩
      have HB4 := Lib.hid (below_up HB3.out hB4)
      have kd := KD3.out.below hB4 hy0
      have kp := KP3.out.below hB4 hy1
      have KD4 := Lib.hid kd
      have KP4 := Lib.hid kp
      have hv0 : w.heap.size < w4.heap.size := kd.lt
      have hv1 : w.heap.size + 1 < w4.heap.size := kp.lt
      clear hB4 hy0 hy1 d0 d1 d2 d3 d4 d5 d6 d7 p0 p1 p2 p3 p4 p5 p6 p7 p8 p9 p10 p11 p12
      clear kd kp
      go_wp2_with fail
      go_ret
      exact ⟨rfl, below_alloc HB4.out⟩
theorem chainLaw (w : World) (a b c bo fr tr ag : Int) (X : Option Addr) (cp : Nat) (ks : List Cls) (hcp : ks.length ≤ cp) (hcm : cp ≤ maxLen) (hk : ClsAt w w.heap.size X ks) (p : PV) (wj : (Lit.int .i64 p.job).wf = true) (wp : (Lit.int .u8 p.ph).wf = true) (wt : (Lit.int .i64 p.tt).wf = true) (ws : (Lit.int .i64 p.si).wf = true) (wall : Int) (ww : (Lit.int .i64 wall).wf = true) :
    Calls Try.prog 8 #[.agg #[.int .i64 a, .int .i64 b, .int .i64 c, .int .i64 bo, .int .i64 fr, .int .i64 tr, .int .i64 ag, .slice X ks.length cp], .agg p.arr, .int .i64 wall] w fun e w' => e = .returned (.bool true) ∧ Below w.heap.size w w' := by
  unfold maxLen at hcm
  obtain ⟨job, x1, x2, x3, x4, x5, x6, t1, t2, t3, ph, tt, si⟩ := p
  by_cases hl : ks.length ≤ 9223372036854775807
  · obtain ⟨⟨ea, ee⟩, hE⟩ : ∃ r, endsV a b c bo fr tr ag ks ⟨job, x1, x2, x3, x4, x5, x6, t1, t2, t3, ph, tt, si⟩ wall = r := ⟨_, rfl⟩
    by_cases h : ee ≠ 0 ∨ ph ≠ 1 ∨ 1099511627776 ≤ ea
    · exact chain_early a b c bo fr tr ag X cp ks hl job x1 x2 x3 x4 x5 x6 t1 t2 t3 ph tt si wall ea ee hE h w hk
    · have h0 : ee = 0 := by omega
      have h1 : ph = 1 := by omega
      have h2 : ea < 1099511627776 := by omega
      subst h0 h1
      have hE' := hE
      unfold endsV at hE'
      by_cases hok : CfgOk a b c bo fr tr ag ks ∧ PartOk job 1 tt si tr
      · by_cases hW : inB wall 1 1048576 = true
        · rw [if_pos hok, if_pos hW] at hE'
          obtain ⟨e1, _⟩ := Prod.mk.inj hE'
          simp only [leftR, if_true] at e1
          have b1 := inB_true hW
          have b2 := inB_true hok.1.2.1
          have b3 := inB_true hok.1.2.2.1
          have b4 := inB_true hok.2.2.2.2
          have e2 : ea = si + (bo + wall + fr) := by unfold capM at e1; split at e1 <;> omega
          have k4 := inB_true hok.1.2.2.2.2.2.1
          have m1 : ∀ {ph s s' : Int}, (1 ≤ ph ∧ ph ≤ 3) → 0 ≤ s → s' = s + clockR ph bo wall fr → s' ≤ 1099511627776 → s ≤ s' → turnsV a b c bo fr tr ag ks ⟨job, x1, x2, x3, x4, x5, x6, t1, t2, t3, ph, tt, s⟩ wall = (s', 0) := by
            intro ph s s' hph hs he hm hle
            unfold turnsV
            rw [if_pos ⟨hok.1, hok.2.1, hph, hok.2.2.2.1, inB_mk hs (by dsimp only; omega)⟩, if_pos hW]
            dsimp only
            rw [← he, capM_lo hm]
          have m2 : ∀ {ph s s' turn : Int}, (1 ≤ ph ∧ ph ≤ 3) → 0 ≤ s → s' ≤ 1099511627776 → s ≤ s' → nextA a b c bo fr tr ag ks ⟨job, x1, x2, x3, x4, x5, x6, t1, t2, t3, ph, tt, s⟩ turn s' = nextV tr ⟨job, x1, x2, x3, x4, x5, x6, t1, t2, t3, ph, tt, s⟩ turn s' := by
            intro ph s s' turn hph hs hm hle
            unfold nextA
            rw [if_pos ⟨hok.1, hok.2.1, hph, hok.2.2.2.1, inB_mk hs (by dsimp only; omega)⟩]
          have n1 : inB (si + bo) si 1099511627776 = true := inB_mk (by omega) (by omega)
          have n2 : inB (si + bo + wall) (si + bo) 1099511627776 = true := inB_mk (by omega) (by omega)
          have n3 : inB ea (si + bo + wall) 1099511627776 = true := inB_mk (by omega) (by omega)
          exact chain_main a b c bo fr tr ag X cp ks hl job x1 x2 x3 x4 x5 x6 t1 t2 t3 tt si wall (si + bo) (si + bo + wall) ea (by omega) h2 hE
            (m1 (by omega) (by omega) (by simp [clockR]) (by omega) (by omega)) (m1 (by omega) (by omega) (by simp [clockR]) (by omega) (by omega)) (m1 (by omega) (by omega) (by simp [clockR]; omega) (by omega) (by omega))
            ((m2 (by omega) (by omega) (by omega) (by omega)).trans (by simp [nextV, n1])) ((m2 (by omega) (by omega) (by omega) (by omega)).trans (by simp [nextV, n2])) ((m2 (by omega) (by omega) (by omega) (by omega)).trans (by simp [nextV, n3])) w hk
        · rw [if_pos hok, if_neg hW] at hE'
          simp at hE'
      · rw [if_neg hok] at hE'
        simp at hE'
  · exact absurd (by omega) hl
end Go.Proofs.Ytfndopemfhmhgaa.PartChain
