/- The walk of PartPromise: the last case. -/
import Derived.Test.YtfndopemfhmhgaaPartAll
import Derived.Test.YtfndopemfhmhgaaPartFew
import Derived.Test.YtfndopemfhmhgaaPartEq
namespace Go.Proofs.Ytfndopemfhmhgaa.PartPromiseC
open Go.RowKit Mem PosMath PosCheck PartMath PartClass PartCheck PartEnds PartEnds2 PartTable PartNext PartFew PartTurn PartAll
set_option linter.unusedVariables false

theorem same_place (x1 x2 x3 x4 x5 x6 : Int) (t1 t2 t3 : Bool) (w : World) : (Op.equalIn 10000 35 (.agg #[.int .i64 x1, .int .i64 x2, .int .i64 x3, .int .i64 x4, .int .i64 x5, .int .i64 x6, .bool t1, .bool t2, .bool t3]) (.agg #[.int .i64 x1, .int .i64 x2, .int .i64 x3, .int .i64 x4, .int .i64 x5, .int .i64 x6, .bool t1, .bool t2, .bool t3])).run Try.prog w = .ok true w :=
  PartEq.self_place 9996 x1 x2 x3 x4 x5 x6 t1 t2 t3 w
set_option maxRecDepth 100000 in
set_option maxHeartbeats 2000000 in
theorem pm_last (a b c bo fr tr ag : Int) (X : Option Addr) (cp : Nat) (ks : List Cls) (hl : ks.length ≤ 9223372036854775807) (job x1 x2 x3 x4 x5 x6 : Int) (t1 t2 t3 : Bool) (ph tt si : Int) (wall turn now : Int) (hn : ¬ 100 < ks.length) (ea ee tb te : Int) (hE : endsV a b c bo fr tr ag ks ⟨job, x1, x2, x3, x4, x5, x6, t1, t2, t3, ph, tt, si⟩ wall = (ea, ee)) (hT : turnsV a b c bo fr tr ag ks ⟨job, x1, x2, x3, x4, x5, x6, t1, t2, t3, ph, tt, si⟩ wall = (tb, te)) (nj : Int) (ph_ tt_ si_ : Int) (hX : nextA a b c bo fr tr ag ks ⟨job, x1, x2, x3, x4, x5, x6, t1, t2, t3, ph, tt, si⟩ turn now = (⟨job, x1, x2, x3, x4, x5, x6, t1, t2, t3, ph_, tt_, si_⟩, nj, false, 0)) (xx : Int) (hE2 : endsV a b c bo fr tr ag ks ⟨job, x1, x2, x3, x4, x5, x6, t1, t2, t3, ph_, tt_, si_⟩ wall = (xx, 0)) (h1 : ee = 0) (h2 : te = 0) (h3 : ¬ ea < tb) (h4 : ¬ ea < si) (h7 : turn ≠ 2) (h8 : ¬ tb < now) (h9 : xx ≤ ea) (w : World) (hk : ClsAt w w.heap.size X ks) :
    Calls Try.prog 6 #[.agg #[.int .i64 a, .int .i64 b, .int .i64 c, .int .i64 bo, .int .i64 fr, .int .i64 tr, .int .i64 ag, .slice X ks.length cp], .agg #[.int .i64 job, .int .i64 x1, .int .i64 x2, .int .i64 x3, .int .i64 x4, .int .i64 x5, .int .i64 x6, .bool t1, .bool t2, .bool t3, .int .u8 ph, .int .i64 tt, .int .i64 si], .int .i64 wall, .int .u8 turn, .int .i64 now] w (fun e w' => e = .returned (.bool true) ∧ Below w.heap.size w w') := by
  have HE2 : ∀ (w : World) (hk : ClsAt w w.heap.size X ks), Calls Try.prog 14 #[.agg #[.int .i64 a, .int .i64 b, .int .i64 c, .int .i64 bo, .int .i64 fr, .int .i64 tr, .int .i64 ag, .slice X ks.length cp], .agg #[.int .i64 job, .int .i64 x1, .int .i64 x2, .int .i64 x3, .int .i64 x4, .int .i64 x5, .int .i64 x6, .bool t1, .bool t2, .bool t3, .int .u8 ph_, .int .i64 tt_, .int .i64 si_], .int .i64 wall] w (fun e w' => e = .returned (.tuple #[.int .i64 xx, .int .i64 0]) ∧ Below w.heap.size w w') := fun w hk => by
    have := ends_any a b c bo fr tr ag X cp ks hl ⟨job, x1, x2, x3, x4, x5, x6, t1, t2, t3, ph_, tt_, si_⟩ wall w hk
    rw [hE2] at this
    exact this
  have HE2h := Lib.hid HE2
  clear HE2 hE2
  obtain ⟨ng, hng⟩ : ∃ ng, ng = false := ⟨_, rfl⟩
  obtain ⟨ne, hne⟩ : ∃ ne : Int, ne = 0 := ⟨_, rfl⟩
  rw [← hng, ← hne] at hX
  have HE : ∀ (w : World) (hk : ClsAt w w.heap.size X ks), Calls Try.prog 14 #[.agg #[.int .i64 a, .int .i64 b, .int .i64 c, .int .i64 bo, .int .i64 fr, .int .i64 tr, .int .i64 ag, .slice X ks.length cp], .agg #[.int .i64 job, .int .i64 x1, .int .i64 x2, .int .i64 x3, .int .i64 x4, .int .i64 x5, .int .i64 x6, .bool t1, .bool t2, .bool t3, .int .u8 ph, .int .i64 tt, .int .i64 si], .int .i64 wall] w (fun e w' => e = .returned (.tuple #[.int .i64 ea, .int .i64 ee]) ∧ Below w.heap.size w w') := fun w hk => by
    have := ends_any a b c bo fr tr ag X cp ks hl ⟨job, x1, x2, x3, x4, x5, x6, t1, t2, t3, ph, tt, si⟩ wall w hk
    rw [hE] at this
    exact this
  have HT : ∀ (w : World) (hk : ClsAt w w.heap.size X ks), Calls Try.prog 16 #[.agg #[.int .i64 a, .int .i64 b, .int .i64 c, .int .i64 bo, .int .i64 fr, .int .i64 tr, .int .i64 ag, .slice X ks.length cp], .agg #[.int .i64 job, .int .i64 x1, .int .i64 x2, .int .i64 x3, .int .i64 x4, .int .i64 x5, .int .i64 x6, .bool t1, .bool t2, .bool t3, .int .u8 ph, .int .i64 tt, .int .i64 si], .int .i64 wall] w (fun e w' => e = .returned (.tuple #[.int .i64 tb, .int .i64 te]) ∧ Below w.heap.size w w') := fun w hk => by
    have := turns_any a b c bo fr tr ag X cp ks hl ⟨job, x1, x2, x3, x4, x5, x6, t1, t2, t3, ph, tt, si⟩ wall w hk
    rw [hT] at this
    exact this
  have HEh := Lib.hid HE
  have HTh := Lib.hid HT
  clear HE HT hE hT
  have HX : ∀ (w : World) (hk : ClsAt w w.heap.size X ks), Calls Try.prog 11 #[.agg #[.int .i64 a, .int .i64 b, .int .i64 c, .int .i64 bo, .int .i64 fr, .int .i64 tr, .int .i64 ag, .slice X ks.length cp], .agg #[.int .i64 job, .int .i64 x1, .int .i64 x2, .int .i64 x3, .int .i64 x4, .int .i64 x5, .int .i64 x6, .bool t1, .bool t2, .bool t3, .int .u8 ph, .int .i64 tt, .int .i64 si], .int .u8 turn, .int .i64 now] w (fun e w' => e = .returned (.tuple #[.agg #[.int .i64 job, .int .i64 x1, .int .i64 x2, .int .i64 x3, .int .i64 x4, .int .i64 x5, .int .i64 x6, .bool t1, .bool t2, .bool t3, .int .u8 ph_, .int .i64 tt_, .int .i64 si_], .int .u8 nj, .bool ng, .int .i64 ne]) ∧ Below w.heap.size w w') := fun w hk => by
    have := next_any a b c bo fr tr ag X cp ks hl ⟨job, x1, x2, x3, x4, x5, x6, t1, t2, t3, ph, tt, si⟩ turn now w hk
    rw [hX] at this
    exact this
  have HXh := Lib.hid HX
  clear HX hX
  have e7 : (turn == 2) = false := by simpa using h7
  clear h7
  subst hng
  subst hne
  have hpl := same_place x1 x2 x3 x4 x5 x6 t1 t2 t3
  have HKK := Lib.hid hk
  clear hk
  go_enter Try.func6, Try.ntmps6
  go_wp2_with fail
  refine (alive_any _).mono ?_
  rintro e w1 ⟨rfl, hB1⟩
  have HB1 : Hid (Below w.heap.size w w1) := below_up (below_alloc (below_alloc (Below.refl _ _))) hB1
  have c1_0 : w1.cell? ⟨w.heap.size, 0, none⟩ = some (.int .i64 a) := keep_cell (cell_over _ (box0 w 26 #[.int .i64 a, .int .i64 b, .int .i64 c, .int .i64 bo, .int .i64 fr, .int .i64 tr, .int .i64 ag, .slice X ks.length cp] 0)) hB1
  have c1_1 : w1.cell? ⟨w.heap.size, 1, none⟩ = some (.int .i64 b) := keep_cell (cell_over _ (box0 w 26 #[.int .i64 a, .int .i64 b, .int .i64 c, .int .i64 bo, .int .i64 fr, .int .i64 tr, .int .i64 ag, .slice X ks.length cp] 1)) hB1
  have c1_2 : w1.cell? ⟨w.heap.size, 2, none⟩ = some (.int .i64 c) := keep_cell (cell_over _ (box0 w 26 #[.int .i64 a, .int .i64 b, .int .i64 c, .int .i64 bo, .int .i64 fr, .int .i64 tr, .int .i64 ag, .slice X ks.length cp] 2)) hB1
  have c1_3 : w1.cell? ⟨w.heap.size, 3, none⟩ = some (.int .i64 bo) := keep_cell (cell_over _ (box0 w 26 #[.int .i64 a, .int .i64 b, .int .i64 c, .int .i64 bo, .int .i64 fr, .int .i64 tr, .int .i64 ag, .slice X ks.length cp] 3)) hB1
  have c1_4 : w1.cell? ⟨w.heap.size, 4, none⟩ = some (.int .i64 fr) := keep_cell (cell_over _ (box0 w 26 #[.int .i64 a, .int .i64 b, .int .i64 c, .int .i64 bo, .int .i64 fr, .int .i64 tr, .int .i64 ag, .slice X ks.length cp] 4)) hB1
  have c1_5 : w1.cell? ⟨w.heap.size, 5, none⟩ = some (.int .i64 tr) := keep_cell (cell_over _ (box0 w 26 #[.int .i64 a, .int .i64 b, .int .i64 c, .int .i64 bo, .int .i64 fr, .int .i64 tr, .int .i64 ag, .slice X ks.length cp] 5)) hB1
  have c1_6 : w1.cell? ⟨w.heap.size, 6, none⟩ = some (.int .i64 ag) := keep_cell (cell_over _ (box0 w 26 #[.int .i64 a, .int .i64 b, .int .i64 c, .int .i64 bo, .int .i64 fr, .int .i64 tr, .int .i64 ag, .slice X ks.length cp] 6)) hB1
  have c1_7 : w1.cell? ⟨w.heap.size, 7, none⟩ = some (.slice X ks.length cp) := keep_cell (cell_over _ (box0 w 26 #[.int .i64 a, .int .i64 b, .int .i64 c, .int .i64 bo, .int .i64 fr, .int .i64 tr, .int .i64 ag, .slice X ks.length cp] 7)) hB1
  have c1_8 : w1.cell? ⟨w.heap.size + 1, 0, none⟩ = some (.int .i64 job) := keep_cell (box1 w 37 #[.int .i64 job, .int .i64 x1, .int .i64 x2, .int .i64 x3, .int .i64 x4, .int .i64 x5, .int .i64 x6, .bool t1, .bool t2, .bool t3, .int .u8 ph, .int .i64 tt, .int .i64 si] 0) hB1
  have c1_9 : w1.cell? ⟨w.heap.size + 1, 1, none⟩ = some (.int .i64 x1) := keep_cell (box1 w 37 #[.int .i64 job, .int .i64 x1, .int .i64 x2, .int .i64 x3, .int .i64 x4, .int .i64 x5, .int .i64 x6, .bool t1, .bool t2, .bool t3, .int .u8 ph, .int .i64 tt, .int .i64 si] 1) hB1
  have c1_10 : w1.cell? ⟨w.heap.size + 1, 2, none⟩ = some (.int .i64 x2) := keep_cell (box1 w 37 #[.int .i64 job, .int .i64 x1, .int .i64 x2, .int .i64 x3, .int .i64 x4, .int .i64 x5, .int .i64 x6, .bool t1, .bool t2, .bool t3, .int .u8 ph, .int .i64 tt, .int .i64 si] 2) hB1
  have c1_11 : w1.cell? ⟨w.heap.size + 1, 3, none⟩ = some (.int .i64 x3) := keep_cell (box1 w 37 #[.int .i64 job, .int .i64 x1, .int .i64 x2, .int .i64 x3, .int .i64 x4, .int .i64 x5, .int .i64 x6, .bool t1, .bool t2, .bool t3, .int .u8 ph, .int .i64 tt, .int .i64 si] 3) hB1
  have c1_12 : w1.cell? ⟨w.heap.size + 1, 4, none⟩ = some (.int .i64 x4) := keep_cell (box1 w 37 #[.int .i64 job, .int .i64 x1, .int .i64 x2, .int .i64 x3, .int .i64 x4, .int .i64 x5, .int .i64 x6, .bool t1, .bool t2, .bool t3, .int .u8 ph, .int .i64 tt, .int .i64 si] 4) hB1
  have c1_13 : w1.cell? ⟨w.heap.size + 1, 5, none⟩ = some (.int .i64 x5) := keep_cell (box1 w 37 #[.int .i64 job, .int .i64 x1, .int .i64 x2, .int .i64 x3, .int .i64 x4, .int .i64 x5, .int .i64 x6, .bool t1, .bool t2, .bool t3, .int .u8 ph, .int .i64 tt, .int .i64 si] 5) hB1
  have c1_14 : w1.cell? ⟨w.heap.size + 1, 6, none⟩ = some (.int .i64 x6) := keep_cell (box1 w 37 #[.int .i64 job, .int .i64 x1, .int .i64 x2, .int .i64 x3, .int .i64 x4, .int .i64 x5, .int .i64 x6, .bool t1, .bool t2, .bool t3, .int .u8 ph, .int .i64 tt, .int .i64 si] 6) hB1
  have c1_15 : w1.cell? ⟨w.heap.size + 1, 7, none⟩ = some (.bool t1) := keep_cell (box1 w 37 #[.int .i64 job, .int .i64 x1, .int .i64 x2, .int .i64 x3, .int .i64 x4, .int .i64 x5, .int .i64 x6, .bool t1, .bool t2, .bool t3, .int .u8 ph, .int .i64 tt, .int .i64 si] 7) hB1
  have c1_16 : w1.cell? ⟨w.heap.size + 1, 8, none⟩ = some (.bool t2) := keep_cell (box1 w 37 #[.int .i64 job, .int .i64 x1, .int .i64 x2, .int .i64 x3, .int .i64 x4, .int .i64 x5, .int .i64 x6, .bool t1, .bool t2, .bool t3, .int .u8 ph, .int .i64 tt, .int .i64 si] 8) hB1
  have c1_17 : w1.cell? ⟨w.heap.size + 1, 9, none⟩ = some (.bool t3) := keep_cell (box1 w 37 #[.int .i64 job, .int .i64 x1, .int .i64 x2, .int .i64 x3, .int .i64 x4, .int .i64 x5, .int .i64 x6, .bool t1, .bool t2, .bool t3, .int .u8 ph, .int .i64 tt, .int .i64 si] 9) hB1
  have c1_18 : w1.cell? ⟨w.heap.size + 1, 10, none⟩ = some (.int .u8 ph) := keep_cell (box1 w 37 #[.int .i64 job, .int .i64 x1, .int .i64 x2, .int .i64 x3, .int .i64 x4, .int .i64 x5, .int .i64 x6, .bool t1, .bool t2, .bool t3, .int .u8 ph, .int .i64 tt, .int .i64 si] 10) hB1
  have c1_19 : w1.cell? ⟨w.heap.size + 1, 11, none⟩ = some (.int .i64 tt) := keep_cell (box1 w 37 #[.int .i64 job, .int .i64 x1, .int .i64 x2, .int .i64 x3, .int .i64 x4, .int .i64 x5, .int .i64 x6, .bool t1, .bool t2, .bool t3, .int .u8 ph, .int .i64 tt, .int .i64 si] 11) hB1
  have c1_20 : w1.cell? ⟨w.heap.size + 1, 12, none⟩ = some (.int .i64 si) := keep_cell (box1 w 37 #[.int .i64 job, .int .i64 x1, .int .i64 x2, .int .i64 x3, .int .i64 x4, .int .i64 x5, .int .i64 x6, .bool t1, .bool t2, .bool t3, .int .u8 ph, .int .i64 tt, .int .i64 si] 12) hB1
  have z1_0 : w.heap.size < w1.heap.size := cell_lt c1_0
  have z1_1 : w.heap.size + 1 < w1.heap.size := cell_lt c1_8
  clear hB1  
  go_wp2_with fail
  refine (HEh.out _ (HKK.out.up HB1.out)).mono ?_
  rintro e w2 ⟨rfl, hB2⟩
  have HB2 : Hid (Below w.heap.size w w2) := below_up HB1.out hB2
  have c2_0 : w2.cell? ⟨w.heap.size, 0, none⟩ = some (.int .i64 a) := keep_cell c1_0 hB2
  have c2_1 : w2.cell? ⟨w.heap.size, 1, none⟩ = some (.int .i64 b) := keep_cell c1_1 hB2
  have c2_2 : w2.cell? ⟨w.heap.size, 2, none⟩ = some (.int .i64 c) := keep_cell c1_2 hB2
  have c2_3 : w2.cell? ⟨w.heap.size, 3, none⟩ = some (.int .i64 bo) := keep_cell c1_3 hB2
  have c2_4 : w2.cell? ⟨w.heap.size, 4, none⟩ = some (.int .i64 fr) := keep_cell c1_4 hB2
  have c2_5 : w2.cell? ⟨w.heap.size, 5, none⟩ = some (.int .i64 tr) := keep_cell c1_5 hB2
  have c2_6 : w2.cell? ⟨w.heap.size, 6, none⟩ = some (.int .i64 ag) := keep_cell c1_6 hB2
  have c2_7 : w2.cell? ⟨w.heap.size, 7, none⟩ = some (.slice X ks.length cp) := keep_cell c1_7 hB2
  have c2_8 : w2.cell? ⟨w.heap.size + 1, 0, none⟩ = some (.int .i64 job) := keep_cell c1_8 hB2
  have c2_9 : w2.cell? ⟨w.heap.size + 1, 1, none⟩ = some (.int .i64 x1) := keep_cell c1_9 hB2
  have c2_10 : w2.cell? ⟨w.heap.size + 1, 2, none⟩ = some (.int .i64 x2) := keep_cell c1_10 hB2
  have c2_11 : w2.cell? ⟨w.heap.size + 1, 3, none⟩ = some (.int .i64 x3) := keep_cell c1_11 hB2
  have c2_12 : w2.cell? ⟨w.heap.size + 1, 4, none⟩ = some (.int .i64 x4) := keep_cell c1_12 hB2
  have c2_13 : w2.cell? ⟨w.heap.size + 1, 5, none⟩ = some (.int .i64 x5) := keep_cell c1_13 hB2
  have c2_14 : w2.cell? ⟨w.heap.size + 1, 6, none⟩ = some (.int .i64 x6) := keep_cell c1_14 hB2
  have c2_15 : w2.cell? ⟨w.heap.size + 1, 7, none⟩ = some (.bool t1) := keep_cell c1_15 hB2
  have c2_16 : w2.cell? ⟨w.heap.size + 1, 8, none⟩ = some (.bool t2) := keep_cell c1_16 hB2
  have c2_17 : w2.cell? ⟨w.heap.size + 1, 9, none⟩ = some (.bool t3) := keep_cell c1_17 hB2
  have c2_18 : w2.cell? ⟨w.heap.size + 1, 10, none⟩ = some (.int .u8 ph) := keep_cell c1_18 hB2
  have c2_19 : w2.cell? ⟨w.heap.size + 1, 11, none⟩ = some (.int .i64 tt) := keep_cell c1_19 hB2
  have c2_20 : w2.cell? ⟨w.heap.size + 1, 12, none⟩ = some (.int .i64 si) := keep_cell c1_20 hB2
  have z2_0 : w.heap.size < w2.heap.size := cell_lt c2_0
  have z2_1 : w.heap.size + 1 < w2.heap.size := cell_lt c2_8
  clear hB2 c1_0 c1_1 c1_2 c1_3 c1_4 c1_5 c1_6 c1_7 c1_8 c1_9 c1_10 c1_11 c1_12 c1_13 c1_14 c1_15 c1_16 c1_17 c1_18 c1_19 c1_20 z1_0 z1_1
  go_wp2_with fail
  refine (HTh.out _ (HKK.out.up HB2.out)).mono ?_
  rintro e w3 ⟨rfl, hB3⟩
  have HB3 : Hid (Below w.heap.size w w3) := below_up HB2.out hB3
  have c3_0 : w3.cell? ⟨w.heap.size, 0, none⟩ = some (.int .i64 a) := keep_cell c2_0 hB3
  have c3_1 : w3.cell? ⟨w.heap.size, 1, none⟩ = some (.int .i64 b) := keep_cell c2_1 hB3
  have c3_2 : w3.cell? ⟨w.heap.size, 2, none⟩ = some (.int .i64 c) := keep_cell c2_2 hB3
  have c3_3 : w3.cell? ⟨w.heap.size, 3, none⟩ = some (.int .i64 bo) := keep_cell c2_3 hB3
  have c3_4 : w3.cell? ⟨w.heap.size, 4, none⟩ = some (.int .i64 fr) := keep_cell c2_4 hB3
  have c3_5 : w3.cell? ⟨w.heap.size, 5, none⟩ = some (.int .i64 tr) := keep_cell c2_5 hB3
  have c3_6 : w3.cell? ⟨w.heap.size, 6, none⟩ = some (.int .i64 ag) := keep_cell c2_6 hB3
  have c3_7 : w3.cell? ⟨w.heap.size, 7, none⟩ = some (.slice X ks.length cp) := keep_cell c2_7 hB3
  have c3_8 : w3.cell? ⟨w.heap.size + 1, 0, none⟩ = some (.int .i64 job) := keep_cell c2_8 hB3
  have c3_9 : w3.cell? ⟨w.heap.size + 1, 1, none⟩ = some (.int .i64 x1) := keep_cell c2_9 hB3
  have c3_10 : w3.cell? ⟨w.heap.size + 1, 2, none⟩ = some (.int .i64 x2) := keep_cell c2_10 hB3
  have c3_11 : w3.cell? ⟨w.heap.size + 1, 3, none⟩ = some (.int .i64 x3) := keep_cell c2_11 hB3
  have c3_12 : w3.cell? ⟨w.heap.size + 1, 4, none⟩ = some (.int .i64 x4) := keep_cell c2_12 hB3
  have c3_13 : w3.cell? ⟨w.heap.size + 1, 5, none⟩ = some (.int .i64 x5) := keep_cell c2_13 hB3
  have c3_14 : w3.cell? ⟨w.heap.size + 1, 6, none⟩ = some (.int .i64 x6) := keep_cell c2_14 hB3
  have c3_15 : w3.cell? ⟨w.heap.size + 1, 7, none⟩ = some (.bool t1) := keep_cell c2_15 hB3
  have c3_16 : w3.cell? ⟨w.heap.size + 1, 8, none⟩ = some (.bool t2) := keep_cell c2_16 hB3
  have c3_17 : w3.cell? ⟨w.heap.size + 1, 9, none⟩ = some (.bool t3) := keep_cell c2_17 hB3
  have c3_18 : w3.cell? ⟨w.heap.size + 1, 10, none⟩ = some (.int .u8 ph) := keep_cell c2_18 hB3
  have c3_19 : w3.cell? ⟨w.heap.size + 1, 11, none⟩ = some (.int .i64 tt) := keep_cell c2_19 hB3
  have c3_20 : w3.cell? ⟨w.heap.size + 1, 12, none⟩ = some (.int .i64 si) := keep_cell c2_20 hB3
  have z3_0 : w.heap.size < w3.heap.size := cell_lt c3_0
  have z3_1 : w.heap.size + 1 < w3.heap.size := cell_lt c3_8
  clear hB3 c2_0 c2_1 c2_2 c2_3 c2_4 c2_5 c2_6 c2_7 c2_8 c2_9 c2_10 c2_11 c2_12 c2_13 c2_14 c2_15 c2_16 c2_17 c2_18 c2_19 c2_20 z2_0 z2_1
  go_wp2_with fail
  refine (HXh.out _ (HKK.out.up HB3.out)).mono ?_
  rintro e w4 ⟨rfl, hB4⟩
  have HB4 : Hid (Below w.heap.size w w4) := below_up HB3.out hB4
  have c4_0 : w4.cell? ⟨w.heap.size, 0, none⟩ = some (.int .i64 a) := keep_cell c3_0 hB4
  have c4_1 : w4.cell? ⟨w.heap.size, 1, none⟩ = some (.int .i64 b) := keep_cell c3_1 hB4
  have c4_2 : w4.cell? ⟨w.heap.size, 2, none⟩ = some (.int .i64 c) := keep_cell c3_2 hB4
  have c4_3 : w4.cell? ⟨w.heap.size, 3, none⟩ = some (.int .i64 bo) := keep_cell c3_3 hB4
  have c4_4 : w4.cell? ⟨w.heap.size, 4, none⟩ = some (.int .i64 fr) := keep_cell c3_4 hB4
  have c4_5 : w4.cell? ⟨w.heap.size, 5, none⟩ = some (.int .i64 tr) := keep_cell c3_5 hB4
  have c4_6 : w4.cell? ⟨w.heap.size, 6, none⟩ = some (.int .i64 ag) := keep_cell c3_6 hB4
  have c4_7 : w4.cell? ⟨w.heap.size, 7, none⟩ = some (.slice X ks.length cp) := keep_cell c3_7 hB4
  have c4_8 : w4.cell? ⟨w.heap.size + 1, 0, none⟩ = some (.int .i64 job) := keep_cell c3_8 hB4
  have c4_9 : w4.cell? ⟨w.heap.size + 1, 1, none⟩ = some (.int .i64 x1) := keep_cell c3_9 hB4
  have c4_10 : w4.cell? ⟨w.heap.size + 1, 2, none⟩ = some (.int .i64 x2) := keep_cell c3_10 hB4
  have c4_11 : w4.cell? ⟨w.heap.size + 1, 3, none⟩ = some (.int .i64 x3) := keep_cell c3_11 hB4
  have c4_12 : w4.cell? ⟨w.heap.size + 1, 4, none⟩ = some (.int .i64 x4) := keep_cell c3_12 hB4
  have c4_13 : w4.cell? ⟨w.heap.size + 1, 5, none⟩ = some (.int .i64 x5) := keep_cell c3_13 hB4
  have c4_14 : w4.cell? ⟨w.heap.size + 1, 6, none⟩ = some (.int .i64 x6) := keep_cell c3_14 hB4
  have c4_15 : w4.cell? ⟨w.heap.size + 1, 7, none⟩ = some (.bool t1) := keep_cell c3_15 hB4
  have c4_16 : w4.cell? ⟨w.heap.size + 1, 8, none⟩ = some (.bool t2) := keep_cell c3_16 hB4
  have c4_17 : w4.cell? ⟨w.heap.size + 1, 9, none⟩ = some (.bool t3) := keep_cell c3_17 hB4
  have c4_18 : w4.cell? ⟨w.heap.size + 1, 10, none⟩ = some (.int .u8 ph) := keep_cell c3_18 hB4
  have c4_19 : w4.cell? ⟨w.heap.size + 1, 11, none⟩ = some (.int .i64 tt) := keep_cell c3_19 hB4
  have c4_20 : w4.cell? ⟨w.heap.size + 1, 12, none⟩ = some (.int .i64 si) := keep_cell c3_20 hB4
  have z4_0 : w.heap.size < w4.heap.size := cell_lt c4_0
  have z4_1 : w.heap.size + 1 < w4.heap.size := cell_lt c4_8
  clear hB4 c3_0 c3_1 c3_2 c3_3 c3_4 c3_5 c3_6 c3_7 c3_8 c3_9 c3_10 c3_11 c3_12 c3_13 c3_14 c3_15 c3_16 c3_17 c3_18 c3_19 c3_20 z3_0 z3_1
  go_wp2_with fail
  refine (HE2h.out _ (HKK.out.up (below_alloc HB4.out))).mono ?_
  rintro e w5 ⟨rfl, hB5⟩
  have HB5 : Hid (Below w.heap.size w w5) := below_up (below_alloc HB4.out) hB5
  have c5_0 : w5.cell? ⟨w.heap.size, 0, none⟩ = some (.int .i64 a) := keep_cell (cell_over _ c4_0) hB5
  have c5_1 : w5.cell? ⟨w.heap.size, 1, none⟩ = some (.int .i64 b) := keep_cell (cell_over _ c4_1) hB5
  have c5_2 : w5.cell? ⟨w.heap.size, 2, none⟩ = some (.int .i64 c) := keep_cell (cell_over _ c4_2) hB5
  have c5_3 : w5.cell? ⟨w.heap.size, 3, none⟩ = some (.int .i64 bo) := keep_cell (cell_over _ c4_3) hB5
  have c5_4 : w5.cell? ⟨w.heap.size, 4, none⟩ = some (.int .i64 fr) := keep_cell (cell_over _ c4_4) hB5
  have c5_5 : w5.cell? ⟨w.heap.size, 5, none⟩ = some (.int .i64 tr) := keep_cell (cell_over _ c4_5) hB5
  have c5_6 : w5.cell? ⟨w.heap.size, 6, none⟩ = some (.int .i64 ag) := keep_cell (cell_over _ c4_6) hB5
  have c5_7 : w5.cell? ⟨w.heap.size, 7, none⟩ = some (.slice X ks.length cp) := keep_cell (cell_over _ c4_7) hB5
  have c5_8 : w5.cell? ⟨w.heap.size + 1, 0, none⟩ = some (.int .i64 job) := keep_cell (cell_over _ c4_8) hB5
  have c5_9 : w5.cell? ⟨w.heap.size + 1, 1, none⟩ = some (.int .i64 x1) := keep_cell (cell_over _ c4_9) hB5
  have c5_10 : w5.cell? ⟨w.heap.size + 1, 2, none⟩ = some (.int .i64 x2) := keep_cell (cell_over _ c4_10) hB5
  have c5_11 : w5.cell? ⟨w.heap.size + 1, 3, none⟩ = some (.int .i64 x3) := keep_cell (cell_over _ c4_11) hB5
  have c5_12 : w5.cell? ⟨w.heap.size + 1, 4, none⟩ = some (.int .i64 x4) := keep_cell (cell_over _ c4_12) hB5
  have c5_13 : w5.cell? ⟨w.heap.size + 1, 5, none⟩ = some (.int .i64 x5) := keep_cell (cell_over _ c4_13) hB5
  have c5_14 : w5.cell? ⟨w.heap.size + 1, 6, none⟩ = some (.int .i64 x6) := keep_cell (cell_over _ c4_14) hB5
  have c5_15 : w5.cell? ⟨w.heap.size + 1, 7, none⟩ = some (.bool t1) := keep_cell (cell_over _ c4_15) hB5
  have c5_16 : w5.cell? ⟨w.heap.size + 1, 8, none⟩ = some (.bool t2) := keep_cell (cell_over _ c4_16) hB5
  have c5_17 : w5.cell? ⟨w.heap.size + 1, 9, none⟩ = some (.bool t3) := keep_cell (cell_over _ c4_17) hB5
  have c5_18 : w5.cell? ⟨w.heap.size + 1, 10, none⟩ = some (.int .u8 ph) := keep_cell (cell_over _ c4_18) hB5
  have c5_19 : w5.cell? ⟨w.heap.size + 1, 11, none⟩ = some (.int .i64 tt) := keep_cell (cell_over _ c4_19) hB5
  have c5_20 : w5.cell? ⟨w.heap.size + 1, 12, none⟩ = some (.int .i64 si) := keep_cell (cell_over _ c4_20) hB5
  have c5_21 : w5.cell? ⟨w4.heap.size, 0, none⟩ = some (.int .i64 job) := keep_cell (box0 w4 37 #[.int .i64 job, .int .i64 x1, .int .i64 x2, .int .i64 x3, .int .i64 x4, .int .i64 x5, .int .i64 x6, .bool t1, .bool t2, .bool t3, .int .u8 ph_, .int .i64 tt_, .int .i64 si_] 0) hB5
  have c5_22 : w5.cell? ⟨w4.heap.size, 1, none⟩ = some (.int .i64 x1) := keep_cell (box0 w4 37 #[.int .i64 job, .int .i64 x1, .int .i64 x2, .int .i64 x3, .int .i64 x4, .int .i64 x5, .int .i64 x6, .bool t1, .bool t2, .bool t3, .int .u8 ph_, .int .i64 tt_, .int .i64 si_] 1) hB5
  have c5_23 : w5.cell? ⟨w4.heap.size, 2, none⟩ = some (.int .i64 x2) := keep_cell (box0 w4 37 #[.int .i64 job, .int .i64 x1, .int .i64 x2, .int .i64 x3, .int .i64 x4, .int .i64 x5, .int .i64 x6, .bool t1, .bool t2, .bool t3, .int .u8 ph_, .int .i64 tt_, .int .i64 si_] 2) hB5
  have c5_24 : w5.cell? ⟨w4.heap.size, 3, none⟩ = some (.int .i64 x3) := keep_cell (box0 w4 37 #[.int .i64 job, .int .i64 x1, .int .i64 x2, .int .i64 x3, .int .i64 x4, .int .i64 x5, .int .i64 x6, .bool t1, .bool t2, .bool t3, .int .u8 ph_, .int .i64 tt_, .int .i64 si_] 3) hB5
  have c5_25 : w5.cell? ⟨w4.heap.size, 4, none⟩ = some (.int .i64 x4) := keep_cell (box0 w4 37 #[.int .i64 job, .int .i64 x1, .int .i64 x2, .int .i64 x3, .int .i64 x4, .int .i64 x5, .int .i64 x6, .bool t1, .bool t2, .bool t3, .int .u8 ph_, .int .i64 tt_, .int .i64 si_] 4) hB5
  have c5_26 : w5.cell? ⟨w4.heap.size, 5, none⟩ = some (.int .i64 x5) := keep_cell (box0 w4 37 #[.int .i64 job, .int .i64 x1, .int .i64 x2, .int .i64 x3, .int .i64 x4, .int .i64 x5, .int .i64 x6, .bool t1, .bool t2, .bool t3, .int .u8 ph_, .int .i64 tt_, .int .i64 si_] 5) hB5
  have c5_27 : w5.cell? ⟨w4.heap.size, 6, none⟩ = some (.int .i64 x6) := keep_cell (box0 w4 37 #[.int .i64 job, .int .i64 x1, .int .i64 x2, .int .i64 x3, .int .i64 x4, .int .i64 x5, .int .i64 x6, .bool t1, .bool t2, .bool t3, .int .u8 ph_, .int .i64 tt_, .int .i64 si_] 6) hB5
  have c5_28 : w5.cell? ⟨w4.heap.size, 7, none⟩ = some (.bool t1) := keep_cell (box0 w4 37 #[.int .i64 job, .int .i64 x1, .int .i64 x2, .int .i64 x3, .int .i64 x4, .int .i64 x5, .int .i64 x6, .bool t1, .bool t2, .bool t3, .int .u8 ph_, .int .i64 tt_, .int .i64 si_] 7) hB5
  have c5_29 : w5.cell? ⟨w4.heap.size, 8, none⟩ = some (.bool t2) := keep_cell (box0 w4 37 #[.int .i64 job, .int .i64 x1, .int .i64 x2, .int .i64 x3, .int .i64 x4, .int .i64 x5, .int .i64 x6, .bool t1, .bool t2, .bool t3, .int .u8 ph_, .int .i64 tt_, .int .i64 si_] 8) hB5
  have c5_30 : w5.cell? ⟨w4.heap.size, 9, none⟩ = some (.bool t3) := keep_cell (box0 w4 37 #[.int .i64 job, .int .i64 x1, .int .i64 x2, .int .i64 x3, .int .i64 x4, .int .i64 x5, .int .i64 x6, .bool t1, .bool t2, .bool t3, .int .u8 ph_, .int .i64 tt_, .int .i64 si_] 9) hB5
  have c5_31 : w5.cell? ⟨w4.heap.size, 10, none⟩ = some (.int .u8 ph_) := keep_cell (box0 w4 37 #[.int .i64 job, .int .i64 x1, .int .i64 x2, .int .i64 x3, .int .i64 x4, .int .i64 x5, .int .i64 x6, .bool t1, .bool t2, .bool t3, .int .u8 ph_, .int .i64 tt_, .int .i64 si_] 10) hB5
  have c5_32 : w5.cell? ⟨w4.heap.size, 11, none⟩ = some (.int .i64 tt_) := keep_cell (box0 w4 37 #[.int .i64 job, .int .i64 x1, .int .i64 x2, .int .i64 x3, .int .i64 x4, .int .i64 x5, .int .i64 x6, .bool t1, .bool t2, .bool t3, .int .u8 ph_, .int .i64 tt_, .int .i64 si_] 11) hB5
  have c5_33 : w5.cell? ⟨w4.heap.size, 12, none⟩ = some (.int .i64 si_) := keep_cell (box0 w4 37 #[.int .i64 job, .int .i64 x1, .int .i64 x2, .int .i64 x3, .int .i64 x4, .int .i64 x5, .int .i64 x6, .bool t1, .bool t2, .bool t3, .int .u8 ph_, .int .i64 tt_, .int .i64 si_] 12) hB5
  have z5_0 : w.heap.size < w5.heap.size := cell_lt c5_0
  have z5_1 : w.heap.size + 1 < w5.heap.size := cell_lt c5_8
  have z5_2 : w4.heap.size < w5.heap.size := cell_lt c5_21
  clear hB5 c4_0 c4_1 c4_2 c4_3 c4_4 c4_5 c4_6 c4_7 c4_8 c4_9 c4_10 c4_11 c4_12 c4_13 c4_14 c4_15 c4_16 c4_17 c4_18 c4_19 c4_20 z4_0 z4_1
  go_wp2_with fail
  go_ret
  exact ⟨rfl, HB5.out⟩
end Go.Proofs.Ytfndopemfhmhgaa.PartPromiseC
