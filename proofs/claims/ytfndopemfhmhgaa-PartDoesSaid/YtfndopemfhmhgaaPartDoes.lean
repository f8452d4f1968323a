/- The walk of PartDoes: the program's answers are the reference's. -/
import Derived.Test.YtfndopemfhmhgaaPartAll
import Derived.Test.YtfndopemfhmhgaaPartRef2
import Derived.Test.YtfndopemfhmhgaaPartEq
import Derived.Lib.QuietBelow
import Derived.BigQuiet
namespace Go.Proofs.Ytfndopemfhmhgaa.PartDoes
open Go.RowKit Go.Sort Mem PosMath PosCheck PartMath PartClass PartCheck PartEnds PartEnds2 PartTable PartNext PartTurn PartAll PartRef PartRef2
set_option linter.unusedVariables false

set_option maxRecDepth 100000 in
set_option maxHeartbeats 2000000 in
theorem does_many (a b c bo fr tr ag : Int) (X : Option Addr) (cp : Nat) (ks : List Cls) (hl : ks.length ≤ 9223372036854775807) (job x1 x2 x3 x4 x5 x6 : Int) (t1 t2 t3 : Bool) (ph tt si : Int) (wall turn now : Int) (hn : 100 < ks.length) (w : World) (hk : ClsAt w w.heap.size X ks) :
    Calls Try.prog 5 #[.agg #[.int .i64 a, .int .i64 b, .int .i64 c, .int .i64 bo, .int .i64 fr, .int .i64 tr, .int .i64 ag, .slice X ks.length cp], .agg #[.int .i64 job, .int .i64 x1, .int .i64 x2, .int .i64 x3, .int .i64 x4, .int .i64 x5, .int .i64 x6, .bool t1, .bool t2, .bool t3, .int .u8 ph, .int .i64 tt, .int .i64 si], .int .i64 wall, .int .u8 turn, .int .i64 now] w (fun e w' => e = .returned (.bool true) ∧ Below w.heap.size w w') := by
  have HKK := Lib.hid hk
  clear hk
  go_enter Try.func5, Try.ntmps5
  go_wp2_with fail
  go_ret
  exact ⟨rfl, below_alloc (below_alloc (Below.refl _ _))⟩
theorem same_part (job_ x1_ x2_ x3_ x4_ x5_ x6_ : Int) (t1_ t2_ t3_ : Bool) (ph_ tt_ si_ : Int) (w : World) : (Op.equalIn 10000 37 (.agg #[.int .i64 job_, .int .i64 x1_, .int .i64 x2_, .int .i64 x3_, .int .i64 x4_, .int .i64 x5_, .int .i64 x6_, .bool t1_, .bool t2_, .bool t3_, .int .u8 ph_, .int .i64 tt_, .int .i64 si_]) (.agg #[.int .i64 job_, .int .i64 x1_, .int .i64 x2_, .int .i64 x3_, .int .i64 x4_, .int .i64 x5_, .int .i64 x6_, .bool t1_, .bool t2_, .bool t3_, .int .u8 ph_, .int .i64 tt_, .int .i64 si_])).run Try.prog w = .ok true w :=
  PartEq.self_part 9995 job_ x1_ x2_ x3_ x4_ x5_ x6_ t1_ t2_ t3_ ph_ tt_ si_ w
set_option maxRecDepth 100000 in
set_option maxHeartbeats 16000000 in
theorem does_ok (a b c bo fr tr ag : Int) (X : Option Addr) (cp : Nat) (ks : List Cls) (hl : ks.length ≤ 9223372036854775807) (job x1 x2 x3 x4 x5 x6 : Int) (t1 t2 t3 : Bool) (ph tt si : Int) (wall turn now : Int) (hn : ¬ 100 < ks.length) (ea ee tb te : Int) (hE : endsV a b c bo fr tr ag ks ⟨job, x1, x2, x3, x4, x5, x6, t1, t2, t3, ph, tt, si⟩ wall = (ea, ee)) (hT : turnsV a b c bo fr tr ag ks ⟨job, x1, x2, x3, x4, x5, x6, t1, t2, t3, ph, tt, si⟩ wall = (tb, te)) (nj ne : Int) (ng : Bool) (job_ x1_ x2_ x3_ x4_ x5_ x6_ : Int) (t1_ t2_ t3_ : Bool) (ph_ tt_ si_ : Int) (hX : nextA a b c bo fr tr ag ks ⟨job, x1, x2, x3, x4, x5, x6, t1, t2, t3, ph, tt, si⟩ turn now = (⟨job_, x1_, x2_, x3_, x4_, x5_, x6_, t1_, t2_, t3_, ph_, tt_, si_⟩, nj, ng, ne)) (k : Int) (hk1 : ∀ (w : World) (hk : ClsAt w w.heap.size X ks), Calls Try.prog 10 #[.agg #[.int .i64 a, .int .i64 b, .int .i64 c, .int .i64 bo, .int .i64 fr, .int .i64 tr, .int .i64 ag, .slice X ks.length cp]] w (fun e w' => e = .returned (.int .i64 k) ∧ Below w.heap.size w w')) (hk2 : ∀ (w : World) (hk : ClsAt w w.heap.size X ks), Calls Try.prog 19 #[.agg #[.int .i64 a, .int .i64 b, .int .i64 c, .int .i64 bo, .int .i64 fr, .int .i64 tr, .int .i64 ag, .slice X ks.length cp]] w (fun e w' => e = .returned (.int .i64 k) ∧ Below w.heap.size w w')) (w : World) (hk : ClsAt w w.heap.size X ks) :
    Calls Try.prog 5 #[.agg #[.int .i64 a, .int .i64 b, .int .i64 c, .int .i64 bo, .int .i64 fr, .int .i64 tr, .int .i64 ag, .slice X ks.length cp], .agg #[.int .i64 job, .int .i64 x1, .int .i64 x2, .int .i64 x3, .int .i64 x4, .int .i64 x5, .int .i64 x6, .bool t1, .bool t2, .bool t3, .int .u8 ph, .int .i64 tt, .int .i64 si], .int .i64 wall, .int .u8 turn, .int .i64 now] w (fun e w' => e = .returned (.bool true) ∧ Below w.heap.size w w') := by
  have HE : ∀ (w : World) (hk : ClsAt w w.heap.size X ks), Calls Try.prog 14 #[.agg #[.int .i64 a, .int .i64 b, .int .i64 c, .int .i64 bo, .int .i64 fr, .int .i64 tr, .int .i64 ag, .slice X ks.length cp], .agg #[.int .i64 job, .int .i64 x1, .int .i64 x2, .int .i64 x3, .int .i64 x4, .int .i64 x5, .int .i64 x6, .bool t1, .bool t2, .bool t3, .int .u8 ph, .int .i64 tt, .int .i64 si], .int .i64 wall] w (fun e w' => e = .returned (.tuple #[.int .i64 ea, .int .i64 ee]) ∧ Below w.heap.size w w') := fun w hk => by
    have := ends_any a b c bo fr tr ag X cp ks hl ⟨job, x1, x2, x3, x4, x5, x6, t1, t2, t3, ph, tt, si⟩ wall w hk
    rw [hE] at this
    exact this
  have HEh := Lib.hid HE
  clear HE
  have RE : ∀ (w : World) (hk : ClsAt w w.heap.size X ks), Calls Try.prog 15 #[.agg #[.int .i64 a, .int .i64 b, .int .i64 c, .int .i64 bo, .int .i64 fr, .int .i64 tr, .int .i64 ag, .slice X ks.length cp], .agg #[.int .i64 job, .int .i64 x1, .int .i64 x2, .int .i64 x3, .int .i64 x4, .int .i64 x5, .int .i64 x6, .bool t1, .bool t2, .bool t3, .int .u8 ph, .int .i64 tt, .int .i64 si], .int .i64 wall] w (fun e w' => e = .returned (.tuple #[.int .i64 ea, .int .i64 ee]) ∧ Below w.heap.size w w') := fun w hk => by
    have := rends_any a b c bo fr tr ag X cp ks hl ⟨job, x1, x2, x3, x4, x5, x6, t1, t2, t3, ph, tt, si⟩ wall w hk
    rw [hE] at this
    exact this
  have REh := Lib.hid RE
  clear RE
  have HT : ∀ (w : World) (hk : ClsAt w w.heap.size X ks), Calls Try.prog 16 #[.agg #[.int .i64 a, .int .i64 b, .int .i64 c, .int .i64 bo, .int .i64 fr, .int .i64 tr, .int .i64 ag, .slice X ks.length cp], .agg #[.int .i64 job, .int .i64 x1, .int .i64 x2, .int .i64 x3, .int .i64 x4, .int .i64 x5, .int .i64 x6, .bool t1, .bool t2, .bool t3, .int .u8 ph, .int .i64 tt, .int .i64 si], .int .i64 wall] w (fun e w' => e = .returned (.tuple #[.int .i64 tb, .int .i64 te]) ∧ Below w.heap.size w w') := fun w hk => by
    have := turns_any a b c bo fr tr ag X cp ks hl ⟨job, x1, x2, x3, x4, x5, x6, t1, t2, t3, ph, tt, si⟩ wall w hk
    rw [hT] at this
    exact this
  have HTh := Lib.hid HT
  clear HT
  have RT : ∀ (w : World) (hk : ClsAt w w.heap.size X ks), Calls Try.prog 17 #[.agg #[.int .i64 a, .int .i64 b, .int .i64 c, .int .i64 bo, .int .i64 fr, .int .i64 tr, .int .i64 ag, .slice X ks.length cp], .agg #[.int .i64 job, .int .i64 x1, .int .i64 x2, .int .i64 x3, .int .i64 x4, .int .i64 x5, .int .i64 x6, .bool t1, .bool t2, .bool t3, .int .u8 ph, .int .i64 tt, .int .i64 si], .int .i64 wall] w (fun e w' => e = .returned (.tuple #[.int .i64 tb, .int .i64 te]) ∧ Below w.heap.size w w') := fun w hk => by
    have := rturns_any a b c bo fr tr ag X cp ks hl ⟨job, x1, x2, x3, x4, x5, x6, t1, t2, t3, ph, tt, si⟩ wall w hk
    rw [hT] at this
    exact this
  have RTh := Lib.hid RT
  clear RT
  have HX : ∀ (w : World) (hk : ClsAt w w.heap.size X ks), Calls Try.prog 11 #[.agg #[.int .i64 a, .int .i64 b, .int .i64 c, .int .i64 bo, .int .i64 fr, .int .i64 tr, .int .i64 ag, .slice X ks.length cp], .agg #[.int .i64 job, .int .i64 x1, .int .i64 x2, .int .i64 x3, .int .i64 x4, .int .i64 x5, .int .i64 x6, .bool t1, .bool t2, .bool t3, .int .u8 ph, .int .i64 tt, .int .i64 si], .int .u8 turn, .int .i64 now] w (fun e w' => e = .returned (.tuple #[.agg #[.int .i64 job_, .int .i64 x1_, .int .i64 x2_, .int .i64 x3_, .int .i64 x4_, .int .i64 x5_, .int .i64 x6_, .bool t1_, .bool t2_, .bool t3_, .int .u8 ph_, .int .i64 tt_, .int .i64 si_], .int .u8 nj, .bool ng, .int .i64 ne]) ∧ Below w.heap.size w w') := fun w hk => by
    have := next_any a b c bo fr tr ag X cp ks hl ⟨job, x1, x2, x3, x4, x5, x6, t1, t2, t3, ph, tt, si⟩ turn now w hk
    rw [hX] at this
    exact this
  have HXh := Lib.hid HX
  clear HX
  have RX : ∀ (w : World) (hk : ClsAt w w.heap.size X ks), Calls Try.prog 18 #[.agg #[.int .i64 a, .int .i64 b, .int .i64 c, .int .i64 bo, .int .i64 fr, .int .i64 tr, .int .i64 ag, .slice X ks.length cp], .agg #[.int .i64 job, .int .i64 x1, .int .i64 x2, .int .i64 x3, .int .i64 x4, .int .i64 x5, .int .i64 x6, .bool t1, .bool t2, .bool t3, .int .u8 ph, .int .i64 tt, .int .i64 si], .int .u8 turn, .int .i64 now] w (fun e w' => e = .returned (.tuple #[.agg #[.int .i64 job_, .int .i64 x1_, .int .i64 x2_, .int .i64 x3_, .int .i64 x4_, .int .i64 x5_, .int .i64 x6_, .bool t1_, .bool t2_, .bool t3_, .int .u8 ph_, .int .i64 tt_, .int .i64 si_], .int .u8 nj, .bool ng, .int .i64 ne]) ∧ Below w.heap.size w w') := fun w hk => by
    have := rnext_any a b c bo fr tr ag X cp ks hl ⟨job, x1, x2, x3, x4, x5, x6, t1, t2, t3, ph, tt, si⟩ turn now w hk
    rw [hX] at this
    exact this
  have RXh := Lib.hid RX
  clear RX
  have HK1 := Lib.hid hk1
  have HK2 := Lib.hid hk2
  have hsp := same_part job_ x1_ x2_ x3_ x4_ x5_ x6_ t1_ t2_ t3_ ph_ tt_ si_
  have HKK := Lib.hid hk
  clear hE hT hX hk1 hk2 hk
  go_enter Try.func5, Try.ntmps5
  go_wp2_with fail
  refine (HEh.out _ (HKK.out.up (below_alloc (below_alloc (Below.refl _ _))))).mono ?_
  rintro e w1 ⟨rfl, hB1⟩
  have HB1 : Hid (Below w.heap.size w w1) := below_up (below_alloc (below_alloc (Below.refl _ _))) hB1
  have c1_0 : w1.cell? ⟨w.heap.size, 0, none⟩ = some (.int .i64 a) := keep_cell (cell_over _ (box0 w 26 #[.int .i64 a, .int .i64 b, .int .i64 c, .int .i64 bo, .int .i64 fr, .int .i64 tr, .int .i64 ag, .slice X ks.length cp] 0)) hB1
  have c1_1 : w1.cell? ⟨w.heap.size, 1, none⟩ = some (.int .i64 b) := keep_cell (cell_over _ (box0 w 26 #[.int .i64 a, .int .i64 b, .int .i64 c, .int .i64 bo, .int .i64 fr, .int .i64 tr, .int .i64 ag, .slice X ks.length cp] 1)) hB1
  have c1_2 : w1.cell? ⟨w.heap.size, 2, none⟩ = some (.int .i64 c) := keep_cell (cell_over _ (box0 w 26 #[.int .i64 a, .int .i64 b, .int .i64 c, .int .i64 bo, .int .i64 fr, .int .i64 tr, .int .i64 ag, .slice X ks.length cp] 2)) hB1
  have c1_3 : w1.cell? ⟨w.heap.size, 3, none⟩ = some (.int .i64 bo) := keep_cell (cell_over _ (box0 w 26 #[.int .i64 a, .int .i64 b, .int .i64 c, .int .i64 bo, .int .i64 fr, .int .i64 tr, .int .i64 ag, .slice X ks.length cp] 3)) hB1
  have c1_4 : w1.cell? ⟨w.heap.size, 4, none⟩ = some (.int .i64 fr) := keep_cell (cell_over _ (box0 w 26 #[.int .i64 a, .int .i64 b, .int .i64 c, .int .i64 bo, .int .i64 fr, .int .i64 tr, .int .i64 ag, .slice X ks.length cp] 4)) hB1
  have c1_5 : w1.cell? ⟨w.heap.size, 5, none⟩ = some (.int .i64 tr) := keep_cell (cell_over _ (box0 w 26 #[.int .i64 a, .int .i64 b, .int .i64 c, .int .i64 bo, .int .i64 fr, .int .i64 tr, .int .i64 ag, .slice X ks.length cp] 5)) hB1
  have c1_6 : w1.cell? ⟨w.heap.size, 6, none⟩ = some (.int .i64 ag) := keep_cell (cell_over _ (box0 w 26 #[.int .i64 a, .int .i64 b, .int .i64 c, .int .i64 bo, .int .i64 fr, .int .i64 tr, .int .i64 ag, .slice X ks.length cp] 6)) hB1
  have c1_7 : w1.cell? ⟨w.heap.size, 7, none⟩ = some (.slice X ks.length cp) := keep_cell (cell_over _ (box0 w 26 #[.int .i64 a, .int .i64 b, .int .i64 c, .int .i64 bo, .int .i64 fr, .int .i64 tr, .int .i64 ag, .slice X ks.length cp] 7)) hB1
  have c1_8 : w1.cell? ⟨w.heap.size + 1, 0, none⟩ = some (.int .i64 job) := keep_cell (box1 w 37 #[.int .i64 job, .int .i64 x1, .int .i64 x2, .int .i64 x3, .int .i64 x4, .int .i64 x5, .int .i64 x6, .bool t1, .bool t2, .bool t3, .int .u8 ph, .int .i64 tt, .int .i64 si] 0) hB1
  have c1_9 : w1.cell? ⟨w.heap.size + 1, 1, none⟩ = some (.int .i64 x1) := keep_cell (box1 w 37 #[.int .i64 job, .int .i64 x1, .int .i64 x2, .int .i64 x3, .int .i64 x4, .int .i64 x5, .int .i64 x6, .bool t1, .bool t2, .bool t3, .int .u8 ph, .int .i64 tt, .int .i64 si] 1) hB1
  have c1_10 : w1.cell? ⟨w.heap.size + 1, 2, none⟩ = some (.int .i64 x2) := keep_cell (box1 w 37 #[.int .i64 job, .int .i64 x1, .int .i64 x2, .int .i64 x3, .int .i64 x4, .int .i64 x5, .int .i64 x6, .bool t1, .bool t2, .bool t3, .int .u8 ph, .int .i64 tt, .int .i64 si] 2) hB1
  have c1_11 : w1.cell? ⟨w.heap.size + 1, 3, none⟩ = some (.int .i64 x3) := keep_cell (box1 w 37 #[.int .i64 job, .int .i64 x1, .int .i64 x2, .int .i64 x3, .int .i64 x4, .int .i64 x5, .int .i64 x6, .bool t1, .bool t2, .bool t3, .int .u8 ph, .int .i64 tt, .int .i64 si] 3) hB1
  have c1_12 : w1.cell? ⟨w.heap.size + 1, 4, none⟩ = some (.int .i64 x4) := keep_cell (box1 w 37 #[.int .i64 job, .int .i64 x1, .int .i64 x2, .int .i64 x3, .int .i64 x4, .int .i64 x5, .int .i64 x6, .bool t1, .bool t2, .bool t3, .int .u8 ph, .int .i64 tt, .int .i64 si] 4) hB1
  have c1_13 : w1.cell? ⟨w.heap.size + 1, 5, none⟩ = some (.int .i64 x5) := keep_cell (box1 w 37 #[.int .i64 job, .int .i64 x1, .int .i64 x2, .int .i64 x3, .int .i64 x4, .int .i64 x5, .int .i64 x6, .bool t1, .bool t2, .bool t3, .int .u8 ph, .int .i64 tt, .int .i64 si] 5) hB1
  have c1_14 : w1.cell? ⟨w.heap.size + 1, 6, none⟩ = some (.int .i64 x6) := keep_cell (box1 w 37 #[.int .i64 job, .int .i64 x1, .int .i64 x2, .int .i64 x3, .int .i64 x4, .int .i64 x5, .int .i64 x6, .bool t1, .bool t2, .bool t3, .int .u8 ph, .int .i64 tt, .int .i64 si] 6) hB1
  have c1_15 : w1.cell? ⟨w.heap.size + 1, 7, none⟩ = some (.bool t1) := keep_cell (box1 w 37 #[.int .i64 job, .int .i64 x1, .int .i64 x2, .int .i64 x3, .int .i64 x4, .int .i64 x5, .int .i64 x6, .bool t1, .bool t2, .bool t3, .int .u8 ph, .int .i64 tt, .int .i64 si] 7) hB1
  have c1_16 : w1.cell? ⟨w.heap.size + 1, 8, none⟩ = some (.bool t2) := keep_cell (box1 w 37 #[.int .i64 job, .int .i64 x1, .int .i64 x2, .int .i64 x3, .int .i64 x4, .int .i64 x5, .int .i64 x6, .bool t1, .bool t2, .bool t3, .int .u8 ph, .int .i64 tt, .int .i64 si] 8) hB1
  have c1_17 : w1.cell? ⟨w.heap.size + 1, 9, none⟩ = some (.bool t3) := keep_cell (box1 w 37 #[.int .i64 job, .int .i64 x1, .int .i64 x2, .int .i64 x3, .int .i64 x4, .int .i64 x5, .int .i64 x6, .bool t1, .bool t2, .bool t3, .int .u8 ph, .int .i64 tt, .int .i64 si] 9) hB1
  have c1_18 : w1.cell? ⟨w.heap.size + 1, 10, none⟩ = some (.int .u8 ph) := keep_cell (box1 w 37 #[.int .i64 job, .int .i64 x1, .int .i64 x2, .int .i64 x3, .int .i64 x4, .int .i64 x5, .int .i64 x6, .bool t1, .bool t2, .bool t3, .int .u8 ph, .int .i64 tt, .int .i64 si] 10) hB1
  have c1_19 : w1.cell? ⟨w.heap.size + 1, 11, none⟩ = some (.int .i64 tt) := keep_cell (box1 w 37 #[.int .i64 job, .int .i64 x1, .int .i64 x2, .int .i64 x3, .int .i64 x4, .int .i64 x5, .int .i64 x6, .bool t1, .bool t2, .bool t3, .int .u8 ph, .int .i64 tt, .int .i64 si] 11) hB1
  have c1_20 : w1.cell? ⟨w.heap.size + 1, 12, none⟩ = some (.int .i64 si) := keep_cell (box1 w 37 #[.int .i64 job, .int .i64 x1, .int .i64 x2, .int .i64 x3, .int .i64 x4, .int .i64 x5, .int .i64 x6, .bool t1, .bool t2, .bool t3, .int .u8 ph, .int .i64 tt, .int .i64 si] 12) hB1
  have z1_0 : w.heap.size < w1.heap.size := cell_lt c1_0
  have z1_1 : w.heap.size + 1 < w1.heap.size := cell_lt c1_8
  clear hB1  
  go_wp2_with fail
  refine (REh.out _ (HKK.out.up HB1.out)).mono ?_
  rintro e w2 ⟨rfl, hB2⟩
  have HB2 : Hid (Below w.heap.size w w2) := below_up HB1.out hB2
  have c2_0 : w2.cell? ⟨w.heap.size, 0, none⟩ = some (.int .i64 a) := keep_cell c1_0 hB2
  have c2_1 : w2.cell? ⟨w.heap.size, 1, none⟩ = some (.int .i64 b) := keep_cell c1_1 hB2
  have c2_2 : w2.cell? ⟨w.heap.size, 2, none⟩ = some (.int .i64 c) := keep_cell c1_2 hB2
  have c2_3 : w2.cell? ⟨w.heap.size, 3, none⟩ = some (.int .i64 bo) := keep_cell c1_3 hB2
  have c2_4 : w2.cell? ⟨w.heap.size, 4, none⟩ = some (.int .i64 fr) := keep_cell c1_4 hB2
  have c2_5 : w2.cell? ⟨w.heap.size, 5, none⟩ = some (.int .i64 tr) := keep_cell c1_5 hB2
  have c2_6 : w2.cell? ⟨w.heap.size, 6, none⟩ = some (.int .i64 ag) := keep_cell c1_6 hB2
  have c2_7 : w2.cell? ⟨w.heap.size, 7, none⟩ = some (.slice X ks.length cp) := keep_cell c1_7 hB2
  have c2_8 : w2.cell? ⟨w.heap.size + 1, 0, none⟩ = some (.int .i64 job) := keep_cell c1_8 hB2
  have c2_9 : w2.cell? ⟨w.heap.size + 1, 1, none⟩ = some (.int .i64 x1) := keep_cell c1_9 hB2
  have c2_10 : w2.cell? ⟨w.heap.size + 1, 2, none⟩ = some (.int .i64 x2) := keep_cell c1_10 hB2
  have c2_11 : w2.cell? ⟨w.heap.size + 1, 3, none⟩ = some (.int .i64 x3) := keep_cell c1_11 hB2
  have c2_12 : w2.cell? ⟨w.heap.size + 1, 4, none⟩ = some (.int .i64 x4) := keep_cell c1_12 hB2
  have c2_13 : w2.cell? ⟨w.heap.size + 1, 5, none⟩ = some (.int .i64 x5) := keep_cell c1_13 hB2
  have c2_14 : w2.cell? ⟨w.heap.size + 1, 6, none⟩ = some (.int .i64 x6) := keep_cell c1_14 hB2
  have c2_15 : w2.cell? ⟨w.heap.size + 1, 7, none⟩ = some (.bool t1) := keep_cell c1_15 hB2
  have c2_16 : w2.cell? ⟨w.heap.size + 1, 8, none⟩ = some (.bool t2) := keep_cell c1_16 hB2
  have c2_17 : w2.cell? ⟨w.heap.size + 1, 9, none⟩ = some (.bool t3) := keep_cell c1_17 hB2
  have c2_18 : w2.cell? ⟨w.heap.size + 1, 10, none⟩ = some (.int .u8 ph) := keep_cell c1_18 hB2
  have c2_19 : w2.cell? ⟨w.heap.size + 1, 11, none⟩ = some (.int .i64 tt) := keep_cell c1_19 hB2
  have c2_20 : w2.cell? ⟨w.heap.size + 1, 12, none⟩ = some (.int .i64 si) := keep_cell c1_20 hB2
  have z2_0 : w.heap.size < w2.heap.size := cell_lt c2_0
  have z2_1 : w.heap.size + 1 < w2.heap.size := cell_lt c2_8
  clear hB2 c1_0 c1_1 c1_2 c1_3 c1_4 c1_5 c1_6 c1_7 c1_8 c1_9 c1_10 c1_11 c1_12 c1_13 c1_14 c1_15 c1_16 c1_17 c1_18 c1_19 c1_20 z1_0 z1_1
  go_wp2_with fail
  refine (HTh.out _ (HKK.out.up HB2.out)).mono ?_
  rintro e w3 ⟨rfl, hB3⟩
  have HB3 : Hid (Below w.heap.size w w3) := below_up HB2.out hB3
  have c3_0 : w3.cell? ⟨w.heap.size, 0, none⟩ = some (.int .i64 a) := keep_cell c2_0 hB3
  have c3_1 : w3.cell? ⟨w.heap.size, 1, none⟩ = some (.int .i64 b) := keep_cell c2_1 hB3
  have c3_2 : w3.cell? ⟨w.heap.size, 2, none⟩ = some (.int .i64 c) := keep_cell c2_2 hB3
  have c3_3 : w3.cell? ⟨w.heap.size, 3, none⟩ = some (.int .i64 bo) := keep_cell c2_3 hB3
  have c3_4 : w3.cell? ⟨w.heap.size, 4, none⟩ = some (.int .i64 fr) := keep_cell c2_4 hB3
  have c3_5 : w3.cell? ⟨w.heap.size, 5, none⟩ = some (.int .i64 tr) := keep_cell c2_5 hB3
  have c3_6 : w3.cell? ⟨w.heap.size, 6, none⟩ = some (.int .i64 ag) := keep_cell c2_6 hB3
  have c3_7 : w3.cell? ⟨w.heap.size, 7, none⟩ = some (.slice X ks.length cp) := keep_cell c2_7 hB3
  have c3_8 : w3.cell? ⟨w.heap.size + 1, 0, none⟩ = some (.int .i64 job) := keep_cell c2_8 hB3
  have c3_9 : w3.cell? ⟨w.heap.size + 1, 1, none⟩ = some (.int .i64 x1) := keep_cell c2_9 hB3
  have c3_10 : w3.cell? ⟨w.heap.size + 1, 2, none⟩ = some (.int .i64 x2) := keep_cell c2_10 hB3
  have c3_11 : w3.cell? ⟨w.heap.size + 1, 3, none⟩ = some (.int .i64 x3) := keep_cell c2_11 hB3
  have c3_12 : w3.cell? ⟨w.heap.size + 1, 4, none⟩ = some (.int .i64 x4) := keep_cell c2_12 hB3
  have c3_13 : w3.cell? ⟨w.heap.size + 1, 5, none⟩ = some (.int .i64 x5) := keep_cell c2_13 hB3
  have c3_14 : w3.cell? ⟨w.heap.size + 1, 6, none⟩ = some (.int .i64 x6) := keep_cell c2_14 hB3
  have c3_15 : w3.cell? ⟨w.heap.size + 1, 7, none⟩ = some (.bool t1) := keep_cell c2_15 hB3
  have c3_16 : w3.cell? ⟨w.heap.size + 1, 8, none⟩ = some (.bool t2) := keep_cell c2_16 hB3
  have c3_17 : w3.cell? ⟨w.heap.size + 1, 9, none⟩ = some (.bool t3) := keep_cell c2_17 hB3
  have c3_18 : w3.cell? ⟨w.heap.size + 1, 10, none⟩ = some (.int .u8 ph) := keep_cell c2_18 hB3
  have c3_19 : w3.cell? ⟨w.heap.size + 1, 11, none⟩ = some (.int .i64 tt) := keep_cell c2_19 hB3
  have c3_20 : w3.cell? ⟨w.heap.size + 1, 12, none⟩ = some (.int .i64 si) := keep_cell c2_20 hB3
  have z3_0 : w.heap.size < w3.heap.size := cell_lt c3_0
  have z3_1 : w.heap.size + 1 < w3.heap.size := cell_lt c3_8
  clear hB3 c2_0 c2_1 c2_2 c2_3 c2_4 c2_5 c2_6 c2_7 c2_8 c2_9 c2_10 c2_11 c2_12 c2_13 c2_14 c2_15 c2_16 c2_17 c2_18 c2_19 c2_20 z2_0 z2_1
  go_wp2_with fail
  refine (RTh.out _ (HKK.out.up HB3.out)).mono ?_
  rintro e w4 ⟨rfl, hB4⟩
  have HB4 : Hid (Below w.heap.size w w4) := below_up HB3.out hB4
  have c4_0 : w4.cell? ⟨w.heap.size, 0, none⟩ = some (.int .i64 a) := keep_cell c3_0 hB4
  have c4_1 : w4.cell? ⟨w.heap.size, 1, none⟩ = some (.int .i64 b) := keep_cell c3_1 hB4
  have c4_2 : w4.cell? ⟨w.heap.size, 2, none⟩ = some (.int .i64 c) := keep_cell c3_2 hB4
  have c4_3 : w4.cell? ⟨w.heap.size, 3, none⟩ = some (.int .i64 bo) := keep_cell c3_3 hB4
  have c4_4 : w4.cell? ⟨w.heap.size, 4, none⟩ = some (.int .i64 fr) := keep_cell c3_4 hB4
  have c4_5 : w4.cell? ⟨w.heap.size, 5, none⟩ = some (.int .i64 tr) := keep_cell c3_5 hB4
  have c4_6 : w4.cell? ⟨w.heap.size, 6, none⟩ = some (.int .i64 ag) := keep_cell c3_6 hB4
  have c4_7 : w4.cell? ⟨w.heap.size, 7, none⟩ = some (.slice X ks.length cp) := keep_cell c3_7 hB4
  have c4_8 : w4.cell? ⟨w.heap.size + 1, 0, none⟩ = some (.int .i64 job) := keep_cell c3_8 hB4
  have c4_9 : w4.cell? ⟨w.heap.size + 1, 1, none⟩ = some (.int .i64 x1) := keep_cell c3_9 hB4
  have c4_10 : w4.cell? ⟨w.heap.size + 1, 2, none⟩ = some (.int .i64 x2) := keep_cell c3_10 hB4
  have c4_11 : w4.cell? ⟨w.heap.size + 1, 3, none⟩ = some (.int .i64 x3) := keep_cell c3_11 hB4
  have c4_12 : w4.cell? ⟨w.heap.size + 1, 4, none⟩ = some (.int .i64 x4) := keep_cell c3_12 hB4
  have c4_13 : w4.cell? ⟨w.heap.size + 1, 5, none⟩ = some (.int .i64 x5) := keep_cell c3_13 hB4
  have c4_14 : w4.cell? ⟨w.heap.size + 1, 6, none⟩ = some (.int .i64 x6) := keep_cell c3_14 hB4
  have c4_15 : w4.cell? ⟨w.heap.size + 1, 7, none⟩ = some (.bool t1) := keep_cell c3_15 hB4
  have c4_16 : w4.cell? ⟨w.heap.size + 1, 8, none⟩ = some (.bool t2) := keep_cell c3_16 hB4
  have c4_17 : w4.cell? ⟨w.heap.size + 1, 9, none⟩ = some (.bool t3) := keep_cell c3_17 hB4
  have c4_18 : w4.cell? ⟨w.heap.size + 1, 10, none⟩ = some (.int .u8 ph) := keep_cell c3_18 hB4
  have c4_19 : w4.cell? ⟨w.heap.size + 1, 11, none⟩ = some (.int .i64 tt) := keep_cell c3_19 hB4
  have c4_20 : w4.cell? ⟨w.heap.size + 1, 12, none⟩ = some (.int .i64 si) := keep_cell c3_20 hB4
  have z4_0 : w.heap.size < w4.heap.size := cell_lt c4_0
  have z4_1 : w.heap.size + 1 < w4.heap.size := cell_lt c4_8
  clear hB4 c3_0 c3_1 c3_2 c3_3 c3_4 c3_5 c3_6 c3_7 c3_8 c3_9 c3_10 c3_11 c3_12 c3_13 c3_14 c3_15 c3_16 c3_17 c3_18 c3_19 c3_20 z3_0 z3_1
  go_wp2_with fail
  refine (HXh.out _ (HKK.out.up HB4.out)).mono ?_
  rintro e w5 ⟨rfl, hB5⟩
  have HB5 : Hid (Below w.heap.size w w5) := below_up HB4.out hB5
  have c5_0 : w5.cell? ⟨w.heap.size, 0, none⟩ = some (.int .i64 a) := keep_cell c4_0 hB5
  have c5_1 : w5.cell? ⟨w.heap.size, 1, none⟩ = some (.int .i64 b) := keep_cell c4_1 hB5
  have c5_2 : w5.cell? ⟨w.heap.size, 2, none⟩ = some (.int .i64 c) := keep_cell c4_2 hB5
  have c5_3 : w5.cell? ⟨w.heap.size, 3, none⟩ = some (.int .i64 bo) := keep_cell c4_3 hB5
  have c5_4 : w5.cell? ⟨w.heap.size, 4, none⟩ = some (.int .i64 fr) := keep_cell c4_4 hB5
  have c5_5 : w5.cell? ⟨w.heap.size, 5, none⟩ = some (.int .i64 tr) := keep_cell c4_5 hB5
  have c5_6 : w5.cell? ⟨w.heap.size, 6, none⟩ = some (.int .i64 ag) := keep_cell c4_6 hB5
  have c5_7 : w5.cell? ⟨w.heap.size, 7, none⟩ = some (.slice X ks.length cp) := keep_cell c4_7 hB5
  have c5_8 : w5.cell? ⟨w.heap.size + 1, 0, none⟩ = some (.int .i64 job) := keep_cell c4_8 hB5
  have c5_9 : w5.cell? ⟨w.heap.size + 1, 1, none⟩ = some (.int .i64 x1) := keep_cell c4_9 hB5
  have c5_10 : w5.cell? ⟨w.heap.size + 1, 2, none⟩ = some (.int .i64 x2) := keep_cell c4_10 hB5
  have c5_11 : w5.cell? ⟨w.heap.size + 1, 3, none⟩ = some (.int .i64 x3) := keep_cell c4_11 hB5
  have c5_12 : w5.cell? ⟨w.heap.size + 1, 4, none⟩ = some (.int .i64 x4) := keep_cell c4_12 hB5
  have c5_13 : w5.cell? ⟨w.heap.size + 1, 5, none⟩ = some (.int .i64 x5) := keep_cell c4_13 hB5
  have c5_14 : w5.cell? ⟨w.heap.size + 1, 6, none⟩ = some (.int .i64 x6) := keep_cell c4_14 hB5
  have c5_15 : w5.cell? ⟨w.heap.size + 1, 7, none⟩ = some (.bool t1) := keep_cell c4_15 hB5
  have c5_16 : w5.cell? ⟨w.heap.size + 1, 8, none⟩ = some (.bool t2) := keep_cell c4_16 hB5
  have c5_17 : w5.cell? ⟨w.heap.size + 1, 9, none⟩ = some (.bool t3) := keep_cell c4_17 hB5
  have c5_18 : w5.cell? ⟨w.heap.size + 1, 10, none⟩ = some (.int .u8 ph) := keep_cell c4_18 hB5
  have c5_19 : w5.cell? ⟨w.heap.size + 1, 11, none⟩ = some (.int .i64 tt) := keep_cell c4_19 hB5
  have c5_20 : w5.cell? ⟨w.heap.size + 1, 12, none⟩ = some (.int .i64 si) := keep_cell c4_20 hB5
  have z5_0 : w.heap.size < w5.heap.size := cell_lt c5_0
  have z5_1 : w.heap.size + 1 < w5.heap.size := cell_lt c5_8
  clear hB5 c4_0 c4_1 c4_2 c4_3 c4_4 c4_5 c4_6 c4_7 c4_8 c4_9 c4_10 c4_11 c4_12 c4_13 c4_14 c4_15 c4_16 c4_17 c4_18 c4_19 c4_20 z4_0 z4_1
  go_wp2_with fail
  refine (RXh.out _ (HKK.out.up (below_alloc HB5.out))).mono ?_
  rintro e w6 ⟨rfl, hB6⟩
  have HB6 : Hid (Below w.heap.size w w6) := below_up (below_alloc HB5.out) hB6
  have c6_0 : w6.cell? ⟨w.heap.size, 0, none⟩ = some (.int .i64 a) := keep_cell (cell_over _ c5_0) hB6
  have c6_1 : w6.cell? ⟨w.heap.size, 1, none⟩ = some (.int .i64 b) := keep_cell (cell_over _ c5_1) hB6
  have c6_2 : w6.cell? ⟨w.heap.size, 2, none⟩ = some (.int .i64 c) := keep_cell (cell_over _ c5_2) hB6
  have c6_3 : w6.cell? ⟨w.heap.size, 3, none⟩ = some (.int .i64 bo) := keep_cell (cell_over _ c5_3) hB6
  have c6_4 : w6.cell? ⟨w.heap.size, 4, none⟩ = some (.int .i64 fr) := keep_cell (cell_over _ c5_4) hB6
  have c6_5 : w6.cell? ⟨w.heap.size, 5, none⟩ = some (.int .i64 tr) := keep_cell (cell_over _ c5_5) hB6
  have c6_6 : w6.cell? ⟨w.heap.size, 6, none⟩ = some (.int .i64 ag) := keep_cell (cell_over _ c5_6) hB6
  have c6_7 : w6.cell? ⟨w.heap.size, 7, none⟩ = some (.slice X ks.length cp) := keep_cell (cell_over _ c5_7) hB6
  have c6_8 : w6.cell? ⟨w.heap.size + 1, 0, none⟩ = some (.int .i64 job) := keep_cell (cell_over _ c5_8) hB6
  have c6_9 : w6.cell? ⟨w.heap.size + 1, 1, none⟩ = some (.int .i64 x1) := keep_cell (cell_over _ c5_9) hB6
  have c6_10 : w6.cell? ⟨w.heap.size + 1, 2, none⟩ = some (.int .i64 x2) := keep_cell (cell_over _ c5_10) hB6
  have c6_11 : w6.cell? ⟨w.heap.size + 1, 3, none⟩ = some (.int .i64 x3) := keep_cell (cell_over _ c5_11) hB6
  have c6_12 : w6.cell? ⟨w.heap.size + 1, 4, none⟩ = some (.int .i64 x4) := keep_cell (cell_over _ c5_12) hB6
  have c6_13 : w6.cell? ⟨w.heap.size + 1, 5, none⟩ = some (.int .i64 x5) := keep_cell (cell_over _ c5_13) hB6
  have c6_14 : w6.cell? ⟨w.heap.size + 1, 6, none⟩ = some (.int .i64 x6) := keep_cell (cell_over _ c5_14) hB6
  have c6_15 : w6.cell? ⟨w.heap.size + 1, 7, none⟩ = some (.bool t1) := keep_cell (cell_over _ c5_15) hB6
  have c6_16 : w6.cell? ⟨w.heap.size + 1, 8, none⟩ = some (.bool t2) := keep_cell (cell_over _ c5_16) hB6
  have c6_17 : w6.cell? ⟨w.heap.size + 1, 9, none⟩ = some (.bool t3) := keep_cell (cell_over _ c5_17) hB6
  have c6_18 : w6.cell? ⟨w.heap.size + 1, 10, none⟩ = some (.int .u8 ph) := keep_cell (cell_over _ c5_18) hB6
  have c6_19 : w6.cell? ⟨w.heap.size + 1, 11, none⟩ = some (.int .i64 tt) := keep_cell (cell_over _ c5_19) hB6
  have c6_20 : w6.cell? ⟨w.heap.size + 1, 12, none⟩ = some (.int .i64 si) := keep_cell (cell_over _ c5_20) hB6
  have c6_21 : w6.cell? ⟨w5.heap.size, 0, none⟩ = some (.int .i64 job_) := keep_cell (box0 w5 37 #[.int .i64 job_, .int .i64 x1_, .int .i64 x2_, .int .i64 x3_, .int .i64 x4_, .int .i64 x5_, .int .i64 x6_, .bool t1_, .bool t2_, .bool t3_, .int .u8 ph_, .int .i64 tt_, .int .i64 si_] 0) hB6
  have c6_22 : w6.cell? ⟨w5.heap.size, 1, none⟩ = some (.int .i64 x1_) := keep_cell (box0 w5 37 #[.int .i64 job_, .int .i64 x1_, .int .i64 x2_, .int .i64 x3_, .int .i64 x4_, .int .i64 x5_, .int .i64 x6_, .bool t1_, .bool t2_, .bool t3_, .int .u8 ph_, .int .i64 tt_, .int .i64 si_] 1) hB6
  have c6_23 : w6.cell? ⟨w5.heap.size, 2, none⟩ = some (.int .i64 x2_) := keep_cell (box0 w5 37 #[.int .i64 job_, .int .i64 x1_, .int .i64 x2_, .int .i64 x3_, .int .i64 x4_, .int .i64 x5_, .int .i64 x6_, .bool t1_, .bool t2_, .bool t3_, .int .u8 ph_, .int .i64 tt_, .int .i64 si_] 2) hB6
  have c6_24 : w6.cell? ⟨w5.heap.size, 3, none⟩ = some (.int .i64 x3_) := keep_cell (box0 w5 37 #[.int .i64 job_, .int .i64 x1_, .int .i64 x2_, .int .i64 x3_, .int .i64 x4_, .int .i64 x5_, .int .i64 x6_, .bool t1_, .bool t2_, .bool t3_, .int .u8 ph_, .int .i64 tt_, .int .i64 si_] 3) hB6
  have c6_25 : w6.cell? ⟨w5.heap.size, 4, none⟩ = some (.int .i64 x4_) := keep_cell (box0 w5 37 #[.int .i64 job_, .int .i64 x1_, .int .i64 x2_, .int .i64 x3_, .int .i64 x4_, .int .i64 x5_, .int .i64 x6_, .bool t1_, .bool t2_, .bool t3_, .int .u8 ph_, .int .i64 tt_, .int .i64 si_] 4) hB6
  have c6_26 : w6.cell? ⟨w5.heap.size, 5, none⟩ = some (.int .i64 x5_) := keep_cell (box0 w5 37 #[.int .i64 job_, .int .i64 x1_, .int .i64 x2_, .int .i64 x3_, .int .i64 x4_, .int .i64 x5_, .int .i64 x6_, .bool t1_, .bool t2_, .bool t3_, .int .u8 ph_, .int .i64 tt_, .int .i64 si_] 5) hB6
  have c6_27 : w6.cell? ⟨w5.heap.size, 6, none⟩ = some (.int .i64 x6_) := keep_cell (box0 w5 37 #[.int .i64 job_, .int .i64 x1_, .int .i64 x2_, .int .i64 x3_, .int .i64 x4_, .int .i64 x5_, .int .i64 x6_, .bool t1_, .bool t2_, .bool t3_, .int .u8 ph_, .int .i64 tt_, .int .i64 si_] 6) hB6
  have c6_28 : w6.cell? ⟨w5.heap.size, 7, none⟩ = some (.bool t1_) := keep_cell (box0 w5 37 #[.int .i64 job_, .int .i64 x1_, .int .i64 x2_, .int .i64 x3_, .int .i64 x4_, .int .i64 x5_, .int .i64 x6_, .bool t1_, .bool t2_, .bool t3_, .int .u8 ph_, .int .i64 tt_, .int .i64 si_] 7) hB6
  have c6_29 : w6.cell? ⟨w5.heap.size, 8, none⟩ = some (.bool t2_) := keep_cell (box0 w5 37 #[.int .i64 job_, .int .i64 x1_, .int .i64 x2_, .int .i64 x3_, .int .i64 x4_, .int .i64 x5_, .int .i64 x6_, .bool t1_, .bool t2_, .bool t3_, .int .u8 ph_, .int .i64 tt_, .int .i64 si_] 8) hB6
  have c6_30 : w6.cell? ⟨w5.heap.size, 9, none⟩ = some (.bool t3_) := keep_cell (box0 w5 37 #[.int .i64 job_, .int .i64 x1_, .int .i64 x2_, .int .i64 x3_, .int .i64 x4_, .int .i64 x5_, .int .i64 x6_, .bool t1_, .bool t2_, .bool t3_, .int .u8 ph_, .int .i64 tt_, .int .i64 si_] 9) hB6
  have c6_31 : w6.cell? ⟨w5.heap.size, 10, none⟩ = some (.int .u8 ph_) := keep_cell (box0 w5 37 #[.int .i64 job_, .int .i64 x1_, .int .i64 x2_, .int .i64 x3_, .int .i64 x4_, .int .i64 x5_, .int .i64 x6_, .bool t1_, .bool t2_, .bool t3_, .int .u8 ph_, .int .i64 tt_, .int .i64 si_] 10) hB6
  have c6_32 : w6.cell? ⟨w5.heap.size, 11, none⟩ = some (.int .i64 tt_) := keep_cell (box0 w5 37 #[.int .i64 job_, .int .i64 x1_, .int .i64 x2_, .int .i64 x3_, .int .i64 x4_, .int .i64 x5_, .int .i64 x6_, .bool t1_, .bool t2_, .bool t3_, .int .u8 ph_, .int .i64 tt_, .int .i64 si_] 11) hB6
  have c6_33 : w6.cell? ⟨w5.heap.size, 12, none⟩ = some (.int .i64 si_) := keep_cell (box0 w5 37 #[.int .i64 job_, .int .i64 x1_, .int .i64 x2_, .int .i64 x3_, .int .i64 x4_, .int .i64 x5_, .int .i64 x6_, .bool t1_, .bool t2_, .bool t3_, .int .u8 ph_, .int .i64 tt_, .int .i64 si_] 12) hB6
  have z6_0 : w.heap.size < w6.heap.size := cell_lt c6_0
  have z6_1 : w.heap.size + 1 < w6.heap.size := cell_lt c6_8
  have z6_2 : w5.heap.size < w6.heap.size := cell_lt c6_21
  clear hB6 c5_0 c5_1 c5_2 c5_3 c5_4 c5_5 c5_6 c5_7 c5_8 c5_9 c5_10 c5_11 c5_12 c5_13 c5_14 c5_15 c5_16 c5_17 c5_18 c5_19 c5_20 z5_0 z5_1
  go_wp2_with fail
  have HKW := Lib.hid (HKK.out.up (below_alloc (o := .cells #[.int .i64 job_, .int .i64 x1_, .int .i64 x2_, .int .i64 x3_, .int .i64 x4_, .int .i64 x5_, .int .i64 x6_, .bool t1_, .bool t2_, .bool t3_, .int .u8 ph_, .int .i64 tt_, .int .i64 si_] 37) HB6.out))
  have f7_0 : (w6.alloc (.cells #[.int .i64 job_, .int .i64 x1_, .int .i64 x2_, .int .i64 x3_, .int .i64 x4_, .int .i64 x5_, .int .i64 x6_, .bool t1_, .bool t2_, .bool t3_, .int .u8 ph_, .int .i64 tt_, .int .i64 si_] 37)).cell? ⟨w.heap.size, 0, none⟩ = some (.int .i64 a) := (cell_over _ c6_0)
  have k7_0 := cell_regrown f7_0
  have f7_1 : (w6.alloc (.cells #[.int .i64 job_, .int .i64 x1_, .int .i64 x2_, .int .i64 x3_, .int .i64 x4_, .int .i64 x5_, .int .i64 x6_, .bool t1_, .bool t2_, .bool t3_, .int .u8 ph_, .int .i64 tt_, .int .i64 si_] 37)).cell? ⟨w.heap.size, 1, none⟩ = some (.int .i64 b) := (cell_over _ c6_1)
  have k7_1 := cell_regrown f7_1
  have f7_2 : (w6.alloc (.cells #[.int .i64 job_, .int .i64 x1_, .int .i64 x2_, .int .i64 x3_, .int .i64 x4_, .int .i64 x5_, .int .i64 x6_, .bool t1_, .bool t2_, .bool t3_, .int .u8 ph_, .int .i64 tt_, .int .i64 si_] 37)).cell? ⟨w.heap.size, 2, none⟩ = some (.int .i64 c) := (cell_over _ c6_2)
  have k7_2 := cell_regrown f7_2
  have f7_3 : (w6.alloc (.cells #[.int .i64 job_, .int .i64 x1_, .int .i64 x2_, .int .i64 x3_, .int .i64 x4_, .int .i64 x5_, .int .i64 x6_, .bool t1_, .bool t2_, .bool t3_, .int .u8 ph_, .int .i64 tt_, .int .i64 si_] 37)).cell? ⟨w.heap.size, 3, none⟩ = some (.int .i64 bo) := (cell_over _ c6_3)
  have k7_3 := cell_regrown f7_3
  have f7_4 : (w6.alloc (.cells #[.int .i64 job_, .int .i64 x1_, .int .i64 x2_, .int .i64 x3_, .int .i64 x4_, .int .i64 x5_, .int .i64 x6_, .bool t1_, .bool t2_, .bool t3_, .int .u8 ph_, .int .i64 tt_, .int .i64 si_] 37)).cell? ⟨w.heap.size, 4, none⟩ = some (.int .i64 fr) := (cell_over _ c6_4)
  have k7_4 := cell_regrown f7_4
  have f7_5 : (w6.alloc (.cells #[.int .i64 job_, .int .i64 x1_, .int .i64 x2_, .int .i64 x3_, .int .i64 x4_, .int .i64 x5_, .int .i64 x6_, .bool t1_, .bool t2_, .bool t3_, .int .u8 ph_, .int .i64 tt_, .int .i64 si_] 37)).cell? ⟨w.heap.size, 5, none⟩ = some (.int .i64 tr) := (cell_over _ c6_5)
  have k7_5 := cell_regrown f7_5
  have f7_6 : (w6.alloc (.cells #[.int .i64 job_, .int .i64 x1_, .int .i64 x2_, .int .i64 x3_, .int .i64 x4_, .int .i64 x5_, .int .i64 x6_, .bool t1_, .bool t2_, .bool t3_, .int .u8 ph_, .int .i64 tt_, .int .i64 si_] 37)).cell? ⟨w.heap.size, 6, none⟩ = some (.int .i64 ag) := (cell_over _ c6_6)
  have k7_6 := cell_regrown f7_6
  have f7_7 : (w6.alloc (.cells #[.int .i64 job_, .int .i64 x1_, .int .i64 x2_, .int .i64 x3_, .int .i64 x4_, .int .i64 x5_, .int .i64 x6_, .bool t1_, .bool t2_, .bool t3_, .int .u8 ph_, .int .i64 tt_, .int .i64 si_] 37)).cell? ⟨w.heap.size, 7, none⟩ = some (.slice X ks.length cp) := (cell_over _ c6_7)
  have k7_7 := cell_regrown f7_7
  have f7_8 : (w6.alloc (.cells #[.int .i64 job_, .int .i64 x1_, .int .i64 x2_, .int .i64 x3_, .int .i64 x4_, .int .i64 x5_, .int .i64 x6_, .bool t1_, .bool t2_, .bool t3_, .int .u8 ph_, .int .i64 tt_, .int .i64 si_] 37)).cell? ⟨w.heap.size + 1, 0, none⟩ = some (.int .i64 job) := (cell_over _ c6_8)
  have k7_8 := cell_regrown f7_8
  have f7_9 : (w6.alloc (.cells #[.int .i64 job_, .int .i64 x1_, .int .i64 x2_, .int .i64 x3_, .int .i64 x4_, .int .i64 x5_, .int .i64 x6_, .bool t1_, .bool t2_, .bool t3_, .int .u8 ph_, .int .i64 tt_, .int .i64 si_] 37)).cell? ⟨w.heap.size + 1, 1, none⟩ = some (.int .i64 x1) := (cell_over _ c6_9)
  have k7_9 := cell_regrown f7_9
  have f7_10 : (w6.alloc (.cells #[.int .i64 job_, .int .i64 x1_, .int .i64 x2_, .int .i64 x3_, .int .i64 x4_, .int .i64 x5_, .int .i64 x6_, .bool t1_, .bool t2_, .bool t3_, .int .u8 ph_, .int .i64 tt_, .int .i64 si_] 37)).cell? ⟨w.heap.size + 1, 2, none⟩ = some (.int .i64 x2) := (cell_over _ c6_10)
  have k7_10 := cell_regrown f7_10
  have f7_11 : (w6.alloc (.cells #[.int .i64 job_, .int .i64 x1_, .int .i64 x2_, .int .i64 x3_, .int .i64 x4_, .int .i64 x5_, .int .i64 x6_, .bool t1_, .bool t2_, .bool t3_, .int .u8 ph_, .int .i64 tt_, .int .i64 si_] 37)).cell? ⟨w.heap.size + 1, 3, none⟩ = some (.int .i64 x3) := (cell_over _ c6_11)
  have k7_11 := cell_regrown f7_11
  have f7_12 : (w6.alloc (.cells #[.int .i64 job_, .int .i64 x1_, .int .i64 x2_, .int .i64 x3_, .int .i64 x4_, .int .i64 x5_, .int .i64 x6_, .bool t1_, .bool t2_, .bool t3_, .int .u8 ph_, .int .i64 tt_, .int .i64 si_] 37)).cell? ⟨w.heap.size + 1, 4, none⟩ = some (.int .i64 x4) := (cell_over _ c6_12)
  have k7_12 := cell_regrown f7_12
  have f7_13 : (w6.alloc (.cells #[.int .i64 job_, .int .i64 x1_, .int .i64 x2_, .int .i64 x3_, .int .i64 x4_, .int .i64 x5_, .int .i64 x6_, .bool t1_, .bool t2_, .bool t3_, .int .u8 ph_, .int .i64 tt_, .int .i64 si_] 37)).cell? ⟨w.heap.size + 1, 5, none⟩ = some (.int .i64 x5) := (cell_over _ c6_13)
  have k7_13 := cell_regrown f7_13
  have f7_14 : (w6.alloc (.cells #[.int .i64 job_, .int .i64 x1_, .int .i64 x2_, .int .i64 x3_, .int .i64 x4_, .int .i64 x5_, .int .i64 x6_, .bool t1_, .bool t2_, .bool t3_, .int .u8 ph_, .int .i64 tt_, .int .i64 si_] 37)).cell? ⟨w.heap.size + 1, 6, none⟩ = some (.int .i64 x6) := (cell_over _ c6_14)
  have k7_14 := cell_regrown f7_14
  have f7_15 : (w6.alloc (.cells #[.int .i64 job_, .int .i64 x1_, .int .i64 x2_, .int .i64 x3_, .int .i64 x4_, .int .i64 x5_, .int .i64 x6_, .bool t1_, .bool t2_, .bool t3_, .int .u8 ph_, .int .i64 tt_, .int .i64 si_] 37)).cell? ⟨w.heap.size + 1, 7, none⟩ = some (.bool t1) := (cell_over _ c6_15)
  have k7_15 := cell_regrown f7_15
  have f7_16 : (w6.alloc (.cells #[.int .i64 job_, .int .i64 x1_, .int .i64 x2_, .int .i64 x3_, .int .i64 x4_, .int .i64 x5_, .int .i64 x6_, .bool t1_, .bool t2_, .bool t3_, .int .u8 ph_, .int .i64 tt_, .int .i64 si_] 37)).cell? ⟨w.heap.size + 1, 8, none⟩ = some (.bool t2) := (cell_over _ c6_16)
  have k7_16 := cell_regrown f7_16
  have f7_17 : (w6.alloc (.cells #[.int .i64 job_, .int .i64 x1_, .int .i64 x2_, .int .i64 x3_, .int .i64 x4_, .int .i64 x5_, .int .i64 x6_, .bool t1_, .bool t2_, .bool t3_, .int .u8 ph_, .int .i64 tt_, .int .i64 si_] 37)).cell? ⟨w.heap.size + 1, 9, none⟩ = some (.bool t3) := (cell_over _ c6_17)
  have k7_17 := cell_regrown f7_17
  have f7_18 : (w6.alloc (.cells #[.int .i64 job_, .int .i64 x1_, .int .i64 x2_, .int .i64 x3_, .int .i64 x4_, .int .i64 x5_, .int .i64 x6_, .bool t1_, .bool t2_, .bool t3_, .int .u8 ph_, .int .i64 tt_, .int .i64 si_] 37)).cell? ⟨w.heap.size + 1, 10, none⟩ = some (.int .u8 ph) := (cell_over _ c6_18)
  have k7_18 := cell_regrown f7_18
  have f7_19 : (w6.alloc (.cells #[.int .i64 job_, .int .i64 x1_, .int .i64 x2_, .int .i64 x3_, .int .i64 x4_, .int .i64 x5_, .int .i64 x6_, .bool t1_, .bool t2_, .bool t3_, .int .u8 ph_, .int .i64 tt_, .int .i64 si_] 37)).cell? ⟨w.heap.size + 1, 11, none⟩ = some (.int .i64 tt) := (cell_over _ c6_19)
  have k7_19 := cell_regrown f7_19
  have f7_20 : (w6.alloc (.cells #[.int .i64 job_, .int .i64 x1_, .int .i64 x2_, .int .i64 x3_, .int .i64 x4_, .int .i64 x5_, .int .i64 x6_, .bool t1_, .bool t2_, .bool t3_, .int .u8 ph_, .int .i64 tt_, .int .i64 si_] 37)).cell? ⟨w.heap.size + 1, 12, none⟩ = some (.int .i64 si) := (cell_over _ c6_20)
  have k7_20 := cell_regrown f7_20
  have f7_21 : (w6.alloc (.cells #[.int .i64 job_, .int .i64 x1_, .int .i64 x2_, .int .i64 x3_, .int .i64 x4_, .int .i64 x5_, .int .i64 x6_, .bool t1_, .bool t2_, .bool t3_, .int .u8 ph_, .int .i64 tt_, .int .i64 si_] 37)).cell? ⟨w5.heap.size, 0, none⟩ = some (.int .i64 job_) := (cell_over _ c6_21)
  have k7_21 := cell_regrown f7_21
  have f7_22 : (w6.alloc (.cells #[.int .i64 job_, .int .i64 x1_, .int .i64 x2_, .int .i64 x3_, .int .i64 x4_, .int .i64 x5_, .int .i64 x6_, .bool t1_, .bool t2_, .bool t3_, .int .u8 ph_, .int .i64 tt_, .int .i64 si_] 37)).cell? ⟨w5.heap.size, 1, none⟩ = some (.int .i64 x1_) := (cell_over _ c6_22)
  have k7_22 := cell_regrown f7_22
  have f7_23 : (w6.alloc (.cells #[.int .i64 job_, .int .i64 x1_, .int .i64 x2_, .int .i64 x3_, .int .i64 x4_, .int .i64 x5_, .int .i64 x6_, .bool t1_, .bool t2_, .bool t3_, .int .u8 ph_, .int .i64 tt_, .int .i64 si_] 37)).cell? ⟨w5.heap.size, 2, none⟩ = some (.int .i64 x2_) := (cell_over _ c6_23)
  have k7_23 := cell_regrown f7_23
  have f7_24 : (w6.alloc (.cells #[.int .i64 job_, .int .i64 x1_, .int .i64 x2_, .int .i64 x3_, .int .i64 x4_, .int .i64 x5_, .int .i64 x6_, .bool t1_, .bool t2_, .bool t3_, .int .u8 ph_, .int .i64 tt_, .int .i64 si_] 37)).cell? ⟨w5.heap.size, 3, none⟩ = some (.int .i64 x3_) := (cell_over _ c6_24)
  have k7_24 := cell_regrown f7_24
  have f7_25 : (w6.alloc (.cells #[.int .i64 job_, .int .i64 x1_, .int .i64 x2_, .int .i64 x3_, .int .i64 x4_, .int .i64 x5_, .int .i64 x6_, .bool t1_, .bool t2_, .bool t3_, .int .u8 ph_, .int .i64 tt_, .int .i64 si_] 37)).cell? ⟨w5.heap.size, 4, none⟩ = some (.int .i64 x4_) := (cell_over _ c6_25)
  have k7_25 := cell_regrown f7_25
  have f7_26 : (w6.alloc (.cells #[.int .i64 job_, .int .i64 x1_, .int .i64 x2_, .int .i64 x3_, .int .i64 x4_, .int .i64 x5_, .int .i64 x6_, .bool t1_, .bool t2_, .bool t3_, .int .u8 ph_, .int .i64 tt_, .int .i64 si_] 37)).cell? ⟨w5.heap.size, 5, none⟩ = some (.int .i64 x5_) := (cell_over _ c6_26)
  have k7_26 := cell_regrown f7_26
  have f7_27 : (w6.alloc (.cells #[.int .i64 job_, .int .i64 x1_, .int .i64 x2_, .int .i64 x3_, .int .i64 x4_, .int .i64 x5_, .int .i64 x6_, .bool t1_, .bool t2_, .bool t3_, .int .u8 ph_, .int .i64 tt_, .int .i64 si_] 37)).cell? ⟨w5.heap.size, 6, none⟩ = some (.int .i64 x6_) := (cell_over _ c6_27)
  have k7_27 := cell_regrown f7_27
  have f7_28 : (w6.alloc (.cells #[.int .i64 job_, .int .i64 x1_, .int .i64 x2_, .int .i64 x3_, .int .i64 x4_, .int .i64 x5_, .int .i64 x6_, .bool t1_, .bool t2_, .bool t3_, .int .u8 ph_, .int .i64 tt_, .int .i64 si_] 37)).cell? ⟨w5.heap.size, 7, none⟩ = some (.bool t1_) := (cell_over _ c6_28)
  have k7_28 := cell_regrown f7_28
  have f7_29 : (w6.alloc (.cells #[.int .i64 job_, .int .i64 x1_, .int .i64 x2_, .int .i64 x3_, .int .i64 x4_, .int .i64 x5_, .int .i64 x6_, .bool t1_, .bool t2_, .bool t3_, .int .u8 ph_, .int .i64 tt_, .int .i64 si_] 37)).cell? ⟨w5.heap.size, 8, none⟩ = some (.bool t2_) := (cell_over _ c6_29)
  have k7_29 := cell_regrown f7_29
  have f7_30 : (w6.alloc (.cells #[.int .i64 job_, .int .i64 x1_, .int .i64 x2_, .int .i64 x3_, .int .i64 x4_, .int .i64 x5_, .int .i64 x6_, .bool t1_, .bool t2_, .bool t3_, .int .u8 ph_, .int .i64 tt_, .int .i64 si_] 37)).cell? ⟨w5.heap.size, 9, none⟩ = some (.bool t3_) := (cell_over _ c6_30)
  have k7_30 := cell_regrown f7_30
  have f7_31 : (w6.alloc (.cells #[.int .i64 job_, .int .i64 x1_, .int .i64 x2_, .int .i64 x3_, .int .i64 x4_, .int .i64 x5_, .int .i64 x6_, .bool t1_, .bool t2_, .bool t3_, .int .u8 ph_, .int .i64 tt_, .int .i64 si_] 37)).cell? ⟨w5.heap.size, 10, none⟩ = some (.int .u8 ph_) := (cell_over _ c6_31)
  have k7_31 := cell_regrown f7_31
  have f7_32 : (w6.alloc (.cells #[.int .i64 job_, .int .i64 x1_, .int .i64 x2_, .int .i64 x3_, .int .i64 x4_, .int .i64 x5_, .int .i64 x6_, .bool t1_, .bool t2_, .bool t3_, .int .u8 ph_, .int .i64 tt_, .int .i64 si_] 37)).cell? ⟨w5.heap.size, 11, none⟩ = some (.int .i64 tt_) := (cell_over _ c6_32)
  have k7_32 := cell_regrown f7_32
  have f7_33 : (w6.alloc (.cells #[.int .i64 job_, .int .i64 x1_, .int .i64 x2_, .int .i64 x3_, .int .i64 x4_, .int .i64 x5_, .int .i64 x6_, .bool t1_, .bool t2_, .bool t3_, .int .u8 ph_, .int .i64 tt_, .int .i64 si_] 37)).cell? ⟨w5.heap.size, 12, none⟩ = some (.int .i64 si_) := (cell_over _ c6_33)
  have k7_33 := cell_regrown f7_33
  have f7_34 : (w6.alloc (.cells #[.int .i64 job_, .int .i64 x1_, .int .i64 x2_, .int .i64 x3_, .int .i64 x4_, .int .i64 x5_, .int .i64 x6_, .bool t1_, .bool t2_, .bool t3_, .int .u8 ph_, .int .i64 tt_, .int .i64 si_] 37)).cell? ⟨w6.heap.size, 0, none⟩ = some (.int .i64 job_) := (box0 w6 37 #[.int .i64 job_, .int .i64 x1_, .int .i64 x2_, .int .i64 x3_, .int .i64 x4_, .int .i64 x5_, .int .i64 x6_, .bool t1_, .bool t2_, .bool t3_, .int .u8 ph_, .int .i64 tt_, .int .i64 si_] 0)
  have k7_34 := cell_regrown f7_34
  have f7_35 : (w6.alloc (.cells #[.int .i64 job_, .int .i64 x1_, .int .i64 x2_, .int .i64 x3_, .int .i64 x4_, .int .i64 x5_, .int .i64 x6_, .bool t1_, .bool t2_, .bool t3_, .int .u8 ph_, .int .i64 tt_, .int .i64 si_] 37)).cell? ⟨w6.heap.size, 1, none⟩ = some (.int .i64 x1_) := (box0 w6 37 #[.int .i64 job_, .int .i64 x1_, .int .i64 x2_, .int .i64 x3_, .int .i64 x4_, .int .i64 x5_, .int .i64 x6_, .bool t1_, .bool t2_, .bool t3_, .int .u8 ph_, .int .i64 tt_, .int .i64 si_] 1)
  have k7_35 := cell_regrown f7_35
  have f7_36 : (w6.alloc (.cells #[.int .i64 job_, .int .i64 x1_, .int .i64 x2_, .int .i64 x3_, .int .i64 x4_, .int .i64 x5_, .int .i64 x6_, .bool t1_, .bool t2_, .bool t3_, .int .u8 ph_, .int .i64 tt_, .int .i64 si_] 37)).cell? ⟨w6.heap.size, 2, none⟩ = some (.int .i64 x2_) := (box0 w6 37 #[.int .i64 job_, .int .i64 x1_, .int .i64 x2_, .int .i64 x3_, .int .i64 x4_, .int .i64 x5_, .int .i64 x6_, .bool t1_, .bool t2_, .bool t3_, .int .u8 ph_, .int .i64 tt_, .int .i64 si_] 2)
  have k7_36 := cell_regrown f7_36
  have f7_37 : (w6.alloc (.cells #[.int .i64 job_, .int .i64 x1_, .int .i64 x2_, .int .i64 x3_, .int .i64 x4_, .int .i64 x5_, .int .i64 x6_, .bool t1_, .bool t2_, .bool t3_, .int .u8 ph_, .int .i64 tt_, .int .i64 si_] 37)).cell? ⟨w6.heap.size, 3, none⟩ = some (.int .i64 x3_) := (box0 w6 37 #[.int .i64 job_, .int .i64 x1_, .int .i64 x2_, .int .i64 x3_, .int .i64 x4_, .int .i64 x5_, .int .i64 x6_, .bool t1_, .bool t2_, .bool t3_, .int .u8 ph_, .int .i64 tt_, .int .i64 si_] 3)
  have k7_37 := cell_regrown f7_37
  have f7_38 : (w6.alloc (.cells #[.int .i64 job_, .int .i64 x1_, .int .i64 x2_, .int .i64 x3_, .int .i64 x4_, .int .i64 x5_, .int .i64 x6_, .bool t1_, .bool t2_, .bool t3_, .int .u8 ph_, .int .i64 tt_, .int .i64 si_] 37)).cell? ⟨w6.heap.size, 4, none⟩ = some (.int .i64 x4_) := (box0 w6 37 #[.int .i64 job_, .int .i64 x1_, .int .i64 x2_, .int .i64 x3_, .int .i64 x4_, .int .i64 x5_, .int .i64 x6_, .bool t1_, .bool t2_, .bool t3_, .int .u8 ph_, .int .i64 tt_, .int .i64 si_] 4)
  have k7_38 := cell_regrown f7_38
  have f7_39 : (w6.alloc (.cells #[.int .i64 job_, .int .i64 x1_, .int .i64 x2_, .int .i64 x3_, .int .i64 x4_, .int .i64 x5_, .int .i64 x6_, .bool t1_, .bool t2_, .bool t3_, .int .u8 ph_, .int .i64 tt_, .int .i64 si_] 37)).cell? ⟨w6.heap.size, 5, none⟩ = some (.int .i64 x5_) := (box0 w6 37 #[.int .i64 job_, .int .i64 x1_, .int .i64 x2_, .int .i64 x3_, .int .i64 x4_, .int .i64 x5_, .int .i64 x6_, .bool t1_, .bool t2_, .bool t3_, .int .u8 ph_, .int .i64 tt_, .int .i64 si_] 5)
  have k7_39 := cell_regrown f7_39
  have f7_40 : (w6.alloc (.cells #[.int .i64 job_, .int .i64 x1_, .int .i64 x2_, .int .i64 x3_, .int .i64 x4_, .int .i64 x5_, .int .i64 x6_, .bool t1_, .bool t2_, .bool t3_, .int .u8 ph_, .int .i64 tt_, .int .i64 si_] 37)).cell? ⟨w6.heap.size, 6, none⟩ = some (.int .i64 x6_) := (box0 w6 37 #[.int .i64 job_, .int .i64 x1_, .int .i64 x2_, .int .i64 x3_, .int .i64 x4_, .int .i64 x5_, .int .i64 x6_, .bool t1_, .bool t2_, .bool t3_, .int .u8 ph_, .int .i64 tt_, .int .i64 si_] 6)
  have k7_40 := cell_regrown f7_40
  have f7_41 : (w6.alloc (.cells #[.int .i64 job_, .int .i64 x1_, .int .i64 x2_, .int .i64 x3_, .int .i64 x4_, .int .i64 x5_, .int .i64 x6_, .bool t1_, .bool t2_, .bool t3_, .int .u8 ph_, .int .i64 tt_, .int .i64 si_] 37)).cell? ⟨w6.heap.size, 7, none⟩ = some (.bool t1_) := (box0 w6 37 #[.int .i64 job_, .int .i64 x1_, .int .i64 x2_, .int .i64 x3_, .int .i64 x4_, .int .i64 x5_, .int .i64 x6_, .bool t1_, .bool t2_, .bool t3_, .int .u8 ph_, .int .i64 tt_, .int .i64 si_] 7)
  have k7_41 := cell_regrown f7_41
  have f7_42 : (w6.alloc (.cells #[.int .i64 job_, .int .i64 x1_, .int .i64 x2_, .int .i64 x3_, .int .i64 x4_, .int .i64 x5_, .int .i64 x6_, .bool t1_, .bool t2_, .bool t3_, .int .u8 ph_, .int .i64 tt_, .int .i64 si_] 37)).cell? ⟨w6.heap.size, 8, none⟩ = some (.bool t2_) := (box0 w6 37 #[.int .i64 job_, .int .i64 x1_, .int .i64 x2_, .int .i64 x3_, .int .i64 x4_, .int .i64 x5_, .int .i64 x6_, .bool t1_, .bool t2_, .bool t3_, .int .u8 ph_, .int .i64 tt_, .int .i64 si_] 8)
  have k7_42 := cell_regrown f7_42
  have f7_43 : (w6.alloc (.cells #[.int .i64 job_, .int .i64 x1_, .int .i64 x2_, .int .i64 x3_, .int .i64 x4_, .int .i64 x5_, .int .i64 x6_, .bool t1_, .bool t2_, .bool t3_, .int .u8 ph_, .int .i64 tt_, .int .i64 si_] 37)).cell? ⟨w6.heap.size, 9, none⟩ = some (.bool t3_) := (box0 w6 37 #[.int .i64 job_, .int .i64 x1_, .int .i64 x2_, .int .i64 x3_, .int .i64 x4_, .int .i64 x5_, .int .i64 x6_, .bool t1_, .bool t2_, .bool t3_, .int .u8 ph_, .int .i64 tt_, .int .i64 si_] 9)
  have k7_43 := cell_regrown f7_43
  have f7_44 : (w6.alloc (.cells #[.int .i64 job_, .int .i64 x1_, .int .i64 x2_, .int .i64 x3_, .int .i64 x4_, .int .i64 x5_, .int .i64 x6_, .bool t1_, .bool t2_, .bool t3_, .int .u8 ph_, .int .i64 tt_, .int .i64 si_] 37)).cell? ⟨w6.heap.size, 10, none⟩ = some (.int .u8 ph_) := (box0 w6 37 #[.int .i64 job_, .int .i64 x1_, .int .i64 x2_, .int .i64 x3_, .int .i64 x4_, .int .i64 x5_, .int .i64 x6_, .bool t1_, .bool t2_, .bool t3_, .int .u8 ph_, .int .i64 tt_, .int .i64 si_] 10)
  have k7_44 := cell_regrown f7_44
  have f7_45 : (w6.alloc (.cells #[.int .i64 job_, .int .i64 x1_, .int .i64 x2_, .int .i64 x3_, .int .i64 x4_, .int .i64 x5_, .int .i64 x6_, .bool t1_, .bool t2_, .bool t3_, .int .u8 ph_, .int .i64 tt_, .int .i64 si_] 37)).cell? ⟨w6.heap.size, 11, none⟩ = some (.int .i64 tt_) := (box0 w6 37 #[.int .i64 job_, .int .i64 x1_, .int .i64 x2_, .int .i64 x3_, .int .i64 x4_, .int .i64 x5_, .int .i64 x6_, .bool t1_, .bool t2_, .bool t3_, .int .u8 ph_, .int .i64 tt_, .int .i64 si_] 11)
  have k7_45 := cell_regrown f7_45
  have f7_46 : (w6.alloc (.cells #[.int .i64 job_, .int .i64 x1_, .int .i64 x2_, .int .i64 x3_, .int .i64 x4_, .int .i64 x5_, .int .i64 x6_, .bool t1_, .bool t2_, .bool t3_, .int .u8 ph_, .int .i64 tt_, .int .i64 si_] 37)).cell? ⟨w6.heap.size, 12, none⟩ = some (.int .i64 si_) := (box0 w6 37 #[.int .i64 job_, .int .i64 x1_, .int .i64 x2_, .int .i64 x3_, .int .i64 x4_, .int .i64 x5_, .int .i64 x6_, .bool t1_, .bool t2_, .bool t3_, .int .u8 ph_, .int .i64 tt_, .int .i64 si_] 12)
  have k7_46 := cell_regrown f7_46
  refine wp_region_quiet_below (by kernel_rfl) (by kernel_rfl) ?_
  repeat (go_big_quiet_step (first | fail | exact Calls.regrown_of (HK1.out _ (HKW.out.up (below_regrown _ _ _))) | exact Calls.regrown_of (HK2.out _ (HKW.out.up (below_regrown _ _ _)))))
  refine wpQuiet_nil ?_
  intro _ hw'
  obtain ⟨⟨dq, osq⟩, hw''⟩ := hw'
  subst hw''
  have hB7 := below_regrown (w6.alloc (.cells #[.int .i64 job_, .int .i64 x1_, .int .i64 x2_, .int .i64 x3_, .int .i64 x4_, .int .i64 x5_, .int .i64 x6_, .bool t1_, .bool t2_, .bool t3_, .int .u8 ph_, .int .i64 tt_, .int .i64 si_] 37)) dq osq
  have HB7 : Hid (Below w.heap.size w _) := below_up (below_alloc HB6.out) hB7
  have c7_0 := keep_cell f7_0 hB7
  have c7_1 := keep_cell f7_1 hB7
  have c7_2 := keep_cell f7_2 hB7
  have c7_3 := keep_cell f7_3 hB7
  have c7_4 := keep_cell f7_4 hB7
  have c7_5 := keep_cell f7_5 hB7
  have c7_6 := keep_cell f7_6 hB7
  have c7_7 := keep_cell f7_7 hB7
  have c7_8 := keep_cell f7_8 hB7
  have c7_9 := keep_cell f7_9 hB7
  have c7_10 := keep_cell f7_10 hB7
  have c7_11 := keep_cell f7_11 hB7
  have c7_12 := keep_cell f7_12 hB7
  have c7_13 := keep_cell f7_13 hB7
  have c7_14 := keep_cell f7_14 hB7
  have c7_15 := keep_cell f7_15 hB7
  have c7_16 := keep_cell f7_16 hB7
  have c7_17 := keep_cell f7_17 hB7
  have c7_18 := keep_cell f7_18 hB7
  have c7_19 := keep_cell f7_19 hB7
  have c7_20 := keep_cell f7_20 hB7
  have c7_21 := keep_cell f7_21 hB7
  have c7_22 := keep_cell f7_22 hB7
  have c7_23 := keep_cell f7_23 hB7
  have c7_24 := keep_cell f7_24 hB7
  have c7_25 := keep_cell f7_25 hB7
  have c7_26 := keep_cell f7_26 hB7
  have c7_27 := keep_cell f7_27 hB7
  have c7_28 := keep_cell f7_28 hB7
  have c7_29 := keep_cell f7_29 hB7
  have c7_30 := keep_cell f7_30 hB7
  have c7_31 := keep_cell f7_31 hB7
  have c7_32 := keep_cell f7_32 hB7
  have c7_33 := keep_cell f7_33 hB7
  have c7_34 := keep_cell f7_34 hB7
  have c7_35 := keep_cell f7_35 hB7
  have c7_36 := keep_cell f7_36 hB7
  have c7_37 := keep_cell f7_37 hB7
  have c7_38 := keep_cell f7_38 hB7
  have c7_39 := keep_cell f7_39 hB7
  have c7_40 := keep_cell f7_40 hB7
  have c7_41 := keep_cell f7_41 hB7
  have c7_42 := keep_cell f7_42 hB7
  have c7_43 := keep_cell f7_43 hB7
  have c7_44 := keep_cell f7_44 hB7
  have c7_45 := keep_cell f7_45 hB7
  have c7_46 := keep_cell f7_46 hB7
  generalize hgw7 : grow (redrawn (w6.alloc (.cells #[.int .i64 job_, .int .i64 x1_, .int .i64 x2_, .int .i64 x3_, .int .i64 x4_, .int .i64 x5_, .int .i64 x6_, .bool t1_, .bool t2_, .bool t3_, .int .u8 ph_, .int .i64 tt_, .int .i64 si_] 37)) dq) osq = w7 at *
  have z7_0 : w.heap.size < w7.heap.size := cell_lt c7_0
  have z7_1 : w.heap.size + 1 < w7.heap.size := cell_lt c7_8
  have z7_2 : w5.heap.size < w7.heap.size := cell_lt c7_21
  have z7_3 : w6.heap.size < w7.heap.size := cell_lt c7_34
  clear hgw7 hB7 c6_0 c6_1 c6_2 c6_3 c6_4 c6_5 c6_6 c6_7 c6_8 c6_9 c6_10 c6_11 c6_12 c6_13 c6_14 c6_15 c6_16 c6_17 c6_18 c6_19 c6_20 c6_21 c6_22 c6_23 c6_24 c6_25 c6_26 c6_27 c6_28 c6_29 c6_30 c6_31 c6_32 c6_33 z6_0 z6_1 z6_2 f7_0 k7_0 f7_1 k7_1 f7_2 k7_2 f7_3 k7_3 f7_4 k7_4 f7_5 k7_5 f7_6 k7_6 f7_7 k7_7 f7_8 k7_8 f7_9 k7_9 f7_10 k7_10 f7_11 k7_11 f7_12 k7_12 f7_13 k7_13 f7_14 k7_14 f7_15 k7_15 f7_16 k7_16 f7_17 k7_17 f7_18 k7_18 f7_19 k7_19 f7_20 k7_20 f7_21 k7_21 f7_22 k7_22 f7_23 k7_23 f7_24 k7_24 f7_25 k7_25 f7_26 k7_26 f7_27 k7_27 f7_28 k7_28 f7_29 k7_29 f7_30 k7_30 f7_31 k7_31 f7_32 k7_32 f7_33 k7_33 f7_34 k7_34 f7_35 k7_35 f7_36 k7_36 f7_37 k7_37 f7_38 k7_38 f7_39 k7_39 f7_40 k7_40 f7_41 k7_41 f7_42 k7_42 f7_43 k7_43 f7_44 k7_44 f7_45 k7_45 f7_46 k7_46
  go_wp2_with fail
  go_ret
  exact ⟨rfl, HB7.out⟩
theorem doesLaw (w : World) (a b c bo fr tr ag : Int) (X : Option Addr) (cp : Nat) (ks : List Cls) (hcp : ks.length ≤ cp) (hcm : cp ≤ maxLen) (hk : ClsAt w w.heap.size X ks) (p : PV) (wj : (Lit.int .i64 p.job).wf = true) (wp : (Lit.int .u8 p.ph).wf = true) (wt : (Lit.int .i64 p.tt).wf = true) (ws : (Lit.int .i64 p.si).wf = true) (wall : Int) (ww : (Lit.int .i64 wall).wf = true) (turn : Int) (wtu : (Lit.int .u8 turn).wf = true) (now : Int) (wn : (Lit.int .i64 now).wf = true) :
    Calls Try.prog 5 #[.agg #[.int .i64 a, .int .i64 b, .int .i64 c, .int .i64 bo, .int .i64 fr, .int .i64 tr, .int .i64 ag, .slice X ks.length cp], .agg p.arr, .int .i64 wall, .int .u8 turn, .int .i64 now] w fun e w' => e = .returned (.bool true) ∧ Below w.heap.size w w' := by
  unfold maxLen at hcm
  have hl : ks.length ≤ 9223372036854775807 := by omega
  obtain ⟨job, x1, x2, x3, x4, x5, x6, t1, t2, t3, ph, tt, si⟩ := p
  by_cases hn : 100 < ks.length
  · exact does_many a b c bo fr tr ag X cp ks hl job x1 x2 x3 x4 x5 x6 t1 t2 t3 ph tt si wall turn now hn w hk
  obtain ⟨⟨ea, ee⟩, hE⟩ : ∃ r, endsV a b c bo fr tr ag ks ⟨job, x1, x2, x3, x4, x5, x6, t1, t2, t3, ph, tt, si⟩ wall = r := ⟨_, rfl⟩
  obtain ⟨⟨tb, te⟩, hT⟩ : ∃ r, turnsV a b c bo fr tr ag ks ⟨job, x1, x2, x3, x4, x5, x6, t1, t2, t3, ph, tt, si⟩ wall = r := ⟨_, rfl⟩
  obtain ⟨⟨⟨job_, x1_, x2_, x3_, x4_, x5_, x6_, t1_, t2_, t3_, ph_, tt_, si_⟩, nj, ng, ne⟩, hX⟩ : ∃ r, nextA a b c bo fr tr ag ks ⟨job, x1, x2, x3, x4, x5, x6, t1, t2, t3, ph, tt, si⟩ turn now = r := ⟨_, rfl⟩
  by_cases h : CfgOk a b c bo fr tr ag ks
  · exact does_ok a b c bo fr tr ag X cp ks hl job x1 x2 x3 x4 x5 x6 t1 t2 t3 ph tt si wall turn now hn ea ee tb te hE hT nj ne ng job_ x1_ x2_ x3_ x4_ x5_ x6_ t1_ t2_ t3_ ph_ tt_ si_ hX 0 (fun w hk => pcheck_ok a b c bo fr tr ag X cp ks hl h w hk) (fun w hk => rcheck_ok a b c bo fr tr ag X cp ks hl h w hk) w hk
  · exact does_ok a b c bo fr tr ag X cp ks hl job x1 x2 x3 x4 x5 x6 t1 t2 t3 ph tt si wall turn now hn ea ee tb te hE hT nj ne ng job_ x1_ x2_ x3_ x4_ x5_ x6_ t1_ t2_ t3_ ph_ tt_ si_ hX 8 (fun w hk => pcheck_bad a b c bo fr tr ag X cp ks hl h w hk) (fun w hk => rcheck_bad a b c bo fr tr ag X cp ks hl h w hk) w hk
end Go.Proofs.Ytfndopemfhmhgaa.PartDoes
