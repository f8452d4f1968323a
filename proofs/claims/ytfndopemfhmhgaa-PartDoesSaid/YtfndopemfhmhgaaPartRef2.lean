/- The reference's Next, Ends and Turns: each answers as the program's values say. -/
import Derived.Test.YtfndopemfhmhgaaPartEnds2
import Derived.Test.YtfndopemfhmhgaaPartRef
namespace Go.Proofs.Ytfndopemfhmhgaa.PartRef2
open Go.RowKit Mem PosMath PosCheck PartMath PartClass PartCheck PartEnds PartEnds2 PartTable PartNext PartTurn PartRef
set_option linter.unusedVariables false

set_option maxRecDepth 100000 in
set_option maxHeartbeats 8000000 in
theorem rn_cfg (a b c bo fr tr ag : Int) (X : Option Addr) (cp : Nat) (ks : List Cls) (hl : ks.length ≤ 9223372036854775807) (job x1 x2 x3 x4 x5 x6 : Int) (t1 t2 t3 : Bool) (ph tt si : Int) (turn now : Int) (h : ¬ CfgOk a b c bo fr tr ag ks) (w : World) (hk : ClsAt w w.heap.size X ks) :
    Calls Try.prog 18 #[.agg #[.int .i64 a, .int .i64 b, .int .i64 c, .int .i64 bo, .int .i64 fr, .int .i64 tr, .int .i64 ag, .slice X ks.length cp], .agg #[.int .i64 job, .int .i64 x1, .int .i64 x2, .int .i64 x3, .int .i64 x4, .int .i64 x5, .int .i64 x6, .bool t1, .bool t2, .bool t3, .int .u8 ph, .int .i64 tt, .int .i64 si], .int .u8 turn, .int .i64 now] w (fun e w' => e = .returned (.tuple #[.agg #[.int .i64 0, .int .i64 0, .int .i64 0, .int .i64 0, .int .i64 0, .int .i64 0, .int .i64 0, .bool false, .bool false, .bool false, .int .u8 0, .int .i64 0, .int .i64 0], .int .u8 0, .bool false, .int .i64 8]) ∧ Below w.heap.size w w') := by
  have HKK := Lib.hid hk
  clear hk
  have Hh := Lib.hid h
  clear h
  go_enter Try.func18, Try.ntmps18
  go_upto_region 1 with fail
  have kd : Blk (((w.alloc (.cells #[.int .i64 a, .int .i64 b, .int .i64 c, .int .i64 bo, .int .i64 fr, .int .i64 tr, .int .i64 ag, .slice X ks.length cp] 26)).alloc (.cells #[.int .i64 job, .int .i64 x1, .int .i64 x2, .int .i64 x3, .int .i64 x4, .int .i64 x5, .int .i64 x6, .bool t1, .bool t2, .bool t3, .int .u8 ph, .int .i64 tt, .int .i64 si] 37)).alloc (.cells #[.int .i64 0, .int .i64 0, .int .i64 0, .int .i64 0, .int .i64 0, .int .i64 0, .int .i64 0, .bool false, .bool false, .bool false, .int .u8 0, .int .i64 0, .int .i64 0] 37)) (w.heap.size) 26 #[.int .i64 a, .int .i64 b, .int .i64 c, .int .i64 bo, .int .i64 fr, .int .i64 tr, .int .i64 ag, .slice X ks.length cp] := ((Blk.new w _ _).alloc _).alloc _
  have kp : Blk (((w.alloc (.cells #[.int .i64 a, .int .i64 b, .int .i64 c, .int .i64 bo, .int .i64 fr, .int .i64 tr, .int .i64 ag, .slice X ks.length cp] 26)).alloc (.cells #[.int .i64 job, .int .i64 x1, .int .i64 x2, .int .i64 x3, .int .i64 x4, .int .i64 x5, .int .i64 x6, .bool t1, .bool t2, .bool t3, .int .u8 ph, .int .i64 tt, .int .i64 si] 37)).alloc (.cells #[.int .i64 0, .int .i64 0, .int .i64 0, .int .i64 0, .int .i64 0, .int .i64 0, .int .i64 0, .bool false, .bool false, .bool false, .int .u8 0, .int .i64 0, .int .i64 0] 37)) (w.heap.size + 1) 37 #[.int .i64 job, .int .i64 x1, .int .i64 x2, .int .i64 x3, .int .i64 x4, .int .i64 x5, .int .i64 x6, .bool t1, .bool t2, .bool t3, .int .u8 ph, .int .i64 tt, .int .i64 si] := (blk1 w _ _).alloc _
  have kr : Blk (((w.alloc (.cells #[.int .i64 a, .int .i64 b, .int .i64 c, .int .i64 bo, .int .i64 fr, .int .i64 tr, .int .i64 ag, .slice X ks.length cp] 26)).alloc (.cells #[.int .i64 job, .int .i64 x1, .int .i64 x2, .int .i64 x3, .int .i64 x4, .int .i64 x5, .int .i64 x6, .bool t1, .bool t2, .bool t3, .int .u8 ph, .int .i64 tt, .int .i64 si] 37)).alloc (.cells #[.int .i64 0, .int .i64 0, .int .i64 0, .int .i64 0, .int .i64 0, .int .i64 0, .int .i64 0, .bool false, .bool false, .bool false, .int .u8 0, .int .i64 0, .int .i64 0] 37)) (w.heap.size + 1 + 1) 37 #[.int .i64 0, .int .i64 0, .int .i64 0, .int .i64 0, .int .i64 0, .int .i64 0, .int .i64 0, .bool false, .bool false, .bool false, .int .u8 0, .int .i64 0, .int .i64 0] := blk2 w _ _
  have hb0 : Below w.heap.size w (((w.alloc (.cells #[.int .i64 a, .int .i64 b, .int .i64 c, .int .i64 bo, .int .i64 fr, .int .i64 tr, .int .i64 ag, .slice X ks.length cp] 26)).alloc (.cells #[.int .i64 job, .int .i64 x1, .int .i64 x2, .int .i64 x3, .int .i64 x4, .int .i64 x5, .int .i64 x6, .bool t1, .bool t2, .bool t3, .int .u8 ph, .int .i64 tt, .int .i64 si] 37)).alloc (.cells #[.int .i64 0, .int .i64 0, .int .i64 0, .int .i64 0, .int .i64 0, .int .i64 0, .int .i64 0, .bool false, .bool false, .bool false, .int .u8 0, .int .i64 0, .int .i64 0] 37)) := below_alloc (below_alloc (below_alloc (Below.refl _ _)))
  generalize hW0 : (((w.alloc (.cells #[.int .i64 a, .int .i64 b, .int .i64 c, .int .i64 bo, .int .i64 fr, .int .i64 tr, .int .i64 ag, .slice X ks.length cp] 26)).alloc (.cells #[.int .i64 job, .int .i64 x1, .int .i64 x2, .int .i64 x3, .int .i64 x4, .int .i64 x5, .int .i64 x6, .bool t1, .bool t2, .bool t3, .int .u8 ph, .int .i64 tt, .int .i64 si] 37)).alloc (.cells #[.int .i64 0, .int .i64 0, .int .i64 0, .int .i64 0, .int .i64 0, .int .i64 0, .int .i64 0, .bool false, .bool false, .bool false, .int .u8 0, .int .i64 0, .int .i64 0] 37)) = W0 at *
  clear hW0
  have d0 : W0.cell? ⟨w.heap.size, 0, none⟩ = some (.int .i64 a) := kd.cell 0
  have d1 : W0.cell? ⟨w.heap.size, 1, none⟩ = some (.int .i64 b) := kd.cell 1
  have d2 : W0.cell? ⟨w.heap.size, 2, none⟩ = some (.int .i64 c) := kd.cell 2
  have d3 : W0.cell? ⟨w.heap.size, 3, none⟩ = some (.int .i64 bo) := kd.cell 3
  have d4 : W0.cell? ⟨w.heap.size, 4, none⟩ = some (.int .i64 fr) := kd.cell 4
  have d5 : W0.cell? ⟨w.heap.size, 5, none⟩ = some (.int .i64 tr) := kd.cell 5
  have d6 : W0.cell? ⟨w.heap.size, 6, none⟩ = some (.int .i64 ag) := kd.cell 6
  have d7 : W0.cell? ⟨w.heap.size, 7, none⟩ = some (.slice X ks.length cp) := kd.cell 7
  have p0 : W0.cell? ⟨w.heap.size + 1, 0, none⟩ = some (.int .i64 job) := kp.cell 0
  have p1 : W0.cell? ⟨w.heap.size + 1, 1, none⟩ = some (.int .i64 x1) := kp.cell 1
  have p2 : W0.cell? ⟨w.heap.size + 1, 2, none⟩ = some (.int .i64 x2) := kp.cell 2
  have p3 : W0.cell? ⟨w.heap.size + 1, 3, none⟩ = some (.int .i64 x3) := kp.cell 3
  have p4 : W0.cell? ⟨w.heap.size + 1, 4, none⟩ = some (.int .i64 x4) := kp.cell 4
  have p5 : W0.cell? ⟨w.heap.size + 1, 5, none⟩ = some (.int .i64 x5) := kp.cell 5
  have p6 : W0.cell? ⟨w.heap.size + 1, 6, none⟩ = some (.int .i64 x6) := kp.cell 6
  have p7 : W0.cell? ⟨w.heap.size + 1, 7, none⟩ = some (.bool t1) := kp.cell 7
  have p8 : W0.cell? ⟨w.heap.size + 1, 8, none⟩ = some (.bool t2) := kp.cell 8
  have p9 : W0.cell? ⟨w.heap.size + 1, 9, none⟩ = some (.bool t3) := kp.cell 9
  have p10 : W0.cell? ⟨w.heap.size + 1, 10, none⟩ = some (.int .u8 ph) := kp.cell 10
  have p11 : W0.cell? ⟨w.heap.size + 1, 11, none⟩ = some (.int .i64 tt) := kp.cell 11
  have p12 : W0.cell? ⟨w.heap.size + 1, 12, none⟩ = some (.int .i64 si) := kp.cell 12
  have m0 : W0.cell? ⟨w.heap.size + 1 + 1, 0, none⟩ = some (.int .i64 0) := kr.cell 0
  have n0 : W0.frozen? ⟨w.heap.size + 1 + 1, 0, none⟩ = false := kr.frozen 0
  have m1 : W0.cell? ⟨w.heap.size + 1 + 1, 1, none⟩ = some (.int .i64 0) := kr.cell 1
  have n1 : W0.frozen? ⟨w.heap.size + 1 + 1, 1, none⟩ = false := kr.frozen 1
  have m2 : W0.cell? ⟨w.heap.size + 1 + 1, 2, none⟩ = some (.int .i64 0) := kr.cell 2
  have n2 : W0.frozen? ⟨w.heap.size + 1 + 1, 2, none⟩ = false := kr.frozen 2
  have m3 : W0.cell? ⟨w.heap.size + 1 + 1, 3, none⟩ = some (.int .i64 0) := kr.cell 3
  have n3 : W0.frozen? ⟨w.heap.size + 1 + 1, 3, none⟩ = false := kr.frozen 3
  have m4 : W0.cell? ⟨w.heap.size + 1 + 1, 4, none⟩ = some (.int .i64 0) := kr.cell 4
  have n4 : W0.frozen? ⟨w.heap.size + 1 + 1, 4, none⟩ = false := kr.frozen 4
  have m5 : W0.cell? ⟨w.heap.size + 1 + 1, 5, none⟩ = some (.int .i64 0) := kr.cell 5
  have n5 : W0.frozen? ⟨w.heap.size + 1 + 1, 5, none⟩ = false := kr.frozen 5
  have m6 : W0.cell? ⟨w.heap.size + 1 + 1, 6, none⟩ = some (.int .i64 0) := kr.cell 6
  have n6 : W0.frozen? ⟨w.heap.size + 1 + 1, 6, none⟩ = false := kr.frozen 6
  have m7 : W0.cell? ⟨w.heap.size + 1 + 1, 7, none⟩ = some (.bool false) := kr.cell 7
  have n7 : W0.frozen? ⟨w.heap.size + 1 + 1, 7, none⟩ = false := kr.frozen 7
  have m8 : W0.cell? ⟨w.heap.size + 1 + 1, 8, none⟩ = some (.bool false) := kr.cell 8
  have n8 : W0.frozen? ⟨w.heap.size + 1 + 1, 8, none⟩ = false := kr.frozen 8
  have m9 : W0.cell? ⟨w.heap.size + 1 + 1, 9, none⟩ = some (.bool false) := kr.cell 9
  have n9 : W0.frozen? ⟨w.heap.size + 1 + 1, 9, none⟩ = false := kr.frozen 9
  have m10 : W0.cell? ⟨w.heap.size + 1 + 1, 10, none⟩ = some (.int .u8 0) := kr.cell 10
  have n10 : W0.frozen? ⟨w.heap.size + 1 + 1, 10, none⟩ = false := kr.frozen 10
  have m11 : W0.cell? ⟨w.heap.size + 1 + 1, 11, none⟩ = some (.int .i64 0) := kr.cell 11
  have n11 : W0.frozen? ⟨w.heap.size + 1 + 1, 11, none⟩ = false := kr.frozen 11
  have m12 : W0.cell? ⟨w.heap.size + 1 + 1, 12, none⟩ = some (.int .i64 0) := kr.cell 12
  have n12 : W0.frozen? ⟨w.heap.size + 1 + 1, 12, none⟩ = false := kr.frozen 12
  have KK := Lib.hid (And.intro kd (And.intro kp kr))
  have HB0 := Lib.hid hb0
  clear kd kp kr hb0
  go_wp2_with fail
  refine (rmay_bad a b c bo fr tr ag X cp ks hl Hh.out _ (HKK.out.up HB0.out)).mono ?_
  rintro e w1 ⟨rfl, hB1⟩
  have HB1 := Lib.hid (below_up HB0.out hB1)
  have kd := KK.out.1.below hB1 (cell_lt d0)
  have kp := KK.out.2.1.below hB1 (cell_lt p0)
  have kr := KK.out.2.2.below hB1 (cell_lt m0)
  have KK1 := Lib.hid (And.intro kd (And.intro kp kr))
  clear hB1 d0 d1 d2 d3 d4 d5 d6 d7 p0 p1 p2 p3 p4 p5 p6 p7 p8 p9 p10 p11 p12 m0 n0 m1 n1 m2 n2 m3 n3 m4 n4 m5 n5 m6 n6 m7 n7 m8 n8 m9 n9 m10 n10 m11 n11 m12 n12
  have d0 : w1.cell? ⟨w.heap.size, 0, none⟩ = some (.int .i64 a) := kd.cell 0
  have d1 : w1.cell? ⟨w.heap.size, 1, none⟩ = some (.int .i64 b) := kd.cell 1
  have d2 : w1.cell? ⟨w.heap.size, 2, none⟩ = some (.int .i64 c) := kd.cell 2
  have d3 : w1.cell? ⟨w.heap.size, 3, none⟩ = some (.int .i64 bo) := kd.cell 3
  have d4 : w1.cell? ⟨w.heap.size, 4, none⟩ = some (.int .i64 fr) := kd.cell 4
  have d5 : w1.cell? ⟨w.heap.size, 5, none⟩ = some (.int .i64 tr) := kd.cell 5
  have d6 : w1.cell? ⟨w.heap.size, 6, none⟩ = some (.int .i64 ag) := kd.cell 6
  have d7 : w1.cell? ⟨w.heap.size, 7, none⟩ = some (.slice X ks.length cp) := kd.cell 7
  have p0 : w1.cell? ⟨w.heap.size + 1, 0, none⟩ = some (.int .i64 job) := kp.cell 0
  have p1 : w1.cell? ⟨w.heap.size + 1, 1, none⟩ = some (.int .i64 x1) := kp.cell 1
  have p2 : w1.cell? ⟨w.heap.size + 1, 2, none⟩ = some (.int .i64 x2) := kp.cell 2
  have p3 : w1.cell? ⟨w.heap.size + 1, 3, none⟩ = some (.int .i64 x3) := kp.cell 3
  have p4 : w1.cell? ⟨w.heap.size + 1, 4, none⟩ = some (.int .i64 x4) := kp.cell 4
  have p5 : w1.cell? ⟨w.heap.size + 1, 5, none⟩ = some (.int .i64 x5) := kp.cell 5
  have p6 : w1.cell? ⟨w.heap.size + 1, 6, none⟩ = some (.int .i64 x6) := kp.cell 6
  have p7 : w1.cell? ⟨w.heap.size + 1, 7, none⟩ = some (.bool t1) := kp.cell 7
  have p8 : w1.cell? ⟨w.heap.size + 1, 8, none⟩ = some (.bool t2) := kp.cell 8
  have p9 : w1.cell? ⟨w.heap.size + 1, 9, none⟩ = some (.bool t3) := kp.cell 9
  have p10 : w1.cell? ⟨w.heap.size + 1, 10, none⟩ = some (.int .u8 ph) := kp.cell 10
  have p11 : w1.cell? ⟨w.heap.size + 1, 11, none⟩ = some (.int .i64 tt) := kp.cell 11
  have p12 : w1.cell? ⟨w.heap.size + 1, 12, none⟩ = some (.int .i64 si) := kp.cell 12
  have m0 : w1.cell? ⟨w.heap.size + 1 + 1, 0, none⟩ = some (.int .i64 0) := kr.cell 0
  have n0 : w1.frozen? ⟨w.heap.size + 1 + 1, 0, none⟩ = false := kr.frozen 0
  have m1 : w1.cell? ⟨w.heap.size + 1 + 1, 1, none⟩ = some (.int .i64 0) := kr.cell 1
  have n1 : w1.frozen? ⟨w.heap.size + 1 + 1, 1, none⟩ = false := kr.frozen 1
  have m2 : w1.cell? ⟨w.heap.size + 1 + 1, 2, none⟩ = some (.int .i64 0) := kr.cell 2
  have n2 : w1.frozen? ⟨w.heap.size + 1 + 1, 2, none⟩ = false := kr.frozen 2
  have m3 : w1.cell? ⟨w.heap.size + 1 + 1, 3, none⟩ = some (.int .i64 0) := kr.cell 3
  have n3 : w1.frozen? ⟨w.heap.size + 1 + 1, 3, none⟩ = false := kr.frozen 3
  have m4 : w1.cell? ⟨w.heap.size + 1 + 1, 4, none⟩ = some (.int .i64 0) := kr.cell 4
  have n4 : w1.frozen? ⟨w.heap.size + 1 + 1, 4, none⟩ = false := kr.frozen 4
  have m5 : w1.cell? ⟨w.heap.size + 1 + 1, 5, none⟩ = some (.int .i64 0) := kr.cell 5
  have n5 : w1.frozen? ⟨w.heap.size + 1 + 1, 5, none⟩ = false := kr.frozen 5
  have m6 : w1.cell? ⟨w.heap.size + 1 + 1, 6, none⟩ = some (.int .i64 0) := kr.cell 6
  have n6 : w1.frozen? ⟨w.heap.size + 1 + 1, 6, none⟩ = false := kr.frozen 6
  have m7 : w1.cell? ⟨w.heap.size + 1 + 1, 7, none⟩ = some (.bool false) := kr.cell 7
  have n7 : w1.frozen? ⟨w.heap.size + 1 + 1, 7, none⟩ = false := kr.frozen 7
  have m8 : w1.cell? ⟨w.heap.size + 1 + 1, 8, none⟩ = some (.bool false) := kr.cell 8
  have n8 : w1.frozen? ⟨w.heap.size + 1 + 1, 8, none⟩ = false := kr.frozen 8
  have m9 : w1.cell? ⟨w.heap.size + 1 + 1, 9, none⟩ = some (.bool false) := kr.cell 9
  have n9 : w1.frozen? ⟨w.heap.size + 1 + 1, 9, none⟩ = false := kr.frozen 9
  have m10 : w1.cell? ⟨w.heap.size + 1 + 1, 10, none⟩ = some (.int .u8 0) := kr.cell 10
  have n10 : w1.frozen? ⟨w.heap.size + 1 + 1, 10, none⟩ = false := kr.frozen 10
  have m11 : w1.cell? ⟨w.heap.size + 1 + 1, 11, none⟩ = some (.int .i64 0) := kr.cell 11
  have n11 : w1.frozen? ⟨w.heap.size + 1 + 1, 11, none⟩ = false := kr.frozen 11
  have m12 : w1.cell? ⟨w.heap.size + 1 + 1, 12, none⟩ = some (.int .i64 0) := kr.cell 12
  have n12 : w1.frozen? ⟨w.heap.size + 1 + 1, 12, none⟩ = false := kr.frozen 12
  have hz1 : w.heap.size + 1 + 1 < w1.heap.size := kr.lt
  clear kd kp kr
  go_wp2_with fail
  have hs13 := store13 (w := w) (g := w.heap.size + 1 + 1) HB1.out (by omega) KK1.out.2.2 (.int .i64 0) (.int .i64 0) (.int .i64 0) (.int .i64 0) (.int .i64 0) (.int .i64 0) (.int .i64 0) (.bool false) (.bool false) (.bool false) (.int .u8 0) (.int .i64 0) (.int .i64 0)
  refine bodyPost_ret (v := .tuple #[.agg #[.int .i64 0, .int .i64 0, .int .i64 0, .int .i64 0, .int .i64 0, .int .i64 0, .int .i64 0, .bool false, .bool false, .bool false, .int .u8 0, .int .i64 0, .int .i64 0], .int .u8 0, .bool false, .int .i64 8]) ?_ rfl ?_
  · exact res_rnext _ _ (w.heap.size + 1 + 1) (.int .i64 0) (.int .i64 0) (.int .i64 0) (.int .i64 0) (.int .i64 0) (.int .i64 0) (.int .i64 0) (.bool false) (.bool false) (.bool false) (.int .u8 0) (.int .i64 0) (.int .i64 0) (.int .u8 0) (.bool false) (.int .i64 8) rfl rfl rfl rfl hs13.2
  · exact ⟨rfl, hs13.1⟩
set_option maxRecDepth 100000 in
set_option maxHeartbeats 8000000 in
theorem rn_part (a b c bo fr tr ag : Int) (X : Option Addr) (cp : Nat) (ks : List Cls) (hl : ks.length ≤ 9223372036854775807) (job x1 x2 x3 x4 x5 x6 : Int) (t1 t2 t3 : Bool) (ph tt si : Int) (turn now : Int) (h : CfgOk a b c bo fr tr ag ks) (hp : ¬ PartOk job ph tt si tr) (w : World) (hk : ClsAt w w.heap.size X ks) :
    Calls Try.prog 18 #[.agg #[.int .i64 a, .int .i64 b, .int .i64 c, .int .i64 bo, .int .i64 fr, .int .i64 tr, .int .i64 ag, .slice X ks.length cp], .agg #[.int .i64 job, .int .i64 x1, .int .i64 x2, .int .i64 x3, .int .i64 x4, .int .i64 x5, .int .i64 x6, .bool t1, .bool t2, .bool t3, .int .u8 ph, .int .i64 tt, .int .i64 si], .int .u8 turn, .int .i64 now] w (fun e w' => e = .returned (.tuple #[.agg #[.int .i64 0, .int .i64 0, .int .i64 0, .int .i64 0, .int .i64 0, .int .i64 0, .int .i64 0, .bool false, .bool false, .bool false, .int .u8 0, .int .i64 0, .int .i64 0], .int .u8 0, .bool false, .int .i64 8]) ∧ Below w.heap.size w w') := by
  have HKK := Lib.hid hk
  clear hk
  have Hh := Lib.hid h
  clear h
  have Hhp := Lib.hid hp
  clear hp
  go_enter Try.func18, Try.ntmps18
  go_upto_region 1 with fail
  have kd : Blk (((w.alloc (.cells #[.int .i64 a, .int .i64 b, .int .i64 c, .int .i64 bo, .int .i64 fr, .int .i64 tr, .int .i64 ag, .slice X ks.length cp] 26)).alloc (.cells #[.int .i64 job, .int .i64 x1, .int .i64 x2, .int .i64 x3, .int .i64 x4, .int .i64 x5, .int .i64 x6, .bool t1, .bool t2, .bool t3, .int .u8 ph, .int .i64 tt, .int .i64 si] 37)).alloc (.cells #[.int .i64 0, .int .i64 0, .int .i64 0, .int .i64 0, .int .i64 0, .int .i64 0, .int .i64 0, .bool false, .bool false, .bool false, .int .u8 0, .int .i64 0, .int .i64 0] 37)) (w.heap.size) 26 #[.int .i64 a, .int .i64 b, .int .i64 c, .int .i64 bo, .int .i64 fr, .int .i64 tr, .int .i64 ag, .slice X ks.length cp] := ((Blk.new w _ _).alloc _).alloc _
  have kp : Blk (((w.alloc (.cells #[.int .i64 a, .int .i64 b, .int .i64 c, .int .i64 bo, .int .i64 fr, .int .i64 tr, .int .i64 ag, .slice X ks.length cp] 26)).alloc (.cells #[.int .i64 job, .int .i64 x1, .int .i64 x2, .int .i64 x3, .int .i64 x4, .int .i64 x5, .int .i64 x6, .bool t1, .bool t2, .bool t3, .int .u8 ph, .int .i64 tt, .int .i64 si] 37)).alloc (.cells #[.int .i64 0, .int .i64 0, .int .i64 0, .int .i64 0, .int .i64 0, .int .i64 0, .int .i64 0, .bool false, .bool false, .bool false, .int .u8 0, .int .i64 0, .int .i64 0] 37)) (w.heap.size + 1) 37 #[.int .i64 job, .int .i64 x1, .int .i64 x2, .int .i64 x3, .int .i64 x4, .int .i64 x5, .int .i64 x6, .bool t1, .bool t2, .bool t3, .int .u8 ph, .int .i64 tt, .int .i64 si] := (blk1 w _ _).alloc _
  have kr : Blk (((w.alloc (.cells #[.int .i64 a, .int .i64 b, .int .i64 c, .int .i64 bo, .int .i64 fr, .int .i64 tr, .int .i64 ag, .slice X ks.length cp] 26)).alloc (.cells #[.int .i64 job, .int .i64 x1, .int .i64 x2, .int .i64 x3, .int .i64 x4, .int .i64 x5, .int .i64 x6, .bool t1, .bool t2, .bool t3, .int .u8 ph, .int .i64 tt, .int .i64 si] 37)).alloc (.cells #[.int .i64 0, .int .i64 0, .int .i64 0, .int .i64 0, .int .i64 0, .int .i64 0, .int .i64 0, .bool false, .bool false, .bool false, .int .u8 0, .int .i64 0, .int .i64 0] 37)) (w.heap.size + 1 + 1) 37 #[.int .i64 0, .int .i64 0, .int .i64 0, .int .i64 0, .int .i64 0, .int .i64 0, .int .i64 0, .bool false, .bool false, .bool false, .int .u8 0, .int .i64 0, .int .i64 0] := blk2 w _ _
  have hb0 : Below w.heap.size w (((w.alloc (.cells #[.int .i64 a, .int .i64 b, .int .i64 c, .int .i64 bo, .int .i64 fr, .int .i64 tr, .int .i64 ag, .slice X ks.length cp] 26)).alloc (.cells #[.int .i64 job, .int .i64 x1, .int .i64 x2, .int .i64 x3, .int .i64 x4, .int .i64 x5, .int .i64 x6, .bool t1, .bool t2, .bool t3, .int .u8 ph, .int .i64 tt, .int .i64 si] 37)).alloc (.cells #[.int .i64 0, .int .i64 0, .int .i64 0, .int .i64 0, .int .i64 0, .int .i64 0, .int .i64 0, .bool false, .bool false, .bool false, .int .u8 0, .int .i64 0, .int .i64 0] 37)) := below_alloc (below_alloc (below_alloc (Below.refl _ _)))
  generalize hW0 : (((w.alloc (.cells #[.int .i64 a, .int .i64 b, .int .i64 c, .int .i64 bo, .int .i64 fr, .int .i64 tr, .int .i64 ag, .slice X ks.length cp] 26)).alloc (.cells #[.int .i64 job, .int .i64 x1, .int .i64 x2, .int .i64 x3, .int .i64 x4, .int .i64 x5, .int .i64 x6, .bool t1, .bool t2, .bool t3, .int .u8 ph, .int .i64 tt, .int .i64 si] 37)).alloc (.cells #[.int .i64 0, .int .i64 0, .int .i64 0, .int .i64 0, .int .i64 0, .int .i64 0, .int .i64 0, .bool false, .bool false, .bool false, .int .u8 0, .int .i64 0, .int .i64 0] 37)) = W0 at *
  clear hW0
  have d0 : W0.cell? ⟨w.heap.size, 0, none⟩ = some (.int .i64 a) := kd.cell 0
  have d1 : W0.cell? ⟨w.heap.size, 1, none⟩ = some (.int .i64 b) := kd.cell 1
  have d2 : W0.cell? ⟨w.heap.size, 2, none⟩ = some (.int .i64 c) := kd.cell 2
  have d3 : W0.cell? ⟨w.heap.size, 3, none⟩ = some (.int .i64 bo) := kd.cell 3
  have d4 : W0.cell? ⟨w.heap.size, 4, none⟩ = some (.int .i64 fr) := kd.cell 4
  have d5 : W0.cell? ⟨w.heap.size, 5, none⟩ = some (.int .i64 tr) := kd.cell 5
  have d6 : W0.cell? ⟨w.heap.size, 6, none⟩ = some (.int .i64 ag) := kd.cell 6
  have d7 : W0.cell? ⟨w.heap.size, 7, none⟩ = some (.slice X ks.length cp) := kd.cell 7
  have p0 : W0.cell? ⟨w.heap.size + 1, 0, none⟩ = some (.int .i64 job) := kp.cell 0
  have p1 : W0.cell? ⟨w.heap.size + 1, 1, none⟩ = some (.int .i64 x1) := kp.cell 1
  have p2 : W0.cell? ⟨w.heap.size + 1, 2, none⟩ = some (.int .i64 x2) := kp.cell 2
  have p3 : W0.cell? ⟨w.heap.size + 1, 3, none⟩ = some (.int .i64 x3) := kp.cell 3
  have p4 : W0.cell? ⟨w.heap.size + 1, 4, none⟩ = some (.int .i64 x4) := kp.cell 4
  have p5 : W0.cell? ⟨w.heap.size + 1, 5, none⟩ = some (.int .i64 x5) := kp.cell 5
  have p6 : W0.cell? ⟨w.heap.size + 1, 6, none⟩ = some (.int .i64 x6) := kp.cell 6
  have p7 : W0.cell? ⟨w.heap.size + 1, 7, none⟩ = some (.bool t1) := kp.cell 7
  have p8 : W0.cell? ⟨w.heap.size + 1, 8, none⟩ = some (.bool t2) := kp.cell 8
  have p9 : W0.cell? ⟨w.heap.size + 1, 9, none⟩ = some (.bool t3) := kp.cell 9
  have p10 : W0.cell? ⟨w.heap.size + 1, 10, none⟩ = some (.int .u8 ph) := kp.cell 10
  have p11 : W0.cell? ⟨w.heap.size + 1, 11, none⟩ = some (.int .i64 tt) := kp.cell 11
  have p12 : W0.cell? ⟨w.heap.size + 1, 12, none⟩ = some (.int .i64 si) := kp.cell 12
  have m0 : W0.cell? ⟨w.heap.size + 1 + 1, 0, none⟩ = some (.int .i64 0) := kr.cell 0
  have n0 : W0.frozen? ⟨w.heap.size + 1 + 1, 0, none⟩ = false := kr.frozen 0
  have m1 : W0.cell? ⟨w.heap.size + 1 + 1, 1, none⟩ = some (.int .i64 0) := kr.cell 1
  have n1 : W0.frozen? ⟨w.heap.size + 1 + 1, 1, none⟩ = false := kr.frozen 1
  have m2 : W0.cell? ⟨w.heap.size + 1 + 1, 2, none⟩ = some (.int .i64 0) := kr.cell 2
  have n2 : W0.frozen? ⟨w.heap.size + 1 + 1, 2, none⟩ = false := kr.frozen 2
  have m3 : W0.cell? ⟨w.heap.size + 1 + 1, 3, none⟩ = some (.int .i64 0) := kr.cell 3
  have n3 : W0.frozen? ⟨w.heap.size + 1 + 1, 3, none⟩ = false := kr.frozen 3
  have m4 : W0.cell? ⟨w.heap.size + 1 + 1, 4, none⟩ = some (.int .i64 0) := kr.cell 4
  have n4 : W0.frozen? ⟨w.heap.size + 1 + 1, 4, none⟩ = false := kr.frozen 4
  have m5 : W0.cell? ⟨w.heap.size + 1 + 1, 5, none⟩ = some (.int .i64 0) := kr.cell 5
  have n5 : W0.frozen? ⟨w.heap.size + 1 + 1, 5, none⟩ = false := kr.frozen 5
  have m6 : W0.cell? ⟨w.heap.size + 1 + 1, 6, none⟩ = some (.int .i64 0) := kr.cell 6
  have n6 : W0.frozen? ⟨w.heap.size + 1 + 1, 6, none⟩ = false := kr.frozen 6
  have m7 : W0.cell? ⟨w.heap.size + 1 + 1, 7, none⟩ = some (.bool false) := kr.cell 7
  have n7 : W0.frozen? ⟨w.heap.size + 1 + 1, 7, none⟩ = false := kr.frozen 7
  have m8 : W0.cell? ⟨w.heap.size + 1 + 1, 8, none⟩ = some (.bool false) := kr.cell 8
  have n8 : W0.frozen? ⟨w.heap.size + 1 + 1, 8, none⟩ = false := kr.frozen 8
  have m9 : W0.cell? ⟨w.heap.size + 1 + 1, 9, none⟩ = some (.bool false) := kr.cell 9
  have n9 : W0.frozen? ⟨w.heap.size + 1 + 1, 9, none⟩ = false := kr.frozen 9
  have m10 : W0.cell? ⟨w.heap.size + 1 + 1, 10, none⟩ = some (.int .u8 0) := kr.cell 10
  have n10 : W0.frozen? ⟨w.heap.size + 1 + 1, 10, none⟩ = false := kr.frozen 10
  have m11 : W0.cell? ⟨w.heap.size + 1 + 1, 11, none⟩ = some (.int .i64 0) := kr.cell 11
  have n11 : W0.frozen? ⟨w.heap.size + 1 + 1, 11, none⟩ = false := kr.frozen 11
  have m12 : W0.cell? ⟨w.heap.size + 1 + 1, 12, none⟩ = some (.int .i64 0) := kr.cell 12
  have n12 : W0.frozen? ⟨w.heap.size + 1 + 1, 12, none⟩ = false := kr.frozen 12
  have KK := Lib.hid (And.intro kd (And.intro kp kr))
  have HB0 := Lib.hid hb0
  clear kd kp kr hb0
  go_wp2_with fail
  refine (rmay_ok a b c bo fr tr ag X cp ks hl Hh.out _ (HKK.out.up HB0.out)).mono ?_
  rintro e w1 ⟨rfl, hB1⟩
  have HB1 := Lib.hid (below_up HB0.out hB1)
  have kd := KK.out.1.below hB1 (cell_lt d0)
  have kp := KK.out.2.1.below hB1 (cell_lt p0)
  have kr := KK.out.2.2.below hB1 (cell_lt m0)
  have KK1 := Lib.hid (And.intro kd (And.intro kp kr))
  clear hB1 d0 d1 d2 d3 d4 d5 d6 d7 p0 p1 p2 p3 p4 p5 p6 p7 p8 p9 p10 p11 p12 m0 n0 m1 n1 m2 n2 m3 n3 m4 n4 m5 n5 m6 n6 m7 n7 m8 n8 m9 n9 m10 n10 m11 n11 m12 n12
  have d0 : w1.cell? ⟨w.heap.size, 0, none⟩ = some (.int .i64 a) := kd.cell 0
  have d1 : w1.cell? ⟨w.heap.size, 1, none⟩ = some (.int .i64 b) := kd.cell 1
  have d2 : w1.cell? ⟨w.heap.size, 2, none⟩ = some (.int .i64 c) := kd.cell 2
  have d3 : w1.cell? ⟨w.heap.size, 3, none⟩ = some (.int .i64 bo) := kd.cell 3
  have d4 : w1.cell? ⟨w.heap.size, 4, none⟩ = some (.int .i64 fr) := kd.cell 4
  have d5 : w1.cell? ⟨w.heap.size, 5, none⟩ = some (.int .i64 tr) := kd.cell 5
  have d6 : w1.cell? ⟨w.heap.size, 6, none⟩ = some (.int .i64 ag) := kd.cell 6
  have d7 : w1.cell? ⟨w.heap.size, 7, none⟩ = some (.slice X ks.length cp) := kd.cell 7
  have p0 : w1.cell? ⟨w.heap.size + 1, 0, none⟩ = some (.int .i64 job) := kp.cell 0
  have p1 : w1.cell? ⟨w.heap.size + 1, 1, none⟩ = some (.int .i64 x1) := kp.cell 1
  have p2 : w1.cell? ⟨w.heap.size + 1, 2, none⟩ = some (.int .i64 x2) := kp.cell 2
  have p3 : w1.cell? ⟨w.heap.size + 1, 3, none⟩ = some (.int .i64 x3) := kp.cell 3
  have p4 : w1.cell? ⟨w.heap.size + 1, 4, none⟩ = some (.int .i64 x4) := kp.cell 4
  have p5 : w1.cell? ⟨w.heap.size + 1, 5, none⟩ = some (.int .i64 x5) := kp.cell 5
  have p6 : w1.cell? ⟨w.heap.size + 1, 6, none⟩ = some (.int .i64 x6) := kp.cell 6
  have p7 : w1.cell? ⟨w.heap.size + 1, 7, none⟩ = some (.bool t1) := kp.cell 7
  have p8 : w1.cell? ⟨w.heap.size + 1, 8, none⟩ = some (.bool t2) := kp.cell 8
  have p9 : w1.cell? ⟨w.heap.size + 1, 9, none⟩ = some (.bool t3) := kp.cell 9
  have p10 : w1.cell? ⟨w.heap.size + 1, 10, none⟩ = some (.int .u8 ph) := kp.cell 10
  have p11 : w1.cell? ⟨w.heap.size + 1, 11, none⟩ = some (.int .i64 tt) := kp.cell 11
  have p12 : w1.cell? ⟨w.heap.size + 1, 12, none⟩ = some (.int .i64 si) := kp.cell 12
  have m0 : w1.cell? ⟨w.heap.size + 1 + 1, 0, none⟩ = some (.int .i64 0) := kr.cell 0
  have n0 : w1.frozen? ⟨w.heap.size + 1 + 1, 0, none⟩ = false := kr.frozen 0
  have m1 : w1.cell? ⟨w.heap.size + 1 + 1, 1, none⟩ = some (.int .i64 0) := kr.cell 1
  have n1 : w1.frozen? ⟨w.heap.size + 1 + 1, 1, none⟩ = false := kr.frozen 1
  have m2 : w1.cell? ⟨w.heap.size + 1 + 1, 2, none⟩ = some (.int .i64 0) := kr.cell 2
  have n2 : w1.frozen? ⟨w.heap.size + 1 + 1, 2, none⟩ = false := kr.frozen 2
  have m3 : w1.cell? ⟨w.heap.size + 1 + 1, 3, none⟩ = some (.int .i64 0) := kr.cell 3
  have n3 : w1.frozen? ⟨w.heap.size + 1 + 1, 3, none⟩ = false := kr.frozen 3
  have m4 : w1.cell? ⟨w.heap.size + 1 + 1, 4, none⟩ = some (.int .i64 0) := kr.cell 4
  have n4 : w1.frozen? ⟨w.heap.size + 1 + 1, 4, none⟩ = false := kr.frozen 4
  have m5 : w1.cell? ⟨w.heap.size + 1 + 1, 5, none⟩ = some (.int .i64 0) := kr.cell 5
  have n5 : w1.frozen? ⟨w.heap.size + 1 + 1, 5, none⟩ = false := kr.frozen 5
  have m6 : w1.cell? ⟨w.heap.size + 1 + 1, 6, none⟩ = some (.int .i64 0) := kr.cell 6
  have n6 : w1.frozen? ⟨w.heap.size + 1 + 1, 6, none⟩ = false := kr.frozen 6
  have m7 : w1.cell? ⟨w.heap.size + 1 + 1, 7, none⟩ = some (.bool false) := kr.cell 7
  have n7 : w1.frozen? ⟨w.heap.size + 1 + 1, 7, none⟩ = false := kr.frozen 7
  have m8 : w1.cell? ⟨w.heap.size + 1 + 1, 8, none⟩ = some (.bool false) := kr.cell 8
  have n8 : w1.frozen? ⟨w.heap.size + 1 + 1, 8, none⟩ = false := kr.frozen 8
  have m9 : w1.cell? ⟨w.heap.size + 1 + 1, 9, none⟩ = some (.bool false) := kr.cell 9
  have n9 : w1.frozen? ⟨w.heap.size + 1 + 1, 9, none⟩ = false := kr.frozen 9
  have m10 : w1.cell? ⟨w.heap.size + 1 + 1, 10, none⟩ = some (.int .u8 0) := kr.cell 10
  have n10 : w1.frozen? ⟨w.heap.size + 1 + 1, 10, none⟩ = false := kr.frozen 10
  have m11 : w1.cell? ⟨w.heap.size + 1 + 1, 11, none⟩ = some (.int .i64 0) := kr.cell 11
  have n11 : w1.frozen? ⟨w.heap.size + 1 + 1, 11, none⟩ = false := kr.frozen 11
  have m12 : w1.cell? ⟨w.heap.size + 1 + 1, 12, none⟩ = some (.int .i64 0) := kr.cell 12
  have n12 : w1.frozen? ⟨w.heap.size + 1 + 1, 12, none⟩ = false := kr.frozen 12
  have hz1 : w.heap.size + 1 + 1 < w1.heap.size := kr.lt
  clear kd kp kr
  go_wp2_with fail
  refine (rp_bad a b c bo fr tr ag X cp ks job x1 x2 x3 x4 x5 x6 t1 t2 t3 ph tt si Hhp.out _).mono ?_
  rintro e w2 ⟨rfl, hB2⟩
  have HB2 := Lib.hid (below_up HB1.out hB2)
  have kd := KK1.out.1.below hB2 (cell_lt d0)
  have kp := KK1.out.2.1.below hB2 (cell_lt p0)
  have kr := KK1.out.2.2.below hB2 (cell_lt m0)
  have KK2 := Lib.hid (And.intro kd (And.intro kp kr))
  clear hB2 d0 d1 d2 d3 d4 d5 d6 d7 p0 p1 p2 p3 p4 p5 p6 p7 p8 p9 p10 p11 p12 m0 n0 m1 n1 m2 n2 m3 n3 m4 n4 m5 n5 m6 n6 m7 n7 m8 n8 m9 n9 m10 n10 m11 n11 m12 n12
  have d0 : w2.cell? ⟨w.heap.size, 0, none⟩ = some (.int .i64 a) := kd.cell 0
  have d1 : w2.cell? ⟨w.heap.size, 1, none⟩ = some (.int .i64 b) := kd.cell 1
  have d2 : w2.cell? ⟨w.heap.size, 2, none⟩ = some (.int .i64 c) := kd.cell 2
  have d3 : w2.cell? ⟨w.heap.size, 3, none⟩ = some (.int .i64 bo) := kd.cell 3
  have d4 : w2.cell? ⟨w.heap.size, 4, none⟩ = some (.int .i64 fr) := kd.cell 4
  have d5 : w2.cell? ⟨w.heap.size, 5, none⟩ = some (.int .i64 tr) := kd.cell 5
  have d6 : w2.cell? ⟨w.heap.size, 6, none⟩ = some (.int .i64 ag) := kd.cell 6
  have d7 : w2.cell? ⟨w.heap.size, 7, none⟩ = some (.slice X ks.length cp) := kd.cell 7
  have p0 : w2.cell? ⟨w.heap.size + 1, 0, none⟩ = some (.int .i64 job) := kp.cell 0
  have p1 : w2.cell? ⟨w.heap.size + 1, 1, none⟩ = some (.int .i64 x1) := kp.cell 1
  have p2 : w2.cell? ⟨w.heap.size + 1, 2, none⟩ = some (.int .i64 x2) := kp.cell 2
  have p3 : w2.cell? ⟨w.heap.size + 1, 3, none⟩ = some (.int .i64 x3) := kp.cell 3
  have p4 : w2.cell? ⟨w.heap.size + 1, 4, none⟩ = some (.int .i64 x4) := kp.cell 4
  have p5 : w2.cell? ⟨w.heap.size + 1, 5, none⟩ = some (.int .i64 x5) := kp.cell 5
  have p6 : w2.cell? ⟨w.heap.size + 1, 6, none⟩ = some (.int .i64 x6) := kp.cell 6
  have p7 : w2.cell? ⟨w.heap.size + 1, 7, none⟩ = some (.bool t1) := kp.cell 7
  have p8 : w2.cell? ⟨w.heap.size + 1, 8, none⟩ = some (.bool t2) := kp.cell 8
  have p9 : w2.cell? ⟨w.heap.size + 1, 9, none⟩ = some (.bool t3) := kp.cell 9
  have p10 : w2.cell? ⟨w.heap.size + 1, 10, none⟩ = some (.int .u8 ph) := kp.cell 10
  have p11 : w2.cell? ⟨w.heap.size + 1, 11, none⟩ = some (.int .i64 tt) := kp.cell 11
  have p12 : w2.cell? ⟨w.heap.size + 1, 12, none⟩ = some (.int .i64 si) := kp.cell 12
  have m0 : w2.cell? ⟨w.heap.size + 1 + 1, 0, none⟩ = some (.int .i64 0) := kr.cell 0
  have n0 : w2.frozen? ⟨w.heap.size + 1 + 1, 0, none⟩ = false := kr.frozen 0
  have m1 : w2.cell? ⟨w.heap.size + 1 + 1, 1, none⟩ = some (.int .i64 0) := kr.cell 1
  have n1 : w2.frozen? ⟨w.heap.size + 1 + 1, 1, none⟩ = false := kr.frozen 1
  have m2 : w2.cell? ⟨w.heap.size + 1 + 1, 2, none⟩ = some (.int .i64 0) := kr.cell 2
  have n2 : w2.frozen? ⟨w.heap.size + 1 + 1, 2, none⟩ = false := kr.frozen 2
  have m3 : w2.cell? ⟨w.heap.size + 1 + 1, 3, none⟩ = some (.int .i64 0) := kr.cell 3
  have n3 : w2.frozen? ⟨w.heap.size + 1 + 1, 3, none⟩ = false := kr.frozen 3
  have m4 : w2.cell? ⟨w.heap.size + 1 + 1, 4, none⟩ = some (.int .i64 0) := kr.cell 4
  have n4 : w2.frozen? ⟨w.heap.size + 1 + 1, 4, none⟩ = false := kr.frozen 4
  have m5 : w2.cell? ⟨w.heap.size + 1 + 1, 5, none⟩ = some (.int .i64 0) := kr.cell 5
  have n5 : w2.frozen? ⟨w.heap.size + 1 + 1, 5, none⟩ = false := kr.frozen 5
  have m6 : w2.cell? ⟨w.heap.size + 1 + 1, 6, none⟩ = some (.int .i64 0) := kr.cell 6
  have n6 : w2.frozen? ⟨w.heap.size + 1 + 1, 6, none⟩ = false := kr.frozen 6
  have m7 : w2.cell? ⟨w.heap.size + 1 + 1, 7, none⟩ = some (.bool false) := kr.cell 7
  have n7 : w2.frozen? ⟨w.heap.size + 1 + 1, 7, none⟩ = false := kr.frozen 7
  have m8 : w2.cell? ⟨w.heap.size + 1 + 1, 8, none⟩ = some (.bool false) := kr.cell 8
  have n8 : w2.frozen? ⟨w.heap.size + 1 + 1, 8, none⟩ = false := kr.frozen 8
  have m9 : w2.cell? ⟨w.heap.size + 1 + 1, 9, none⟩ = some (.bool false) := kr.cell 9
  have n9 : w2.frozen? ⟨w.heap.size + 1 + 1, 9, none⟩ = false := kr.frozen 9
  have m10 : w2.cell? ⟨w.heap.size + 1 + 1, 10, none⟩ = some (.int .u8 0) := kr.cell 10
  have n10 : w2.frozen? ⟨w.heap.size + 1 + 1, 10, none⟩ = false := kr.frozen 10
  have m11 : w2.cell? ⟨w.heap.size + 1 + 1, 11, none⟩ = some (.int .i64 0) := kr.cell 11
  have n11 : w2.frozen? ⟨w.heap.size + 1 + 1, 11, none⟩ = false := kr.frozen 11
  have m12 : w2.cell? ⟨w.heap.size + 1 + 1, 12, none⟩ = some (.int .i64 0) := kr.cell 12
  have n12 : w2.frozen? ⟨w.heap.size + 1 + 1, 12, none⟩ = false := kr.frozen 12
  have hz2 : w.heap.size + 1 + 1 < w2.heap.size := kr.lt
  clear kd kp kr
  go_wp2_with fail
  have hs13 := store13 (w := w) (g := w.heap.size + 1 + 1) HB2.out (by omega) KK2.out.2.2 (.int .i64 0) (.int .i64 0) (.int .i64 0) (.int .i64 0) (.int .i64 0) (.int .i64 0) (.int .i64 0) (.bool false) (.bool false) (.bool false) (.int .u8 0) (.int .i64 0) (.int .i64 0)
  refine bodyPost_ret (v := .tuple #[.agg #[.int .i64 0, .int .i64 0, .int .i64 0, .int .i64 0, .int .i64 0, .int .i64 0, .int .i64 0, .bool false, .bool false, .bool false, .int .u8 0, .int .i64 0, .int .i64 0], .int .u8 0, .bool false, .int .i64 8]) ?_ rfl ?_
  · exact res_rnext _ _ (w.heap.size + 1 + 1) (.int .i64 0) (.int .i64 0) (.int .i64 0) (.int .i64 0) (.int .i64 0) (.int .i64 0) (.int .i64 0) (.bool false) (.bool false) (.bool false) (.int .u8 0) (.int .i64 0) (.int .i64 0) (.int .u8 0) (.bool false) (.int .i64 8) rfl rfl rfl rfl hs13.2
  · exact ⟨rfl, hs13.1⟩
set_option maxRecDepth 100000 in
set_option maxHeartbeats 8000000 in
theorem rn_lo (a b c bo fr tr ag : Int) (X : Option Addr) (cp : Nat) (ks : List Cls) (hl : ks.length ≤ 9223372036854775807) (job x1 x2 x3 x4 x5 x6 : Int) (t1 t2 t3 : Bool) (ph tt si : Int) (turn now : Int) (h : CfgOk a b c bo fr tr ag ks) (hp : PartOk job ph tt si tr) (h1 : turn < 1) (w : World) (hk : ClsAt w w.heap.size X ks) :
    Calls Try.prog 18 #[.agg #[.int .i64 a, .int .i64 b, .int .i64 c, .int .i64 bo, .int .i64 fr, .int .i64 tr, .int .i64 ag, .slice X ks.length cp], .agg #[.int .i64 job, .int .i64 x1, .int .i64 x2, .int .i64 x3, .int .i64 x4, .int .i64 x5, .int .i64 x6, .bool t1, .bool t2, .bool t3, .int .u8 ph, .int .i64 tt, .int .i64 si], .int .u8 turn, .int .i64 now] w (fun e w' => e = .returned (.tuple #[.agg #[.int .i64 0, .int .i64 0, .int .i64 0, .int .i64 0, .int .i64 0, .int .i64 0, .int .i64 0, .bool false, .bool false, .bool false, .int .u8 0, .int .i64 0, .int .i64 0], .int .u8 0, .bool false, .int .i64 2]) ∧ Below w.heap.size w w') := by
  have HKK := Lib.hid hk
  clear hk
  have Hh := Lib.hid h
  clear h
  have Hhp := Lib.hid hp
  clear hp
  go_enter Try.func18, Try.ntmps18
  go_upto_region 1 with fail
  have kd : Blk (((w.alloc (.cells #[.int .i64 a, .int .i64 b, .int .i64 c, .int .i64 bo, .int .i64 fr, .int .i64 tr, .int .i64 ag, .slice X ks.length cp] 26)).alloc (.cells #[.int .i64 job, .int .i64 x1, .int .i64 x2, .int .i64 x3, .int .i64 x4, .int .i64 x5, .int .i64 x6, .bool t1, .bool t2, .bool t3, .int .u8 ph, .int .i64 tt, .int .i64 si] 37)).alloc (.cells #[.int .i64 0, .int .i64 0, .int .i64 0, .int .i64 0, .int .i64 0, .int .i64 0, .int .i64 0, .bool false, .bool false, .bool false, .int .u8 0, .int .i64 0, .int .i64 0] 37)) (w.heap.size) 26 #[.int .i64 a, .int .i64 b, .int .i64 c, .int .i64 bo, .int .i64 fr, .int .i64 tr, .int .i64 ag, .slice X ks.length cp] := ((Blk.new w _ _).alloc _).alloc _
  have kp : Blk (((w.alloc (.cells #[.int .i64 a, .int .i64 b, .int .i64 c, .int .i64 bo, .int .i64 fr, .int .i64 tr, .int .i64 ag, .slice X ks.length cp] 26)).alloc (.cells #[.int .i64 job, .int .i64 x1, .int .i64 x2, .int .i64 x3, .int .i64 x4, .int .i64 x5, .int .i64 x6, .bool t1, .bool t2, .bool t3, .int .u8 ph, .int .i64 tt, .int .i64 si] 37)).alloc (.cells #[.int .i64 0, .int .i64 0, .int .i64 0, .int .i64 0, .int .i64 0, .int .i64 0, .int .i64 0, .bool false, .bool false, .bool false, .int .u8 0, .int .i64 0, .int .i64 0] 37)) (w.heap.size + 1) 37 #[.int .i64 job, .int .i64 x1, .int .i64 x2, .int .i64 x3, .int .i64 x4, .int .i64 x5, .int .i64 x6, .bool t1, .bool t2, .bool t3, .int .u8 ph, .int .i64 tt, .int .i64 si] := (blk1 w _ _).alloc _
  have kr : Blk (((w.alloc (.cells #[.int .i64 a, .int .i64 b, .int .i64 c, .int .i64 bo, .int .i64 fr, .int .i64 tr, .int .i64 ag, .slice X ks.length cp] 26)).alloc (.cells #[.int .i64 job, .int .i64 x1, .int .i64 x2, .int .i64 x3, .int .i64 x4, .int .i64 x5, .int .i64 x6, .bool t1, .bool t2, .bool t3, .int .u8 ph, .int .i64 tt, .int .i64 si] 37)).alloc (.cells #[.int .i64 0, .int .i64 0, .int .i64 0, .int .i64 0, .int .i64 0, .int .i64 0, .int .i64 0, .bool false, .bool false, .bool false, .int .u8 0, .int .i64 0, .int .i64 0] 37)) (w.heap.size + 1 + 1) 37 #[.int .i64 0, .int .i64 0, .int .i64 0, .int .i64 0, .int .i64 0, .int .i64 0, .int .i64 0, .bool false, .bool false, .bool false, .int .u8 0, .int .i64 0, .int .i64 0] := blk2 w _ _
  have hb0 : Below w.heap.size w (((w.alloc (.cells #[.int .i64 a, .int .i64 b, .int .i64 c, .int .i64 bo, .int .i64 fr, .int .i64 tr, .int .i64 ag, .slice X ks.length cp] 26)).alloc (.cells #[.int .i64 job, .int .i64 x1, .int .i64 x2, .int .i64 x3, .int .i64 x4, .int .i64 x5, .int .i64 x6, .bool t1, .bool t2, .bool t3, .int .u8 ph, .int .i64 tt, .int .i64 si] 37)).alloc (.cells #[.int .i64 0, .int .i64 0, .int .i64 0, .int .i64 0, .int .i64 0, .int .i64 0, .int .i64 0, .bool false, .bool false, .bool false, .int .u8 0, .int .i64 0, .int .i64 0] 37)) := below_alloc (below_alloc (below_alloc (Below.refl _ _)))
  generalize hW0 : (((w.alloc (.cells #[.int .i64 a, .int .i64 b, .int .i64 c, .int .i64 bo, .int .i64 fr, .int .i64 tr, .int .i64 ag, .slice X ks.length cp] 26)).alloc (.cells #[.int .i64 job, .int .i64 x1, .int .i64 x2, .int .i64 x3, .int .i64 x4, .int .i64 x5, .int .i64 x6, .bool t1, .bool t2, .bool t3, .int .u8 ph, .int .i64 tt, .int .i64 si] 37)).alloc (.cells #[.int .i64 0, .int .i64 0, .int .i64 0, .int .i64 0, .int .i64 0, .int .i64 0, .int .i64 0, .bool false, .bool false, .bool false, .int .u8 0, .int .i64 0, .int .i64 0] 37)) = W0 at *
  clear hW0
  have d0 : W0.cell? ⟨w.heap.size, 0, none⟩ = some (.int .i64 a) := kd.cell 0
  have d1 : W0.cell? ⟨w.heap.size, 1, none⟩ = some (.int .i64 b) := kd.cell 1
  have d2 : W0.cell? ⟨w.heap.size, 2, none⟩ = some (.int .i64 c) := kd.cell 2
  have d3 : W0.cell? ⟨w.heap.size, 3, none⟩ = some (.int .i64 bo) := kd.cell 3
  have d4 : W0.cell? ⟨w.heap.size, 4, none⟩ = some (.int .i64 fr) := kd.cell 4
  have d5 : W0.cell? ⟨w.heap.size, 5, none⟩ = some (.int .i64 tr) := kd.cell 5
  have d6 : W0.cell? ⟨w.heap.size, 6, none⟩ = some (.int .i64 ag) := kd.cell 6
  have d7 : W0.cell? ⟨w.heap.size, 7, none⟩ = some (.slice X ks.length cp) := kd.cell 7
  have p0 : W0.cell? ⟨w.heap.size + 1, 0, none⟩ = some (.int .i64 job) := kp.cell 0
  have p1 : W0.cell? ⟨w.heap.size + 1, 1, none⟩ = some (.int .i64 x1) := kp.cell 1
  have p2 : W0.cell? ⟨w.heap.size + 1, 2, none⟩ = some (.int .i64 x2) := kp.cell 2
  have p3 : W0.cell? ⟨w.heap.size + 1, 3, none⟩ = some (.int .i64 x3) := kp.cell 3
  have p4 : W0.cell? ⟨w.heap.size + 1, 4, none⟩ = some (.int .i64 x4) := kp.cell 4
  have p5 : W0.cell? ⟨w.heap.size + 1, 5, none⟩ = some (.int .i64 x5) := kp.cell 5
  have p6 : W0.cell? ⟨w.heap.size + 1, 6, none⟩ = some (.int .i64 x6) := kp.cell 6
  have p7 : W0.cell? ⟨w.heap.size + 1, 7, none⟩ = some (.bool t1) := kp.cell 7
  have p8 : W0.cell? ⟨w.heap.size + 1, 8, none⟩ = some (.bool t2) := kp.cell 8
  have p9 : W0.cell? ⟨w.heap.size + 1, 9, none⟩ = some (.bool t3) := kp.cell 9
  have p10 : W0.cell? ⟨w.heap.size + 1, 10, none⟩ = some (.int .u8 ph) := kp.cell 10
  have p11 : W0.cell? ⟨w.heap.size + 1, 11, none⟩ = some (.int .i64 tt) := kp.cell 11
  have p12 : W0.cell? ⟨w.heap.size + 1, 12, none⟩ = some (.int .i64 si) := kp.cell 12
  have m0 : W0.cell? ⟨w.heap.size + 1 + 1, 0, none⟩ = some (.int .i64 0) := kr.cell 0
  have n0 : W0.frozen? ⟨w.heap.size + 1 + 1, 0, none⟩ = false := kr.frozen 0
  have m1 : W0.cell? ⟨w.heap.size + 1 + 1, 1, none⟩ = some (.int .i64 0) := kr.cell 1
  have n1 : W0.frozen? ⟨w.heap.size + 1 + 1, 1, none⟩ = false := kr.frozen 1
  have m2 : W0.cell? ⟨w.heap.size + 1 + 1, 2, none⟩ = some (.int .i64 0) := kr.cell 2
  have n2 : W0.frozen? ⟨w.heap.size + 1 + 1, 2, none⟩ = false := kr.frozen 2
  have m3 : W0.cell? ⟨w.heap.size + 1 + 1, 3, none⟩ = some (.int .i64 0) := kr.cell 3
  have n3 : W0.frozen? ⟨w.heap.size + 1 + 1, 3, none⟩ = false := kr.frozen 3
  have m4 : W0.cell? ⟨w.heap.size + 1 + 1, 4, none⟩ = some (.int .i64 0) := kr.cell 4
  have n4 : W0.frozen? ⟨w.heap.size + 1 + 1, 4, none⟩ = false := kr.frozen 4
  have m5 : W0.cell? ⟨w.heap.size + 1 + 1, 5, none⟩ = some (.int .i64 0) := kr.cell 5
  have n5 : W0.frozen? ⟨w.heap.size + 1 + 1, 5, none⟩ = false := kr.frozen 5
  have m6 : W0.cell? ⟨w.heap.size + 1 + 1, 6, none⟩ = some (.int .i64 0) := kr.cell 6
  have n6 : W0.frozen? ⟨w.heap.size + 1 + 1, 6, none⟩ = false := kr.frozen 6
  have m7 : W0.cell? ⟨w.heap.size + 1 + 1, 7, none⟩ = some (.bool false) := kr.cell 7
  have n7 : W0.frozen? ⟨w.heap.size + 1 + 1, 7, none⟩ = false := kr.frozen 7
  have m8 : W0.cell? ⟨w.heap.size + 1 + 1, 8, none⟩ = some (.bool false) := kr.cell 8
  have n8 : W0.frozen? ⟨w.heap.size + 1 + 1, 8, none⟩ = false := kr.frozen 8
  have m9 : W0.cell? ⟨w.heap.size + 1 + 1, 9, none⟩ = some (.bool false) := kr.cell 9
  have n9 : W0.frozen? ⟨w.heap.size + 1 + 1, 9, none⟩ = false := kr.frozen 9
  have m10 : W0.cell? ⟨w.heap.size + 1 + 1, 10, none⟩ = some (.int .u8 0) := kr.cell 10
  have n10 : W0.frozen? ⟨w.heap.size + 1 + 1, 10, none⟩ = false := kr.frozen 10
  have m11 : W0.cell? ⟨w.heap.size + 1 + 1, 11, none⟩ = some (.int .i64 0) := kr.cell 11
  have n11 : W0.frozen? ⟨w.heap.size + 1 + 1, 11, none⟩ = false := kr.frozen 11
  have m12 : W0.cell? ⟨w.heap.size + 1 + 1, 12, none⟩ = some (.int .i64 0) := kr.cell 12
  have n12 : W0.frozen? ⟨w.heap.size + 1 + 1, 12, none⟩ = false := kr.frozen 12
  have KK := Lib.hid (And.intro kd (And.intro kp kr))
  have HB0 := Lib.hid hb0
  clear kd kp kr hb0
  go_wp2_with fail
  refine (rmay_ok a b c bo fr tr ag X cp ks hl Hh.out _ (HKK.out.up HB0.out)).mono ?_
  rintro e w1 ⟨rfl, hB1⟩
  have HB1 := Lib.hid (below_up HB0.out hB1)
  have kd := KK.out.1.below hB1 (cell_lt d0)
  have kp := KK.out.2.1.below hB1 (cell_lt p0)
  have kr := KK.out.2.2.below hB1 (cell_lt m0)
  have KK1 := Lib.hid (And.intro kd (And.intro kp kr))
  clear hB1 d0 d1 d2 d3 d4 d5 d6 d7 p0 p1 p2 p3 p4 p5 p6 p7 p8 p9 p10 p11 p12 m0 n0 m1 n1 m2 n2 m3 n3 m4 n4 m5 n5 m6 n6 m7 n7 m8 n8 m9 n9 m10 n10 m11 n11 m12 n12
  have d0 : w1.cell? ⟨w.heap.size, 0, none⟩ = some (.int .i64 a) := kd.cell 0
  have d1 : w1.cell? ⟨w.heap.size, 1, none⟩ = some (.int .i64 b) := kd.cell 1
  have d2 : w1.cell? ⟨w.heap.size, 2, none⟩ = some (.int .i64 c) := kd.cell 2
  have d3 : w1.cell? ⟨w.heap.size, 3, none⟩ = some (.int .i64 bo) := kd.cell 3
  have d4 : w1.cell? ⟨w.heap.size, 4, none⟩ = some (.int .i64 fr) := kd.cell 4
  have d5 : w1.cell? ⟨w.heap.size, 5, none⟩ = some (.int .i64 tr) := kd.cell 5
  have d6 : w1.cell? ⟨w.heap.size, 6, none⟩ = some (.int .i64 ag) := kd.cell 6
  have d7 : w1.cell? ⟨w.heap.size, 7, none⟩ = some (.slice X ks.length cp) := kd.cell 7
  have p0 : w1.cell? ⟨w.heap.size + 1, 0, none⟩ = some (.int .i64 job) := kp.cell 0
  have p1 : w1.cell? ⟨w.heap.size + 1, 1, none⟩ = some (.int .i64 x1) := kp.cell 1
  have p2 : w1.cell? ⟨w.heap.size + 1, 2, none⟩ = some (.int .i64 x2) := kp.cell 2
  have p3 : w1.cell? ⟨w.heap.size + 1, 3, none⟩ = some (.int .i64 x3) := kp.cell 3
  have p4 : w1.cell? ⟨w.heap.size + 1, 4, none⟩ = some (.int .i64 x4) := kp.cell 4
  have p5 : w1.cell? ⟨w.heap.size + 1, 5, none⟩ = some (.int .i64 x5) := kp.cell 5
  have p6 : w1.cell? ⟨w.heap.size + 1, 6, none⟩ = some (.int .i64 x6) := kp.cell 6
  have p7 : w1.cell? ⟨w.heap.size + 1, 7, none⟩ = some (.bool t1) := kp.cell 7
  have p8 : w1.cell? ⟨w.heap.size + 1, 8, none⟩ = some (.bool t2) := kp.cell 8
  have p9 : w1.cell? ⟨w.heap.size + 1, 9, none⟩ = some (.bool t3) := kp.cell 9
  have p10 : w1.cell? ⟨w.heap.size + 1, 10, none⟩ = some (.int .u8 ph) := kp.cell 10
  have p11 : w1.cell? ⟨w.heap.size + 1, 11, none⟩ = some (.int .i64 tt) := kp.cell 11
  have p12 : w1.cell? ⟨w.heap.size + 1, 12, none⟩ = some (.int .i64 si) := kp.cell 12
  have m0 : w1.cell? ⟨w.heap.size + 1 + 1, 0, none⟩ = some (.int .i64 0) := kr.cell 0
  have n0 : w1.frozen? ⟨w.heap.size + 1 + 1, 0, none⟩ = false := kr.frozen 0
  have m1 : w1.cell? ⟨w.heap.size + 1 + 1, 1, none⟩ = some (.int .i64 0) := kr.cell 1
  have n1 : w1.frozen? ⟨w.heap.size + 1 + 1, 1, none⟩ = false := kr.frozen 1
  have m2 : w1.cell? ⟨w.heap.size + 1 + 1, 2, none⟩ = some (.int .i64 0) := kr.cell 2
  have n2 : w1.frozen? ⟨w.heap.size + 1 + 1, 2, none⟩ = false := kr.frozen 2
  have m3 : w1.cell? ⟨w.heap.size + 1 + 1, 3, none⟩ = some (.int .i64 0) := kr.cell 3
  have n3 : w1.frozen? ⟨w.heap.size + 1 + 1, 3, none⟩ = false := kr.frozen 3
  have m4 : w1.cell? ⟨w.heap.size + 1 + 1, 4, none⟩ = some (.int .i64 0) := kr.cell 4
  have n4 : w1.frozen? ⟨w.heap.size + 1 + 1, 4, none⟩ = false := kr.frozen 4
  have m5 : w1.cell? ⟨w.heap.size + 1 + 1, 5, none⟩ = some (.int .i64 0) := kr.cell 5
  have n5 : w1.frozen? ⟨w.heap.size + 1 + 1, 5, none⟩ = false := kr.frozen 5
  have m6 : w1.cell? ⟨w.heap.size + 1 + 1, 6, none⟩ = some (.int .i64 0) := kr.cell 6
  have n6 : w1.frozen? ⟨w.heap.size + 1 + 1, 6, none⟩ = false := kr.frozen 6
  have m7 : w1.cell? ⟨w.heap.size + 1 + 1, 7, none⟩ = some (.bool false) := kr.cell 7
  have n7 : w1.frozen? ⟨w.heap.size + 1 + 1, 7, none⟩ = false := kr.frozen 7
  have m8 : w1.cell? ⟨w.heap.size + 1 + 1, 8, none⟩ = some (.bool false) := kr.cell 8
  have n8 : w1.frozen? ⟨w.heap.size + 1 + 1, 8, none⟩ = false := kr.frozen 8
  have m9 : w1.cell? ⟨w.heap.size + 1 + 1, 9, none⟩ = some (.bool false) := kr.cell 9
  have n9 : w1.frozen? ⟨w.heap.size + 1 + 1, 9, none⟩ = false := kr.frozen 9
  have m10 : w1.cell? ⟨w.heap.size + 1 + 1, 10, none⟩ = some (.int .u8 0) := kr.cell 10
  have n10 : w1.frozen? ⟨w.heap.size + 1 + 1, 10, none⟩ = false := kr.frozen 10
  have m11 : w1.cell? ⟨w.heap.size + 1 + 1, 11, none⟩ = some (.int .i64 0) := kr.cell 11
  have n11 : w1.frozen? ⟨w.heap.size + 1 + 1, 11, none⟩ = false := kr.frozen 11
  have m12 : w1.cell? ⟨w.heap.size + 1 + 1, 12, none⟩ = some (.int .i64 0) := kr.cell 12
  have n12 : w1.frozen? ⟨w.heap.size + 1 + 1, 12, none⟩ = false := kr.frozen 12
  have hz1 : w.heap.size + 1 + 1 < w1.heap.size := kr.lt
  clear kd kp kr
  go_wp2_with fail
  refine (rp_ok a b c bo fr tr ag X cp ks job x1 x2 x3 x4 x5 x6 t1 t2 t3 ph tt si Hhp.out _).mono ?_
  rintro e w2 ⟨rfl, hB2⟩
  have HB2 := Lib.hid (below_up HB1.out hB2)
  have kd := KK1.out.1.below hB2 (cell_lt d0)
  have kp := KK1.out.2.1.below hB2 (cell_lt p0)
  have kr := KK1.out.2.2.below hB2 (cell_lt m0)
  have KK2 := Lib.hid (And.intro kd (And.intro kp kr))
  clear hB2 d0 d1 d2 d3 d4 d5 d6 d7 p0 p1 p2 p3 p4 p5 p6 p7 p8 p9 p10 p11 p12 m0 n0 m1 n1 m2 n2 m3 n3 m4 n4 m5 n5 m6 n6 m7 n7 m8 n8 m9 n9 m10 n10 m11 n11 m12 n12
  have d0 : w2.cell? ⟨w.heap.size, 0, none⟩ = some (.int .i64 a) := kd.cell 0
  have d1 : w2.cell? ⟨w.heap.size, 1, none⟩ = some (.int .i64 b) := kd.cell 1
  have d2 : w2.cell? ⟨w.heap.size, 2, none⟩ = some (.int .i64 c) := kd.cell 2
  have d3 : w2.cell? ⟨w.heap.size, 3, none⟩ = some (.int .i64 bo) := kd.cell 3
  have d4 : w2.cell? ⟨w.heap.size, 4, none⟩ = some (.int .i64 fr) := kd.cell 4
  have d5 : w2.cell? ⟨w.heap.size, 5, none⟩ = some (.int .i64 tr) := kd.cell 5
  have d6 : w2.cell? ⟨w.heap.size, 6, none⟩ = some (.int .i64 ag) := kd.cell 6
  have d7 : w2.cell? ⟨w.heap.size, 7, none⟩ = some (.slice X ks.length cp) := kd.cell 7
  have p0 : w2.cell? ⟨w.heap.size + 1, 0, none⟩ = some (.int .i64 job) := kp.cell 0
  have p1 : w2.cell? ⟨w.heap.size + 1, 1, none⟩ = some (.int .i64 x1) := kp.cell 1
  have p2 : w2.cell? ⟨w.heap.size + 1, 2, none⟩ = some (.int .i64 x2) := kp.cell 2
  have p3 : w2.cell? ⟨w.heap.size + 1, 3, none⟩ = some (.int .i64 x3) := kp.cell 3
  have p4 : w2.cell? ⟨w.heap.size + 1, 4, none⟩ = some (.int .i64 x4) := kp.cell 4
  have p5 : w2.cell? ⟨w.heap.size + 1, 5, none⟩ = some (.int .i64 x5) := kp.cell 5
  have p6 : w2.cell? ⟨w.heap.size + 1, 6, none⟩ = some (.int .i64 x6) := kp.cell 6
  have p7 : w2.cell? ⟨w.heap.size + 1, 7, none⟩ = some (.bool t1) := kp.cell 7
  have p8 : w2.cell? ⟨w.heap.size + 1, 8, none⟩ = some (.bool t2) := kp.cell 8
  have p9 : w2.cell? ⟨w.heap.size + 1, 9, none⟩ = some (.bool t3) := kp.cell 9
  have p10 : w2.cell? ⟨w.heap.size + 1, 10, none⟩ = some (.int .u8 ph) := kp.cell 10
  have p11 : w2.cell? ⟨w.heap.size + 1, 11, none⟩ = some (.int .i64 tt) := kp.cell 11
  have p12 : w2.cell? ⟨w.heap.size + 1, 12, none⟩ = some (.int .i64 si) := kp.cell 12
  have m0 : w2.cell? ⟨w.heap.size + 1 + 1, 0, none⟩ = some (.int .i64 0) := kr.cell 0
  have n0 : w2.frozen? ⟨w.heap.size + 1 + 1, 0, none⟩ = false := kr.frozen 0
  have m1 : w2.cell? ⟨w.heap.size + 1 + 1, 1, none⟩ = some (.int .i64 0) := kr.cell 1
  have n1 : w2.frozen? ⟨w.heap.size + 1 + 1, 1, none⟩ = false := kr.frozen 1
  have m2 : w2.cell? ⟨w.heap.size + 1 + 1, 2, none⟩ = some (.int .i64 0) := kr.cell 2
  have n2 : w2.frozen? ⟨w.heap.size + 1 + 1, 2, none⟩ = false := kr.frozen 2
  have m3 : w2.cell? ⟨w.heap.size + 1 + 1, 3, none⟩ = some (.int .i64 0) := kr.cell 3
  have n3 : w2.frozen? ⟨w.heap.size + 1 + 1, 3, none⟩ = false := kr.frozen 3
  have m4 : w2.cell? ⟨w.heap.size + 1 + 1, 4, none⟩ = some (.int .i64 0) := kr.cell 4
  have n4 : w2.frozen? ⟨w.heap.size + 1 + 1, 4, none⟩ = false := kr.frozen 4
  have m5 : w2.cell? ⟨w.heap.size + 1 + 1, 5, none⟩ = some (.int .i64 0) := kr.cell 5
  have n5 : w2.frozen? ⟨w.heap.size + 1 + 1, 5, none⟩ = false := kr.frozen 5
  have m6 : w2.cell? ⟨w.heap.size + 1 + 1, 6, none⟩ = some (.int .i64 0) := kr.cell 6
  have n6 : w2.frozen? ⟨w.heap.size + 1 + 1, 6, none⟩ = false := kr.frozen 6
  have m7 : w2.cell? ⟨w.heap.size + 1 + 1, 7, none⟩ = some (.bool false) := kr.cell 7
  have n7 : w2.frozen? ⟨w.heap.size + 1 + 1, 7, none⟩ = false := kr.frozen 7
  have m8 : w2.cell? ⟨w.heap.size + 1 + 1, 8, none⟩ = some (.bool false) := kr.cell 8
  have n8 : w2.frozen? ⟨w.heap.size + 1 + 1, 8, none⟩ = false := kr.frozen 8
  have m9 : w2.cell? ⟨w.heap.size + 1 + 1, 9, none⟩ = some (.bool false) := kr.cell 9
  have n9 : w2.frozen? ⟨w.heap.size + 1 + 1, 9, none⟩ = false := kr.frozen 9
  have m10 : w2.cell? ⟨w.heap.size + 1 + 1, 10, none⟩ = some (.int .u8 0) := kr.cell 10
  have n10 : w2.frozen? ⟨w.heap.size + 1 + 1, 10, none⟩ = false := kr.frozen 10
  have m11 : w2.cell? ⟨w.heap.size + 1 + 1, 11, none⟩ = some (.int .i64 0) := kr.cell 11
  have n11 : w2.frozen? ⟨w.heap.size + 1 + 1, 11, none⟩ = false := kr.frozen 11
  have m12 : w2.cell? ⟨w.heap.size + 1 + 1, 12, none⟩ = some (.int .i64 0) := kr.cell 12
  have n12 : w2.frozen? ⟨w.heap.size + 1 + 1, 12, none⟩ = false := kr.frozen 12
  have hz2 : w.heap.size + 1 + 1 < w2.heap.size := kr.lt
  clear kd kp kr
  go_wp2_with fail
  have hs13 := store13 (w := w) (g := w.heap.size + 1 + 1) HB2.out (by omega) KK2.out.2.2 (.int .i64 0) (.int .i64 0) (.int .i64 0) (.int .i64 0) (.int .i64 0) (.int .i64 0) (.int .i64 0) (.bool false) (.bool false) (.bool false) (.int .u8 0) (.int .i64 0) (.int .i64 0)
  refine bodyPost_ret (v := .tuple #[.agg #[.int .i64 0, .int .i64 0, .int .i64 0, .int .i64 0, .int .i64 0, .int .i64 0, .int .i64 0, .bool false, .bool false, .bool false, .int .u8 0, .int .i64 0, .int .i64 0], .int .u8 0, .bool false, .int .i64 2]) ?_ rfl ?_
  · exact res_rnext _ _ (w.heap.size + 1 + 1) (.int .i64 0) (.int .i64 0) (.int .i64 0) (.int .i64 0) (.int .i64 0) (.int .i64 0) (.int .i64 0) (.bool false) (.bool false) (.bool false) (.int .u8 0) (.int .i64 0) (.int .i64 0) (.int .u8 0) (.bool false) (.int .i64 2) rfl rfl rfl rfl hs13.2
  · exact ⟨rfl, hs13.1⟩
set_option maxRecDepth 100000 in
set_option maxHeartbeats 8000000 in
theorem rn_hi (a b c bo fr tr ag : Int) (X : Option Addr) (cp : Nat) (ks : List Cls) (hl : ks.length ≤ 9223372036854775807) (job x1 x2 x3 x4 x5 x6 : Int) (t1 t2 t3 : Bool) (ph tt si : Int) (turn now : Int) (h : CfgOk a b c bo fr tr ag ks) (hp : PartOk job ph tt si tr) (h0 : 1 ≤ turn) (h1 : 8 < turn) (w : World) (hk : ClsAt w w.heap.size X ks) :
    Calls Try.prog 18 #[.agg #[.int .i64 a, .int .i64 b, .int .i64 c, .int .i64 bo, .int .i64 fr, .int .i64 tr, .int .i64 ag, .slice X ks.length cp], .agg #[.int .i64 job, .int .i64 x1, .int .i64 x2, .int .i64 x3, .int .i64 x4, .int .i64 x5, .int .i64 x6, .bool t1, .bool t2, .bool t3, .int .u8 ph, .int .i64 tt, .int .i64 si], .int .u8 turn, .int .i64 now] w (fun e w' => e = .returned (.tuple #[.agg #[.int .i64 0, .int .i64 0, .int .i64 0, .int .i64 0, .int .i64 0, .int .i64 0, .int .i64 0, .bool false, .bool false, .bool false, .int .u8 0, .int .i64 0, .int .i64 0], .int .u8 0, .bool false, .int .i64 2]) ∧ Below w.heap.size w w') := by
  have HKK := Lib.hid hk
  clear hk
  have Hh := Lib.hid h
  clear h
  have Hhp := Lib.hid hp
  clear hp
  go_enter Try.func18, Try.ntmps18
  go_upto_region 1 with fail
  have kd : Blk (((w.alloc (.cells #[.int .i64 a, .int .i64 b, .int .i64 c, .int .i64 bo, .int .i64 fr, .int .i64 tr, .int .i64 ag, .slice X ks.length cp] 26)).alloc (.cells #[.int .i64 job, .int .i64 x1, .int .i64 x2, .int .i64 x3, .int .i64 x4, .int .i64 x5, .int .i64 x6, .bool t1, .bool t2, .bool t3, .int .u8 ph, .int .i64 tt, .int .i64 si] 37)).alloc (.cells #[.int .i64 0, .int .i64 0, .int .i64 0, .int .i64 0, .int .i64 0, .int .i64 0, .int .i64 0, .bool false, .bool false, .bool false, .int .u8 0, .int .i64 0, .int .i64 0] 37)) (w.heap.size) 26 #[.int .i64 a, .int .i64 b, .int .i64 c, .int .i64 bo, .int .i64 fr, .int .i64 tr, .int .i64 ag, .slice X ks.length cp] := ((Blk.new w _ _).alloc _).alloc _
  have kp : Blk (((w.alloc (.cells #[.int .i64 a, .int .i64 b, .int .i64 c, .int .i64 bo, .int .i64 fr, .int .i64 tr, .int .i64 ag, .slice X ks.length cp] 26)).alloc (.cells #[.int .i64 job, .int .i64 x1, .int .i64 x2, .int .i64 x3, .int .i64 x4, .int .i64 x5, .int .i64 x6, .bool t1, .bool t2, .bool t3, .int .u8 ph, .int .i64 tt, .int .i64 si] 37)).alloc (.cells #[.int .i64 0, .int .i64 0, .int .i64 0, .int .i64 0, .int .i64 0, .int .i64 0, .int .i64 0, .bool false, .bool false, .bool false, .int .u8 0, .int .i64 0, .int .i64 0] 37)) (w.heap.size + 1) 37 #[.int .i64 job, .int .i64 x1, .int .i64 x2, .int .i64 x3, .int .i64 x4, .int .i64 x5, .int .i64 x6, .bool t1, .bool t2, .bool t3, .int .u8 ph, .int .i64 tt, .int .i64 si] := (blk1 w _ _).alloc _
  have kr : Blk (((w.alloc (.cells #[.int .i64 a, .int .i64 b, .int .i64 c, .int .i64 bo, .int .i64 fr, .int .i64 tr, .int .i64 ag, .slice X ks.length cp] 26)).alloc (.cells #[.int .i64 job, .int .i64 x1, .int .i64 x2, .int .i64 x3, .int .i64 x4, .int .i64 x5, .int .i64 x6, .bool t1, .bool t2, .bool t3, .int .u8 ph, .int .i64 tt, .int .i64 si] 37)).alloc (.cells #[.int .i64 0, .int .i64 0, .int .i64 0, .int .i64 0, .int .i64 0, .int .i64 0, .int .i64 0, .bool false, .bool false, .bool false, .int .u8 0, .int .i64 0, .int .i64 0] 37)) (w.heap.size + 1 + 1) 37 #[.int .i64 0, .int .i64 0, .int .i64 0, .int .i64 0, .int .i64 0, .int .i64 0, .int .i64 0, .bool false, .bool false, .bool false, .int .u8 0, .int .i64 0, .int .i64 0] := blk2 w _ _
  have hb0 : Below w.heap.size w (((w.alloc (.cells #[.int .i64 a, .int .i64 b, .int .i64 c, .int .i64 bo, .int .i64 fr, .int .i64 tr, .int .i64 ag, .slice X ks.length cp] 26)).alloc (.cells #[.int .i64 job, .int .i64 x1, .int .i64 x2, .int .i64 x3, .int .i64 x4, .int .i64 x5, .int .i64 x6, .bool t1, .bool t2, .bool t3, .int .u8 ph, .int .i64 tt, .int .i64 si] 37)).alloc (.cells #[.int .i64 0, .int .i64 0, .int .i64 0, .int .i64 0, .int .i64 0, .int .i64 0, .int .i64 0, .bool false, .bool false, .bool false, .int .u8 0, .int .i64 0, .int .i64 0] 37)) := below_alloc (below_alloc (below_alloc (Below.refl _ _)))
  generalize hW0 : (((w.alloc (.cells #[.int .i64 a, .int .i64 b, .int .i64 c, .int .i64 bo, .int .i64 fr, .int .i64 tr, .int .i64 ag, .slice X ks.length cp] 26)).alloc (.cells #[.int .i64 job, .int .i64 x1, .int .i64 x2, .int .i64 x3, .int .i64 x4, .int .i64 x5, .int .i64 x6, .bool t1, .bool t2, .bool t3, .int .u8 ph, .int .i64 tt, .int .i64 si] 37)).alloc (.cells #[.int .i64 0, .int .i64 0, .int .i64 0, .int .i64 0, .int .i64 0, .int .i64 0, .int .i64 0, .bool false, .bool false, .bool false, .int .u8 0, .int .i64 0, .int .i64 0] 37)) = W0 at *
  clear hW0
  have d0 : W0.cell? ⟨w.heap.size, 0, none⟩ = some (.int .i64 a) := kd.cell 0
  have d1 : W0.cell? ⟨w.heap.size, 1, none⟩ = some (.int .i64 b) := kd.cell 1
  have d2 : W0.cell? ⟨w.heap.size, 2, none⟩ = some (.int .i64 c) := kd.cell 2
  have d3 : W0.cell? ⟨w.heap.size, 3, none⟩ = some (.int .i64 bo) := kd.cell 3
  have d4 : W0.cell? ⟨w.heap.size, 4, none⟩ = some (.int .i64 fr) := kd.cell 4
  have d5 : W0.cell? ⟨w.heap.size, 5, none⟩ = some (.int .i64 tr) := kd.cell 5
  have d6 : W0.cell? ⟨w.heap.size, 6, none⟩ = some (.int .i64 ag) := kd.cell 6
  have d7 : W0.cell? ⟨w.heap.size, 7, none⟩ = some (.slice X ks.length cp) := kd.cell 7
  have p0 : W0.cell? ⟨w.heap.size + 1, 0, none⟩ = some (.int .i64 job) := kp.cell 0
  have p1 : W0.cell? ⟨w.heap.size + 1, 1, none⟩ = some (.int .i64 x1) := kp.cell 1
  have p2 : W0.cell? ⟨w.heap.size + 1, 2, none⟩ = some (.int .i64 x2) := kp.cell 2
  have p3 : W0.cell? ⟨w.heap.size + 1, 3, none⟩ = some (.int .i64 x3) := kp.cell 3
  have p4 : W0.cell? ⟨w.heap.size + 1, 4, none⟩ = some (.int .i64 x4) := kp.cell 4
  have p5 : W0.cell? ⟨w.heap.size + 1, 5, none⟩ = some (.int .i64 x5) := kp.cell 5
  have p6 : W0.cell? ⟨w.heap.size + 1, 6, none⟩ = some (.int .i64 x6) := kp.cell 6
  have p7 : W0.cell? ⟨w.heap.size + 1, 7, none⟩ = some (.bool t1) := kp.cell 7
  have p8 : W0.cell? ⟨w.heap.size + 1, 8, none⟩ = some (.bool t2) := kp.cell 8
  have p9 : W0.cell? ⟨w.heap.size + 1, 9, none⟩ = some (.bool t3) := kp.cell 9
  have p10 : W0.cell? ⟨w.heap.size + 1, 10, none⟩ = some (.int .u8 ph) := kp.cell 10
  have p11 : W0.cell? ⟨w.heap.size + 1, 11, none⟩ = some (.int .i64 tt) := kp.cell 11
  have p12 : W0.cell? ⟨w.heap.size + 1, 12, none⟩ = some (.int .i64 si) := kp.cell 12
  have m0 : W0.cell? ⟨w.heap.size + 1 + 1, 0, none⟩ = some (.int .i64 0) := kr.cell 0
  have n0 : W0.frozen? ⟨w.heap.size + 1 + 1, 0, none⟩ = false := kr.frozen 0
  have m1 : W0.cell? ⟨w.heap.size + 1 + 1, 1, none⟩ = some (.int .i64 0) := kr.cell 1
  have n1 : W0.frozen? ⟨w.heap.size + 1 + 1, 1, none⟩ = false := kr.frozen 1
  have m2 : W0.cell? ⟨w.heap.size + 1 + 1, 2, none⟩ = some (.int .i64 0) := kr.cell 2
  have n2 : W0.frozen? ⟨w.heap.size + 1 + 1, 2, none⟩ = false := kr.frozen 2
  have m3 : W0.cell? ⟨w.heap.size + 1 + 1, 3, none⟩ = some (.int .i64 0) := kr.cell 3
  have n3 : W0.frozen? ⟨w.heap.size + 1 + 1, 3, none⟩ = false := kr.frozen 3
  have m4 : W0.cell? ⟨w.heap.size + 1 + 1, 4, none⟩ = some (.int .i64 0) := kr.cell 4
  have n4 : W0.frozen? ⟨w.heap.size + 1 + 1, 4, none⟩ = false := kr.frozen 4
  have m5 : W0.cell? ⟨w.heap.size + 1 + 1, 5, none⟩ = some (.int .i64 0) := kr.cell 5
  have n5 : W0.frozen? ⟨w.heap.size + 1 + 1, 5, none⟩ = false := kr.frozen 5
  have m6 : W0.cell? ⟨w.heap.size + 1 + 1, 6, none⟩ = some (.int .i64 0) := kr.cell 6
  have n6 : W0.frozen? ⟨w.heap.size + 1 + 1, 6, none⟩ = false := kr.frozen 6
  have m7 : W0.cell? ⟨w.heap.size + 1 + 1, 7, none⟩ = some (.bool false) := kr.cell 7
  have n7 : W0.frozen? ⟨w.heap.size + 1 + 1, 7, none⟩ = false := kr.frozen 7
  have m8 : W0.cell? ⟨w.heap.size + 1 + 1, 8, none⟩ = some (.bool false) := kr.cell 8
  have n8 : W0.frozen? ⟨w.heap.size + 1 + 1, 8, none⟩ = false := kr.frozen 8
  have m9 : W0.cell? ⟨w.heap.size + 1 + 1, 9, none⟩ = some (.bool false) := kr.cell 9
  have n9 : W0.frozen? ⟨w.heap.size + 1 + 1, 9, none⟩ = false := kr.frozen 9
  have m10 : W0.cell? ⟨w.heap.size + 1 + 1, 10, none⟩ = some (.int .u8 0) := kr.cell 10
  have n10 : W0.frozen? ⟨w.heap.size + 1 + 1, 10, none⟩ = false := kr.frozen 10
  have m11 : W0.cell? ⟨w.heap.size + 1 + 1, 11, none⟩ = some (.int .i64 0) := kr.cell 11
  have n11 : W0.frozen? ⟨w.heap.size + 1 + 1, 11, none⟩ = false := kr.frozen 11
  have m12 : W0.cell? ⟨w.heap.size + 1 + 1, 12, none⟩ = some (.int .i64 0) := kr.cell 12
  have n12 : W0.frozen? ⟨w.heap.size + 1 + 1, 12, none⟩ = false := kr.frozen 12
  have KK := Lib.hid (And.intro kd (And.intro kp kr))
  have HB0 := Lib.hid hb0
  clear kd kp kr hb0
  go_wp2_with fail
  refine (rmay_ok a b c bo fr tr ag X cp ks hl Hh.out _ (HKK.out.up HB0.out)).mono ?_
  rintro e w1 ⟨rfl, hB1⟩
  have HB1 := Lib.hid (below_up HB0.out hB1)
  have kd := KK.out.1.below hB1 (cell_lt d0)
  have kp := KK.out.2.1.below hB1 (cell_lt p0)
  have kr := KK.out.2.2.below hB1 (cell_lt m0)
  have KK1 := Lib.hid (And.intro kd (And.intro kp kr))
  clear hB1 d0 d1 d2 d3 d4 d5 d6 d7 p0 p1 p2 p3 p4 p5 p6 p7 p8 p9 p10 p11 p12 m0 n0 m1 n1 m2 n2 m3 n3 m4 n4 m5 n5 m6 n6 m7 n7 m8 n8 m9 n9 m10 n10 m11 n11 m12 n12
  have d0 : w1.cell? ⟨w.heap.size, 0, none⟩ = some (.int .i64 a) := kd.cell 0
  have d1 : w1.cell? ⟨w.heap.size, 1, none⟩ = some (.int .i64 b) := kd.cell 1
  have d2 : w1.cell? ⟨w.heap.size, 2, none⟩ = some (.int .i64 c) := kd.cell 2
  have d3 : w1.cell? ⟨w.heap.size, 3, none⟩ = some (.int .i64 bo) := kd.cell 3
  have d4 : w1.cell? ⟨w.heap.size, 4, none⟩ = some (.int .i64 fr) := kd.cell 4
  have d5 : w1.cell? ⟨w.heap.size, 5, none⟩ = some (.int .i64 tr) := kd.cell 5
  have d6 : w1.cell? ⟨w.heap.size, 6, none⟩ = some (.int .i64 ag) := kd.cell 6
  have d7 : w1.cell? ⟨w.heap.size, 7, none⟩ = some (.slice X ks.length cp) := kd.cell 7
  have p0 : w1.cell? ⟨w.heap.size + 1, 0, none⟩ = some (.int .i64 job) := kp.cell 0
  have p1 : w1.cell? ⟨w.heap.size + 1, 1, none⟩ = some (.int .i64 x1) := kp.cell 1
  have p2 : w1.cell? ⟨w.heap.size + 1, 2, none⟩ = some (.int .i64 x2) := kp.cell 2
  have p3 : w1.cell? ⟨w.heap.size + 1, 3, none⟩ = some (.int .i64 x3) := kp.cell 3
  have p4 : w1.cell? ⟨w.heap.size + 1, 4, none⟩ = some (.int .i64 x4) := kp.cell 4
  have p5 : w1.cell? ⟨w.heap.size + 1, 5, none⟩ = some (.int .i64 x5) := kp.cell 5
  have p6 : w1.cell? ⟨w.heap.size + 1, 6, none⟩ = some (.int .i64 x6) := kp.cell 6
  have p7 : w1.cell? ⟨w.heap.size + 1, 7, none⟩ = some (.bool t1) := kp.cell 7
  have p8 : w1.cell? ⟨w.heap.size + 1, 8, none⟩ = some (.bool t2) := kp.cell 8
  have p9 : w1.cell? ⟨w.heap.size + 1, 9, none⟩ = some (.bool t3) := kp.cell 9
  have p10 : w1.cell? ⟨w.heap.size + 1, 10, none⟩ = some (.int .u8 ph) := kp.cell 10
  have p11 : w1.cell? ⟨w.heap.size + 1, 11, none⟩ = some (.int .i64 tt) := kp.cell 11
  have p12 : w1.cell? ⟨w.heap.size + 1, 12, none⟩ = some (.int .i64 si) := kp.cell 12
  have m0 : w1.cell? ⟨w.heap.size + 1 + 1, 0, none⟩ = some (.int .i64 0) := kr.cell 0
  have n0 : w1.frozen? ⟨w.heap.size + 1 + 1, 0, none⟩ = false := kr.frozen 0
  have m1 : w1.cell? ⟨w.heap.size + 1 + 1, 1, none⟩ = some (.int .i64 0) := kr.cell 1
  have n1 : w1.frozen? ⟨w.heap.size + 1 + 1, 1, none⟩ = false := kr.frozen 1
  have m2 : w1.cell? ⟨w.heap.size + 1 + 1, 2, none⟩ = some (.int .i64 0) := kr.cell 2
  have n2 : w1.frozen? ⟨w.heap.size + 1 + 1, 2, none⟩ = false := kr.frozen 2
  have m3 : w1.cell? ⟨w.heap.size + 1 + 1, 3, none⟩ = some (.int .i64 0) := kr.cell 3
  have n3 : w1.frozen? ⟨w.heap.size + 1 + 1, 3, none⟩ = false := kr.frozen 3
  have m4 : w1.cell? ⟨w.heap.size + 1 + 1, 4, none⟩ = some (.int .i64 0) := kr.cell 4
  have n4 : w1.frozen? ⟨w.heap.size + 1 + 1, 4, none⟩ = false := kr.frozen 4
  have m5 : w1.cell? ⟨w.heap.size + 1 + 1, 5, none⟩ = some (.int .i64 0) := kr.cell 5
  have n5 : w1.frozen? ⟨w.heap.size + 1 + 1, 5, none⟩ = false := kr.frozen 5
  have m6 : w1.cell? ⟨w.heap.size + 1 + 1, 6, none⟩ = some (.int .i64 0) := kr.cell 6
  have n6 : w1.frozen? ⟨w.heap.size + 1 + 1, 6, none⟩ = false := kr.frozen 6
  have m7 : w1.cell? ⟨w.heap.size + 1 + 1, 7, none⟩ = some (.bool false) := kr.cell 7
  have n7 : w1.frozen? ⟨w.heap.size + 1 + 1, 7, none⟩ = false := kr.frozen 7
  have m8 : w1.cell? ⟨w.heap.size + 1 + 1, 8, none⟩ = some (.bool false) := kr.cell 8
  have n8 : w1.frozen? ⟨w.heap.size + 1 + 1, 8, none⟩ = false := kr.frozen 8
  have m9 : w1.cell? ⟨w.heap.size + 1 + 1, 9, none⟩ = some (.bool false) := kr.cell 9
  have n9 : w1.frozen? ⟨w.heap.size + 1 + 1, 9, none⟩ = false := kr.frozen 9
  have m10 : w1.cell? ⟨w.heap.size + 1 + 1, 10, none⟩ = some (.int .u8 0) := kr.cell 10
  have n10 : w1.frozen? ⟨w.heap.size + 1 + 1, 10, none⟩ = false := kr.frozen 10
  have m11 : w1.cell? ⟨w.heap.size + 1 + 1, 11, none⟩ = some (.int .i64 0) := kr.cell 11
  have n11 : w1.frozen? ⟨w.heap.size + 1 + 1, 11, none⟩ = false := kr.frozen 11
  have m12 : w1.cell? ⟨w.heap.size + 1 + 1, 12, none⟩ = some (.int .i64 0) := kr.cell 12
  have n12 : w1.frozen? ⟨w.heap.size + 1 + 1, 12, none⟩ = false := kr.frozen 12
  have hz1 : w.heap.size + 1 + 1 < w1.heap.size := kr.lt
  clear kd kp kr
  go_wp2_with fail
  refine (rp_ok a b c bo fr tr ag X cp ks job x1 x2 x3 x4 x5 x6 t1 t2 t3 ph tt si Hhp.out _).mono ?_
  rintro e w2 ⟨rfl, hB2⟩
  have HB2 := Lib.hid (below_up HB1.out hB2)
  have kd := KK1.out.1.below hB2 (cell_lt d0)
  have kp := KK1.out.2.1.below hB2 (cell_lt p0)
  have kr := KK1.out.2.2.below hB2 (cell_lt m0)
  have KK2 := Lib.hid (And.intro kd (And.intro kp kr))
  clear hB2 d0 d1 d2 d3 d4 d5 d6 d7 p0 p1 p2 p3 p4 p5 p6 p7 p8 p9 p10 p11 p12 m0 n0 m1 n1 m2 n2 m3 n3 m4 n4 m5 n5 m6 n6 m7 n7 m8 n8 m9 n9 m10 n10 m11 n11 m12 n12
  have d0 : w2.cell? ⟨w.heap.size, 0, none⟩ = some (.int .i64 a) := kd.cell 0
  have d1 : w2.cell? ⟨w.heap.size, 1, none⟩ = some (.int .i64 b) := kd.cell 1
  have d2 : w2.cell? ⟨w.heap.size, 2, none⟩ = some (.int .i64 c) := kd.cell 2
  have d3 : w2.cell? ⟨w.heap.size, 3, none⟩ = some (.int .i64 bo) := kd.cell 3
  have d4 : w2.cell? ⟨w.heap.size, 4, none⟩ = some (.int .i64 fr) := kd.cell 4
  have d5 : w2.cell? ⟨w.heap.size, 5, none⟩ = some (.int .i64 tr) := kd.cell 5
  have d6 : w2.cell? ⟨w.heap.size, 6, none⟩ = some (.int .i64 ag) := kd.cell 6
  have d7 : w2.cell? ⟨w.heap.size, 7, none⟩ = some (.slice X ks.length cp) := kd.cell 7
  have p0 : w2.cell? ⟨w.heap.size + 1, 0, none⟩ = some (.int .i64 job) := kp.cell 0
  have p1 : w2.cell? ⟨w.heap.size + 1, 1, none⟩ = some (.int .i64 x1) := kp.cell 1
  have p2 : w2.cell? ⟨w.heap.size + 1, 2, none⟩ = some (.int .i64 x2) := kp.cell 2
  have p3 : w2.cell? ⟨w.heap.size + 1, 3, none⟩ = some (.int .i64 x3) := kp.cell 3
  have p4 : w2.cell? ⟨w.heap.size + 1, 4, none⟩ = some (.int .i64 x4) := kp.cell 4
  have p5 : w2.cell? ⟨w.heap.size + 1, 5, none⟩ = some (.int .i64 x5) := kp.cell 5
  have p6 : w2.cell? ⟨w.heap.size + 1, 6, none⟩ = some (.int .i64 x6) := kp.cell 6
  have p7 : w2.cell? ⟨w.heap.size + 1, 7, none⟩ = some (.bool t1) := kp.cell 7
  have p8 : w2.cell? ⟨w.heap.size + 1, 8, none⟩ = some (.bool t2) := kp.cell 8
  have p9 : w2.cell? ⟨w.heap.size + 1, 9, none⟩ = some (.bool t3) := kp.cell 9
  have p10 : w2.cell? ⟨w.heap.size + 1, 10, none⟩ = some (.int .u8 ph) := kp.cell 10
  have p11 : w2.cell? ⟨w.heap.size + 1, 11, none⟩ = some (.int .i64 tt) := kp.cell 11
  have p12 : w2.cell? ⟨w.heap.size + 1, 12, none⟩ = some (.int .i64 si) := kp.cell 12
  have m0 : w2.cell? ⟨w.heap.size + 1 + 1, 0, none⟩ = some (.int .i64 0) := kr.cell 0
  have n0 : w2.frozen? ⟨w.heap.size + 1 + 1, 0, none⟩ = false := kr.frozen 0
  have m1 : w2.cell? ⟨w.heap.size + 1 + 1, 1, none⟩ = some (.int .i64 0) := kr.cell 1
  have n1 : w2.frozen? ⟨w.heap.size + 1 + 1, 1, none⟩ = false := kr.frozen 1
  have m2 : w2.cell? ⟨w.heap.size + 1 + 1, 2, none⟩ = some (.int .i64 0) := kr.cell 2
  have n2 : w2.frozen? ⟨w.heap.size + 1 + 1, 2, none⟩ = false := kr.frozen 2
  have m3 : w2.cell? ⟨w.heap.size + 1 + 1, 3, none⟩ = some (.int .i64 0) := kr.cell 3
  have n3 : w2.frozen? ⟨w.heap.size + 1 + 1, 3, none⟩ = false := kr.frozen 3
  have m4 : w2.cell? ⟨w.heap.size + 1 + 1, 4, none⟩ = some (.int .i64 0) := kr.cell 4
  have n4 : w2.frozen? ⟨w.heap.size + 1 + 1, 4, none⟩ = false := kr.frozen 4
  have m5 : w2.cell? ⟨w.heap.size + 1 + 1, 5, none⟩ = some (.int .i64 0) := kr.cell 5
  have n5 : w2.frozen? ⟨w.heap.size + 1 + 1, 5, none⟩ = false := kr.frozen 5
  have m6 : w2.cell? ⟨w.heap.size + 1 + 1, 6, none⟩ = some (.int .i64 0) := kr.cell 6
  have n6 : w2.frozen? ⟨w.heap.size + 1 + 1, 6, none⟩ = false := kr.frozen 6
  have m7 : w2.cell? ⟨w.heap.size + 1 + 1, 7, none⟩ = some (.bool false) := kr.cell 7
  have n7 : w2.frozen? ⟨w.heap.size + 1 + 1, 7, none⟩ = false := kr.frozen 7
  have m8 : w2.cell? ⟨w.heap.size + 1 + 1, 8, none⟩ = some (.bool false) := kr.cell 8
  have n8 : w2.frozen? ⟨w.heap.size + 1 + 1, 8, none⟩ = false := kr.frozen 8
  have m9 : w2.cell? ⟨w.heap.size + 1 + 1, 9, none⟩ = some (.bool false) := kr.cell 9
  have n9 : w2.frozen? ⟨w.heap.size + 1 + 1, 9, none⟩ = false := kr.frozen 9
  have m10 : w2.cell? ⟨w.heap.size + 1 + 1, 10, none⟩ = some (.int .u8 0) := kr.cell 10
  have n10 : w2.frozen? ⟨w.heap.size + 1 + 1, 10, none⟩ = false := kr.frozen 10
  have m11 : w2.cell? ⟨w.heap.size + 1 + 1, 11, none⟩ = some (.int .i64 0) := kr.cell 11
  have n11 : w2.frozen? ⟨w.heap.size + 1 + 1, 11, none⟩ = false := kr.frozen 11
  have m12 : w2.cell? ⟨w.heap.size + 1 + 1, 12, none⟩ = some (.int .i64 0) := kr.cell 12
  have n12 : w2.frozen? ⟨w.heap.size + 1 + 1, 12, none⟩ = false := kr.frozen 12
  have hz2 : w.heap.size + 1 + 1 < w2.heap.size := kr.lt
  clear kd kp kr
  go_wp2_with fail
  have hs13 := store13 (w := w) (g := w.heap.size + 1 + 1) HB2.out (by omega) KK2.out.2.2 (.int .i64 0) (.int .i64 0) (.int .i64 0) (.int .i64 0) (.int .i64 0) (.int .i64 0) (.int .i64 0) (.bool false) (.bool false) (.bool false) (.int .u8 0) (.int .i64 0) (.int .i64 0)
  refine bodyPost_ret (v := .tuple #[.agg #[.int .i64 0, .int .i64 0, .int .i64 0, .int .i64 0, .int .i64 0, .int .i64 0, .int .i64 0, .bool false, .bool false, .bool false, .int .u8 0, .int .i64 0, .int .i64 0], .int .u8 0, .bool false, .int .i64 2]) ?_ rfl ?_
  · exact res_rnext _ _ (w.heap.size + 1 + 1) (.int .i64 0) (.int .i64 0) (.int .i64 0) (.int .i64 0) (.int .i64 0) (.int .i64 0) (.int .i64 0) (.bool false) (.bool false) (.bool false) (.int .u8 0) (.int .i64 0) (.int .i64 0) (.int .u8 0) (.bool false) (.int .i64 2) rfl rfl rfl rfl hs13.2
  · exact ⟨rfl, hs13.1⟩
set_option maxRecDepth 100000 in
set_option maxHeartbeats 8000000 in
theorem rn_now (a b c bo fr tr ag : Int) (X : Option Addr) (cp : Nat) (ks : List Cls) (hl : ks.length ≤ 9223372036854775807) (job x1 x2 x3 x4 x5 x6 : Int) (t1 t2 t3 : Bool) (ph tt si : Int) (turn now : Int) (h : CfgOk a b c bo fr tr ag ks) (hp : PartOk job ph tt si tr) (h0 : 1 ≤ turn) (h1 : turn ≤ 8) (hN : inB now si 1099511627776 = false) (w : World) (hk : ClsAt w w.heap.size X ks) :
    Calls Try.prog 18 #[.agg #[.int .i64 a, .int .i64 b, .int .i64 c, .int .i64 bo, .int .i64 fr, .int .i64 tr, .int .i64 ag, .slice X ks.length cp], .agg #[.int .i64 job, .int .i64 x1, .int .i64 x2, .int .i64 x3, .int .i64 x4, .int .i64 x5, .int .i64 x6, .bool t1, .bool t2, .bool t3, .int .u8 ph, .int .i64 tt, .int .i64 si], .int .u8 turn, .int .i64 now] w (fun e w' => e = .returned (.tuple #[.agg #[.int .i64 0, .int .i64 0, .int .i64 0, .int .i64 0, .int .i64 0, .int .i64 0, .int .i64 0, .bool false, .bool false, .bool false, .int .u8 0, .int .i64 0, .int .i64 0], .int .u8 0, .bool false, .int .i64 2]) ∧ Below w.heap.size w w') := by
  have HKK := Lib.hid hk
  clear hk
  have Hh := Lib.hid h
  clear h
  have Hhp := Lib.hid hp
  clear hp
  have HhN := Lib.hid hN
  clear hN
  go_enter Try.func18, Try.ntmps18
  go_upto_region 1 with fail
  have kd : Blk (((w.alloc (.cells #[.int .i64 a, .int .i64 b, .int .i64 c, .int .i64 bo, .int .i64 fr, .int .i64 tr, .int .i64 ag, .slice X ks.length cp] 26)).alloc (.cells #[.int .i64 job, .int .i64 x1, .int .i64 x2, .int .i64 x3, .int .i64 x4, .int .i64 x5, .int .i64 x6, .bool t1, .bool t2, .bool t3, .int .u8 ph, .int .i64 tt, .int .i64 si] 37)).alloc (.cells #[.int .i64 0, .int .i64 0, .int .i64 0, .int .i64 0, .int .i64 0, .int .i64 0, .int .i64 0, .bool false, .bool false, .bool false, .int .u8 0, .int .i64 0, .int .i64 0] 37)) (w.heap.size) 26 #[.int .i64 a, .int .i64 b, .int .i64 c, .int .i64 bo, .int .i64 fr, .int .i64 tr, .int .i64 ag, .slice X ks.length cp] := ((Blk.new w _ _).alloc _).alloc _
  have kp : Blk (((w.alloc (.cells #[.int .i64 a, .int .i64 b, .int .i64 c, .int .i64 bo, .int .i64 fr, .int .i64 tr, .int .i64 ag, .slice X ks.length cp] 26)).alloc (.cells #[.int .i64 job, .int .i64 x1, .int .i64 x2, .int .i64 x3, .int .i64 x4, .int .i64 x5, .int .i64 x6, .bool t1, .bool t2, .bool t3, .int .u8 ph, .int .i64 tt, .int .i64 si] 37)).alloc (.cells #[.int .i64 0, .int .i64 0, .int .i64 0, .int .i64 0, .int .i64 0, .int .i64 0, .int .i64 0, .bool false, .bool false, .bool false, .int .u8 0, .int .i64 0, .int .i64 0] 37)) (w.heap.size + 1) 37 #[.int .i64 job, .int .i64 x1, .int .i64 x2, .int .i64 x3, .int .i64 x4, .int .i64 x5, .int .i64 x6, .bool t1, .bool t2, .bool t3, .int .u8 ph, .int .i64 tt, .int .i64 si] := (blk1 w _ _).alloc _
  have kr : Blk (((w.alloc (.cells #[.int .i64 a, .int .i64 b, .int .i64 c, .int .i64 bo, .int .i64 fr, .int .i64 tr, .int .i64 ag, .slice X ks.length cp] 26)).alloc (.cells #[.int .i64 job, .int .i64 x1, .int .i64 x2, .int .i64 x3, .int .i64 x4, .int .i64 x5, .int .i64 x6, .bool t1, .bool t2, .bool t3, .int .u8 ph, .int .i64 tt, .int .i64 si] 37)).alloc (.cells #[.int .i64 0, .int .i64 0, .int .i64 0, .int .i64 0, .int .i64 0, .int .i64 0, .int .i64 0, .bool false, .bool false, .bool false, .int .u8 0, .int .i64 0, .int .i64 0] 37)) (w.heap.size + 1 + 1) 37 #[.int .i64 0, .int .i64 0, .int .i64 0, .int .i64 0, .int .i64 0, .int .i64 0, .int .i64 0, .bool false, .bool false, .bool false, .int .u8 0, .int .i64 0, .int .i64 0] := blk2 w _ _
  have hb0 : Below w.heap.size w (((w.alloc (.cells #[.int .i64 a, .int .i64 b, .int .i64 c, .int .i64 bo, .int .i64 fr, .int .i64 tr, .int .i64 ag, .slice X ks.length cp] 26)).alloc (.cells #[.int .i64 job, .int .i64 x1, .int .i64 x2, .int .i64 x3, .int .i64 x4, .int .i64 x5, .int .i64 x6, .bool t1, .bool t2, .bool t3, .int .u8 ph, .int .i64 tt, .int .i64 si] 37)).alloc (.cells #[.int .i64 0, .int .i64 0, .int .i64 0, .int .i64 0, .int .i64 0, .int .i64 0, .int .i64 0, .bool false, .bool false, .bool false, .int .u8 0, .int .i64 0, .int .i64 0] 37)) := below_alloc (below_alloc (below_alloc (Below.refl _ _)))
  generalize hW0 : (((w.alloc (.cells #[.int .i64 a, .int .i64 b, .int .i64 c, .int .i64 bo, .int .i64 fr, .int .i64 tr, .int .i64 ag, .slice X ks.length cp] 26)).alloc (.cells #[.int .i64 job, .int .i64 x1, .int .i64 x2, .int .i64 x3, .int .i64 x4, .int .i64 x5, .int .i64 x6, .bool t1, .bool t2, .bool t3, .int .u8 ph, .int .i64 tt, .int .i64 si] 37)).alloc (.cells #[.int .i64 0, .int .i64 0, .int .i64 0, .int .i64 0, .int .i64 0, .int .i64 0, .int .i64 0, .bool false, .bool false, .bool false, .int .u8 0, .int .i64 0, .int .i64 0] 37)) = W0 at *
  clear hW0
  have d0 : W0.cell? ⟨w.heap.size, 0, none⟩ = some (.int .i64 a) := kd.cell 0
  have d1 : W0.cell? ⟨w.heap.size, 1, none⟩ = some (.int .i64 b) := kd.cell 1
  have d2 : W0.cell? ⟨w.heap.size, 2, none⟩ = some (.int .i64 c) := kd.cell 2
  have d3 : W0.cell? ⟨w.heap.size, 3, none⟩ = some (.int .i64 bo) := kd.cell 3
  have d4 : W0.cell? ⟨w.heap.size, 4, none⟩ = some (.int .i64 fr) := kd.cell 4
  have d5 : W0.cell? ⟨w.heap.size, 5, none⟩ = some (.int .i64 tr) := kd.cell 5
  have d6 : W0.cell? ⟨w.heap.size, 6, none⟩ = some (.int .i64 ag) := kd.cell 6
  have d7 : W0.cell? ⟨w.heap.size, 7, none⟩ = some (.slice X ks.length cp) := kd.cell 7
  have p0 : W0.cell? ⟨w.heap.size + 1, 0, none⟩ = some (.int .i64 job) := kp.cell 0
  have p1 : W0.cell? ⟨w.heap.size + 1, 1, none⟩ = some (.int .i64 x1) := kp.cell 1
  have p2 : W0.cell? ⟨w.heap.size + 1, 2, none⟩ = some (.int .i64 x2) := kp.cell 2
  have p3 : W0.cell? ⟨w.heap.size + 1, 3, none⟩ = some (.int .i64 x3) := kp.cell 3
  have p4 : W0.cell? ⟨w.heap.size + 1, 4, none⟩ = some (.int .i64 x4) := kp.cell 4
  have p5 : W0.cell? ⟨w.heap.size + 1, 5, none⟩ = some (.int .i64 x5) := kp.cell 5
  have p6 : W0.cell? ⟨w.heap.size + 1, 6, none⟩ = some (.int .i64 x6) := kp.cell 6
  have p7 : W0.cell? ⟨w.heap.size + 1, 7, none⟩ = some (.bool t1) := kp.cell 7
  have p8 : W0.cell? ⟨w.heap.size + 1, 8, none⟩ = some (.bool t2) := kp.cell 8
  have p9 : W0.cell? ⟨w.heap.size + 1, 9, none⟩ = some (.bool t3) := kp.cell 9
  have p10 : W0.cell? ⟨w.heap.size + 1, 10, none⟩ = some (.int .u8 ph) := kp.cell 10
  have p11 : W0.cell? ⟨w.heap.size + 1, 11, none⟩ = some (.int .i64 tt) := kp.cell 11
  have p12 : W0.cell? ⟨w.heap.size + 1, 12, none⟩ = some (.int .i64 si) := kp.cell 12
  have m0 : W0.cell? ⟨w.heap.size + 1 + 1, 0, none⟩ = some (.int .i64 0) := kr.cell 0
  have n0 : W0.frozen? ⟨w.heap.size + 1 + 1, 0, none⟩ = false := kr.frozen 0
  have m1 : W0.cell? ⟨w.heap.size + 1 + 1, 1, none⟩ = some (.int .i64 0) := kr.cell 1
  have n1 : W0.frozen? ⟨w.heap.size + 1 + 1, 1, none⟩ = false := kr.frozen 1
  have m2 : W0.cell? ⟨w.heap.size + 1 + 1, 2, none⟩ = some (.int .i64 0) := kr.cell 2
  have n2 : W0.frozen? ⟨w.heap.size + 1 + 1, 2, none⟩ = false := kr.frozen 2
  have m3 : W0.cell? ⟨w.heap.size + 1 + 1, 3, none⟩ = some (.int .i64 0) := kr.cell 3
  have n3 : W0.frozen? ⟨w.heap.size + 1 + 1, 3, none⟩ = false := kr.frozen 3
  have m4 : W0.cell? ⟨w.heap.size + 1 + 1, 4, none⟩ = some (.int .i64 0) := kr.cell 4
  have n4 : W0.frozen? ⟨w.heap.size + 1 + 1, 4, none⟩ = false := kr.frozen 4
  have m5 : W0.cell? ⟨w.heap.size + 1 + 1, 5, none⟩ = some (.int .i64 0) := kr.cell 5
  have n5 : W0.frozen? ⟨w.heap.size + 1 + 1, 5, none⟩ = false := kr.frozen 5
  have m6 : W0.cell? ⟨w.heap.size + 1 + 1, 6, none⟩ = some (.int .i64 0) := kr.cell 6
  have n6 : W0.frozen? ⟨w.heap.size + 1 + 1, 6, none⟩ = false := kr.frozen 6
  have m7 : W0.cell? ⟨w.heap.size + 1 + 1, 7, none⟩ = some (.bool false) := kr.cell 7
  have n7 : W0.frozen? ⟨w.heap.size + 1 + 1, 7, none⟩ = false := kr.frozen 7
  have m8 : W0.cell? ⟨w.heap.size + 1 + 1, 8, none⟩ = some (.bool false) := kr.cell 8
  have n8 : W0.frozen? ⟨w.heap.size + 1 + 1, 8, none⟩ = false := kr.frozen 8
  have m9 : W0.cell? ⟨w.heap.size + 1 + 1, 9, none⟩ = some (.bool false) := kr.cell 9
  have n9 : W0.frozen? ⟨w.heap.size + 1 + 1, 9, none⟩ = false := kr.frozen 9
  have m10 : W0.cell? ⟨w.heap.size + 1 + 1, 10, none⟩ = some (.int .u8 0) := kr.cell 10
  have n10 : W0.frozen? ⟨w.heap.size + 1 + 1, 10, none⟩ = false := kr.frozen 10
  have m11 : W0.cell? ⟨w.heap.size + 1 + 1, 11, none⟩ = some (.int .i64 0) := kr.cell 11
  have n11 : W0.frozen? ⟨w.heap.size + 1 + 1, 11, none⟩ = false := kr.frozen 11
  have m12 : W0.cell? ⟨w.heap.size + 1 + 1, 12, none⟩ = some (.int .i64 0) := kr.cell 12
  have n12 : W0.frozen? ⟨w.heap.size + 1 + 1, 12, none⟩ = false := kr.frozen 12
  have KK := Lib.hid (And.intro kd (And.intro kp kr))
  have HB0 := Lib.hid hb0
  clear kd kp kr hb0
  go_wp2_with fail
  refine (rmay_ok a b c bo fr tr ag X cp ks hl Hh.out _ (HKK.out.up HB0.out)).mono ?_
  rintro e w1 ⟨rfl, hB1⟩
  have HB1 := Lib.hid (below_up HB0.out hB1)
  have kd := KK.out.1.below hB1 (cell_lt d0)
  have kp := KK.out.2.1.below hB1 (cell_lt p0)
  have kr := KK.out.2.2.below hB1 (cell_lt m0)
  have KK1 := Lib.hid (And.intro kd (And.intro kp kr))
  clear hB1 d0 d1 d2 d3 d4 d5 d6 d7 p0 p1 p2 p3 p4 p5 p6 p7 p8 p9 p10 p11 p12 m0 n0 m1 n1 m2 n2 m3 n3 m4 n4 m5 n5 m6 n6 m7 n7 m8 n8 m9 n9 m10 n10 m11 n11 m12 n12
  have d0 : w1.cell? ⟨w.heap.size, 0, none⟩ = some (.int .i64 a) := kd.cell 0
  have d1 : w1.cell? ⟨w.heap.size, 1, none⟩ = some (.int .i64 b) := kd.cell 1
  have d2 : w1.cell? ⟨w.heap.size, 2, none⟩ = some (.int .i64 c) := kd.cell 2
  have d3 : w1.cell? ⟨w.heap.size, 3, none⟩ = some (.int .i64 bo) := kd.cell 3
  have d4 : w1.cell? ⟨w.heap.size, 4, none⟩ = some (.int .i64 fr) := kd.cell 4
  have d5 : w1.cell? ⟨w.heap.size, 5, none⟩ = some (.int .i64 tr) := kd.cell 5
  have d6 : w1.cell? ⟨w.heap.size, 6, none⟩ = some (.int .i64 ag) := kd.cell 6
  have d7 : w1.cell? ⟨w.heap.size, 7, none⟩ = some (.slice X ks.length cp) := kd.cell 7
  have p0 : w1.cell? ⟨w.heap.size + 1, 0, none⟩ = some (.int .i64 job) := kp.cell 0
  have p1 : w1.cell? ⟨w.heap.size + 1, 1, none⟩ = some (.int .i64 x1) := kp.cell 1
  have p2 : w1.cell? ⟨w.heap.size + 1, 2, none⟩ = some (.int .i64 x2) := kp.cell 2
  have p3 : w1.cell? ⟨w.heap.size + 1, 3, none⟩ = some (.int .i64 x3) := kp.cell 3
  have p4 : w1.cell? ⟨w.heap.size + 1, 4, none⟩ = some (.int .i64 x4) := kp.cell 4
  have p5 : w1.cell? ⟨w.heap.size + 1, 5, none⟩ = some (.int .i64 x5) := kp.cell 5
  have p6 : w1.cell? ⟨w.heap.size + 1, 6, none⟩ = some (.int .i64 x6) := kp.cell 6
  have p7 : w1.cell? ⟨w.heap.size + 1, 7, none⟩ = some (.bool t1) := kp.cell 7
  have p8 : w1.cell? ⟨w.heap.size + 1, 8, none⟩ = some (.bool t2) := kp.cell 8
  have p9 : w1.cell? ⟨w.heap.size + 1, 9, none⟩ = some (.bool t3) := kp.cell 9
  have p10 : w1.cell? ⟨w.heap.size + 1, 10, none⟩ = some (.int .u8 ph) := kp.cell 10
  have p11 : w1.cell? ⟨w.heap.size + 1, 11, none⟩ = some (.int .i64 tt) := kp.cell 11
  have p12 : w1.cell? ⟨w.heap.size + 1, 12, none⟩ = some (.int .i64 si) := kp.cell 12
  have m0 : w1.cell? ⟨w.heap.size + 1 + 1, 0, none⟩ = some (.int .i64 0) := kr.cell 0
  have n0 : w1.frozen? ⟨w.heap.size + 1 + 1, 0, none⟩ = false := kr.frozen 0
  have m1 : w1.cell? ⟨w.heap.size + 1 + 1, 1, none⟩ = some (.int .i64 0) := kr.cell 1
  have n1 : w1.frozen? ⟨w.heap.size + 1 + 1, 1, none⟩ = false := kr.frozen 1
  have m2 : w1.cell? ⟨w.heap.size + 1 + 1, 2, none⟩ = some (.int .i64 0) := kr.cell 2
  have n2 : w1.frozen? ⟨w.heap.size + 1 + 1, 2, none⟩ = false := kr.frozen 2
  have m3 : w1.cell? ⟨w.heap.size + 1 + 1, 3, none⟩ = some (.int .i64 0) := kr.cell 3
  have n3 : w1.frozen? ⟨w.heap.size + 1 + 1, 3, none⟩ = false := kr.frozen 3
  have m4 : w1.cell? ⟨w.heap.size + 1 + 1, 4, none⟩ = some (.int .i64 0) := kr.cell 4
  have n4 : w1.frozen? ⟨w.heap.size + 1 + 1, 4, none⟩ = false := kr.frozen 4
  have m5 : w1.cell? ⟨w.heap.size + 1 + 1, 5, none⟩ = some (.int .i64 0) := kr.cell 5
  have n5 : w1.frozen? ⟨w.heap.size + 1 + 1, 5, none⟩ = false := kr.frozen 5
  have m6 : w1.cell? ⟨w.heap.size + 1 + 1, 6, none⟩ = some (.int .i64 0) := kr.cell 6
  have n6 : w1.frozen? ⟨w.heap.size + 1 + 1, 6, none⟩ = false := kr.frozen 6
  have m7 : w1.cell? ⟨w.heap.size + 1 + 1, 7, none⟩ = some (.bool false) := kr.cell 7
  have n7 : w1.frozen? ⟨w.heap.size + 1 + 1, 7, none⟩ = false := kr.frozen 7
  have m8 : w1.cell? ⟨w.heap.size + 1 + 1, 8, none⟩ = some (.bool false) := kr.cell 8
  have n8 : w1.frozen? ⟨w.heap.size + 1 + 1, 8, none⟩ = false := kr.frozen 8
  have m9 : w1.cell? ⟨w.heap.size + 1 + 1, 9, none⟩ = some (.bool false) := kr.cell 9
  have n9 : w1.frozen? ⟨w.heap.size + 1 + 1, 9, none⟩ = false := kr.frozen 9
  have m10 : w1.cell? ⟨w.heap.size + 1 + 1, 10, none⟩ = some (.int .u8 0) := kr.cell 10
  have n10 : w1.frozen? ⟨w.heap.size + 1 + 1, 10, none⟩ = false := kr.frozen 10
  have m11 : w1.cell? ⟨w.heap.size + 1 + 1, 11, none⟩ = some (.int .i64 0) := kr.cell 11
  have n11 : w1.frozen? ⟨w.heap.size + 1 + 1, 11, none⟩ = false := kr.frozen 11
  have m12 : w1.cell? ⟨w.heap.size + 1 + 1, 12, none⟩ = some (.int .i64 0) := kr.cell 12
  have n12 : w1.frozen? ⟨w.heap.size + 1 + 1, 12, none⟩ = false := kr.frozen 12
  have hz1 : w.heap.size + 1 + 1 < w1.heap.size := kr.lt
  clear kd kp kr
  go_wp2_with fail
  refine (rp_ok a b c bo fr tr ag X cp ks job x1 x2 x3 x4 x5 x6 t1 t2 t3 ph tt si Hhp.out _).mono ?_
  rintro e w2 ⟨rfl, hB2⟩
  have HB2 := Lib.hid (below_up HB1.out hB2)
  have kd := KK1.out.1.below hB2 (cell_lt d0)
  have kp := KK1.out.2.1.below hB2 (cell_lt p0)
  have kr := KK1.out.2.2.below hB2 (cell_lt m0)
  have KK2 := Lib.hid (And.intro kd (And.intro kp kr))
  clear hB2 d0 d1 d2 d3 d4 d5 d6 d7 p0 p1 p2 p3 p4 p5 p6 p7 p8 p9 p10 p11 p12 m0 n0 m1 n1 m2 n2 m3 n3 m4 n4 m5 n5 m6 n6 m7 n7 m8 n8 m9 n9 m10 n10 m11 n11 m12 n12
  have d0 : w2.cell? ⟨w.heap.size, 0, none⟩ = some (.int .i64 a) := kd.cell 0
  have d1 : w2.cell? ⟨w.heap.size, 1, none⟩ = some (.int .i64 b) := kd.cell 1
  have d2 : w2.cell? ⟨w.heap.size, 2, none⟩ = some (.int .i64 c) := kd.cell 2
  have d3 : w2.cell? ⟨w.heap.size, 3, none⟩ = some (.int .i64 bo) := kd.cell 3
  have d4 : w2.cell? ⟨w.heap.size, 4, none⟩ = some (.int .i64 fr) := kd.cell 4
  have d5 : w2.cell? ⟨w.heap.size, 5, none⟩ = some (.int .i64 tr) := kd.cell 5
  have d6 : w2.cell? ⟨w.heap.size, 6, none⟩ = some (.int .i64 ag) := kd.cell 6
  have d7 : w2.cell? ⟨w.heap.size, 7, none⟩ = some (.slice X ks.length cp) := kd.cell 7
  have p0 : w2.cell? ⟨w.heap.size + 1, 0, none⟩ = some (.int .i64 job) := kp.cell 0
  have p1 : w2.cell? ⟨w.heap.size + 1, 1, none⟩ = some (.int .i64 x1) := kp.cell 1
  have p2 : w2.cell? ⟨w.heap.size + 1, 2, none⟩ = some (.int .i64 x2) := kp.cell 2
  have p3 : w2.cell? ⟨w.heap.size + 1, 3, none⟩ = some (.int .i64 x3) := kp.cell 3
  have p4 : w2.cell? ⟨w.heap.size + 1, 4, none⟩ = some (.int .i64 x4) := kp.cell 4
  have p5 : w2.cell? ⟨w.heap.size + 1, 5, none⟩ = some (.int .i64 x5) := kp.cell 5
  have p6 : w2.cell? ⟨w.heap.size + 1, 6, none⟩ = some (.int .i64 x6) := kp.cell 6
  have p7 : w2.cell? ⟨w.heap.size + 1, 7, none⟩ = some (.bool t1) := kp.cell 7
  have p8 : w2.cell? ⟨w.heap.size + 1, 8, none⟩ = some (.bool t2) := kp.cell 8
  have p9 : w2.cell? ⟨w.heap.size + 1, 9, none⟩ = some (.bool t3) := kp.cell 9
  have p10 : w2.cell? ⟨w.heap.size + 1, 10, none⟩ = some (.int .u8 ph) := kp.cell 10
  have p11 : w2.cell? ⟨w.heap.size + 1, 11, none⟩ = some (.int .i64 tt) := kp.cell 11
  have p12 : w2.cell? ⟨w.heap.size + 1, 12, none⟩ = some (.int .i64 si) := kp.cell 12
  have m0 : w2.cell? ⟨w.heap.size + 1 + 1, 0, none⟩ = some (.int .i64 0) := kr.cell 0
  have n0 : w2.frozen? ⟨w.heap.size + 1 + 1, 0, none⟩ = false := kr.frozen 0
  have m1 : w2.cell? ⟨w.heap.size + 1 + 1, 1, none⟩ = some (.int .i64 0) := kr.cell 1
  have n1 : w2.frozen? ⟨w.heap.size + 1 + 1, 1, none⟩ = false := kr.frozen 1
  have m2 : w2.cell? ⟨w.heap.size + 1 + 1, 2, none⟩ = some (.int .i64 0) := kr.cell 2
  have n2 : w2.frozen? ⟨w.heap.size + 1 + 1, 2, none⟩ = false := kr.frozen 2
  have m3 : w2.cell? ⟨w.heap.size + 1 + 1, 3, none⟩ = some (.int .i64 0) := kr.cell 3
  have n3 : w2.frozen? ⟨w.heap.size + 1 + 1, 3, none⟩ = false := kr.frozen 3
  have m4 : w2.cell? ⟨w.heap.size + 1 + 1, 4, none⟩ = some (.int .i64 0) := kr.cell 4
  have n4 : w2.frozen? ⟨w.heap.size + 1 + 1, 4, none⟩ = false := kr.frozen 4
  have m5 : w2.cell? ⟨w.heap.size + 1 + 1, 5, none⟩ = some (.int .i64 0) := kr.cell 5
  have n5 : w2.frozen? ⟨w.heap.size + 1 + 1, 5, none⟩ = false := kr.frozen 5
  have m6 : w2.cell? ⟨w.heap.size + 1 + 1, 6, none⟩ = some (.int .i64 0) := kr.cell 6
  have n6 : w2.frozen? ⟨w.heap.size + 1 + 1, 6, none⟩ = false := kr.frozen 6
  have m7 : w2.cell? ⟨w.heap.size + 1 + 1, 7, none⟩ = some (.bool false) := kr.cell 7
  have n7 : w2.frozen? ⟨w.heap.size + 1 + 1, 7, none⟩ = false := kr.frozen 7
  have m8 : w2.cell? ⟨w.heap.size + 1 + 1, 8, none⟩ = some (.bool false) := kr.cell 8
  have n8 : w2.frozen? ⟨w.heap.size + 1 + 1, 8, none⟩ = false := kr.frozen 8
  have m9 : w2.cell? ⟨w.heap.size + 1 + 1, 9, none⟩ = some (.bool false) := kr.cell 9
  have n9 : w2.frozen? ⟨w.heap.size + 1 + 1, 9, none⟩ = false := kr.frozen 9
  have m10 : w2.cell? ⟨w.heap.size + 1 + 1, 10, none⟩ = some (.int .u8 0) := kr.cell 10
  have n10 : w2.frozen? ⟨w.heap.size + 1 + 1, 10, none⟩ = false := kr.frozen 10
  have m11 : w2.cell? ⟨w.heap.size + 1 + 1, 11, none⟩ = some (.int .i64 0) := kr.cell 11
  have n11 : w2.frozen? ⟨w.heap.size + 1 + 1, 11, none⟩ = false := kr.frozen 11
  have m12 : w2.cell? ⟨w.heap.size + 1 + 1, 12, none⟩ = some (.int .i64 0) := kr.cell 12
  have n12 : w2.frozen? ⟨w.heap.size + 1 + 1, 12, none⟩ = false := kr.frozen 12
  have hz2 : w.heap.size + 1 + 1 < w2.heap.size := kr.lt
  clear kd kp kr
  go_wp2_with fail
  refine (in_to _ _ _ _ HhN.out _).mono ?_
  rintro e w' ⟨rfl, rfl⟩
  go_wp2_with fail
  have hs13 := store13 (w := w) (g := w.heap.size + 1 + 1) HB2.out (by omega) KK2.out.2.2 (.int .i64 0) (.int .i64 0) (.int .i64 0) (.int .i64 0) (.int .i64 0) (.int .i64 0) (.int .i64 0) (.bool false) (.bool false) (.bool false) (.int .u8 0) (.int .i64 0) (.int .i64 0)
  refine bodyPost_ret (v := .tuple #[.agg #[.int .i64 0, .int .i64 0, .int .i64 0, .int .i64 0, .int .i64 0, .int .i64 0, .int .i64 0, .bool false, .bool false, .bool false, .int .u8 0, .int .i64 0, .int .i64 0], .int .u8 0, .bool false, .int .i64 2]) ?_ rfl ?_
  · exact res_rnext _ _ (w.heap.size + 1 + 1) (.int .i64 0) (.int .i64 0) (.int .i64 0) (.int .i64 0) (.int .i64 0) (.int .i64 0) (.int .i64 0) (.bool false) (.bool false) (.bool false) (.int .u8 0) (.int .i64 0) (.int .i64 0) (.int .u8 0) (.bool false) (.int .i64 2) rfl rfl rfl rfl hs13.2
  · exact ⟨rfl, hs13.1⟩
set_option maxRecDepth 100000 in
set_option maxHeartbeats 8000000 in
theorem rn_not (a b c bo fr tr ag : Int) (X : Option Addr) (cp : Nat) (ks : List Cls) (hl : ks.length ≤ 9223372036854775807) (job x1 x2 x3 x4 x5 x6 : Int) (t1 t2 t3 : Bool) (ph tt si : Int) (turn now : Int) (h : CfgOk a b c bo fr tr ag ks) (hp : PartOk job ph tt si tr) (h0 : 1 ≤ turn) (h1 : turn ≤ 8) (hN : inB now si 1099511627776 = true) (job_ x1_ x2_ x3_ x4_ x5_ x6_ : Int) (t1_ t2_ t3_ : Bool) (ph_ tt_ si_ : Int) (nj : Int) (ng : Bool) (hT : ∀ w, Calls Try.prog 33 #[.agg #[.int .i64 a, .int .i64 b, .int .i64 c, .int .i64 bo, .int .i64 fr, .int .i64 tr, .int .i64 ag, .slice X ks.length cp], .agg #[.int .i64 job, .int .i64 x1, .int .i64 x2, .int .i64 x3, .int .i64 x4, .int .i64 x5, .int .i64 x6, .bool t1, .bool t2, .bool t3, .int .u8 ph, .int .i64 tt, .int .i64 si], .int .u8 turn, .int .i64 now] w (fun e w' => e = .returned (.tuple #[.agg #[.int .i64 job_, .int .i64 x1_, .int .i64 x2_, .int .i64 x3_, .int .i64 x4_, .int .i64 x5_, .int .i64 x6_, .bool t1_, .bool t2_, .bool t3_, .int .u8 ph_, .int .i64 tt_, .int .i64 si_], .int .u8 nj, .bool ng, .bool false]) ∧ Below w.heap.size w w')) (w : World) (hk : ClsAt w w.heap.size X ks) :
    Calls Try.prog 18 #[.agg #[.int .i64 a, .int .i64 b, .int .i64 c, .int .i64 bo, .int .i64 fr, .int .i64 tr, .int .i64 ag, .slice X ks.length cp], .agg #[.int .i64 job, .int .i64 x1, .int .i64 x2, .int .i64 x3, .int .i64 x4, .int .i64 x5, .int .i64 x6, .bool t1, .bool t2, .bool t3, .int .u8 ph, .int .i64 tt, .int .i64 si], .int .u8 turn, .int .i64 now] w (fun e w' => e = .returned (.tuple #[.agg #[.int .i64 0, .int .i64 0, .int .i64 0, .int .i64 0, .int .i64 0, .int .i64 0, .int .i64 0, .bool false, .bool false, .bool false, .int .u8 0, .int .i64 0, .int .i64 0], .int .u8 0, .bool false, .int .i64 250]) ∧ Below w.heap.size w w') := by
  have HKK := Lib.hid hk
  clear hk
  have Hh := Lib.hid h
  clear h
  have Hhp := Lib.hid hp
  clear hp
  have HhN := Lib.hid hN
  clear hN
  have HhT := Lib.hid hT
  clear hT
  go_enter Try.func18, Try.ntmps18
  go_upto_region 1 with fail
  have kd : Blk (((w.alloc (.cells #[.int .i64 a, .int .i64 b, .int .i64 c, .int .i64 bo, .int .i64 fr, .int .i64 tr, .int .i64 ag, .slice X ks.length cp] 26)).alloc (.cells #[.int .i64 job, .int .i64 x1, .int .i64 x2, .int .i64 x3, .int .i64 x4, .int .i64 x5, .int .i64 x6, .bool t1, .bool t2, .bool t3, .int .u8 ph, .int .i64 tt, .int .i64 si] 37)).alloc (.cells #[.int .i64 0, .int .i64 0, .int .i64 0, .int .i64 0, .int .i64 0, .int .i64 0, .int .i64 0, .bool false, .bool false, .bool false, .int .u8 0, .int .i64 0, .int .i64 0] 37)) (w.heap.size) 26 #[.int .i64 a, .int .i64 b, .int .i64 c, .int .i64 bo, .int .i64 fr, .int .i64 tr, .int .i64 ag, .slice X ks.length cp] := ((Blk.new w _ _).alloc _).alloc _
  have kp : Blk (((w.alloc (.cells #[.int .i64 a, .int .i64 b, .int .i64 c, .int .i64 bo, .int .i64 fr, .int .i64 tr, .int .i64 ag, .slice X ks.length cp] 26)).alloc (.cells #[.int .i64 job, .int .i64 x1, .int .i64 x2, .int .i64 x3, .int .i64 x4, .int .i64 x5, .int .i64 x6, .bool t1, .bool t2, .bool t3, .int .u8 ph, .int .i64 tt, .int .i64 si] 37)).alloc (.cells #[.int .i64 0, .int .i64 0, .int .i64 0, .int .i64 0, .int .i64 0, .int .i64 0, .int .i64 0, .bool false, .bool false, .bool false, .int .u8 0, .int .i64 0, .int .i64 0] 37)) (w.heap.size + 1) 37 #[.int .i64 job, .int .i64 x1, .int .i64 x2, .int .i64 x3, .int .i64 x4, .int .i64 x5, .int .i64 x6, .bool t1, .bool t2, .bool t3, .int .u8 ph, .int .i64 tt, .int .i64 si] := (blk1 w _ _).alloc _
  have kr : Blk (((w.alloc (.cells #[.int .i64 a, .int .i64 b, .int .i64 c, .int .i64 bo, .int .i64 fr, .int .i64 tr, .int .i64 ag, .slice X ks.length cp] 26)).alloc (.cells #[.int .i64 job, .int .i64 x1, .int .i64 x2, .int .i64 x3, .int .i64 x4, .int .i64 x5, .int .i64 x6, .bool t1, .bool t2, .bool t3, .int .u8 ph, .int .i64 tt, .int .i64 si] 37)).alloc (.cells #[.int .i64 0, .int .i64 0, .int .i64 0, .int .i64 0, .int .i64 0, .int .i64 0, .int .i64 0, .bool false, .bool false, .bool false, .int .u8 0, .int .i64 0, .int .i64 0] 37)) (w.heap.size + 1 + 1) 37 #[.int .i64 0, .int .i64 0, .int .i64 0, .int .i64 0, .int .i64 0, .int .i64 0, .int .i64 0, .bool false, .bool false, .bool false, .int .u8 0, .int .i64 0, .int .i64 0] := blk2 w _ _
  have hb0 : Below w.heap.size w (((w.alloc (.cells #[.int .i64 a, .int .i64 b, .int .i64 c, .int .i64 bo, .int .i64 fr, .int .i64 tr, .int .i64 ag, .slice X ks.length cp] 26)).alloc (.cells #[.int .i64 job, .int .i64 x1, .int .i64 x2, .int .i64 x3, .int .i64 x4, .int .i64 x5, .int .i64 x6, .bool t1, .bool t2, .bool t3, .int .u8 ph, .int .i64 tt, .int .i64 si] 37)).alloc (.cells #[.int .i64 0, .int .i64 0, .int .i64 0, .int .i64 0, .int .i64 0, .int .i64 0, .int .i64 0, .bool false, .bool false, .bool false, .int .u8 0, .int .i64 0, .int .i64 0] 37)) := below_alloc (below_alloc (below_alloc (Below.refl _ _)))
  generalize hW0 : (((w.alloc (.cells #[.int .i64 a, .int .i64 b, .int .i64 c, .int .i64 bo, .int .i64 fr, .int .i64 tr, .int .i64 ag, .slice X ks.length cp] 26)).alloc (.cells #[.int .i64 job, .int .i64 x1, .int .i64 x2, .int .i64 x3, .int .i64 x4, .int .i64 x5, .int .i64 x6, .bool t1, .bool t2, .bool t3, .int .u8 ph, .int .i64 tt, .int .i64 si] 37)).alloc (.cells #[.int .i64 0, .int .i64 0, .int .i64 0, .int .i64 0, .int .i64 0, .int .i64 0, .int .i64 0, .bool false, .bool false, .bool false, .int .u8 0, .int .i64 0, .int .i64 0] 37)) = W0 at *
  clear hW0
  have d0 : W0.cell? ⟨w.heap.size, 0, none⟩ = some (.int .i64 a) := kd.cell 0
  have d1 : W0.cell? ⟨w.heap.size, 1, none⟩ = some (.int .i64 b) := kd.cell 1
  have d2 : W0.cell? ⟨w.heap.size, 2, none⟩ = some (.int .i64 c) := kd.cell 2
  have d3 : W0.cell? ⟨w.heap.size, 3, none⟩ = some (.int .i64 bo) := kd.cell 3
  have d4 : W0.cell? ⟨w.heap.size, 4, none⟩ = some (.int .i64 fr) := kd.cell 4
  have d5 : W0.cell? ⟨w.heap.size, 5, none⟩ = some (.int .i64 tr) := kd.cell 5
  have d6 : W0.cell? ⟨w.heap.size, 6, none⟩ = some (.int .i64 ag) := kd.cell 6
  have d7 : W0.cell? ⟨w.heap.size, 7, none⟩ = some (.slice X ks.length cp) := kd.cell 7
  have p0 : W0.cell? ⟨w.heap.size + 1, 0, none⟩ = some (.int .i64 job) := kp.cell 0
  have p1 : W0.cell? ⟨w.heap.size + 1, 1, none⟩ = some (.int .i64 x1) := kp.cell 1
  have p2 : W0.cell? ⟨w.heap.size + 1, 2, none⟩ = some (.int .i64 x2) := kp.cell 2
  have p3 : W0.cell? ⟨w.heap.size + 1, 3, none⟩ = some (.int .i64 x3) := kp.cell 3
  have p4 : W0.cell? ⟨w.heap.size + 1, 4, none⟩ = some (.int .i64 x4) := kp.cell 4
  have p5 : W0.cell? ⟨w.heap.size + 1, 5, none⟩ = some (.int .i64 x5) := kp.cell 5
  have p6 : W0.cell? ⟨w.heap.size + 1, 6, none⟩ = some (.int .i64 x6) := kp.cell 6
  have p7 : W0.cell? ⟨w.heap.size + 1, 7, none⟩ = some (.bool t1) := kp.cell 7
  have p8 : W0.cell? ⟨w.heap.size + 1, 8, none⟩ = some (.bool t2) := kp.cell 8
  have p9 : W0.cell? ⟨w.heap.size + 1, 9, none⟩ = some (.bool t3) := kp.cell 9
  have p10 : W0.cell? ⟨w.heap.size + 1, 10, none⟩ = some (.int .u8 ph) := kp.cell 10
  have p11 : W0.cell? ⟨w.heap.size + 1, 11, none⟩ = some (.int .i64 tt) := kp.cell 11
  have p12 : W0.cell? ⟨w.heap.size + 1, 12, none⟩ = some (.int .i64 si) := kp.cell 12
  have m0 : W0.cell? ⟨w.heap.size + 1 + 1, 0, none⟩ = some (.int .i64 0) := kr.cell 0
  have n0 : W0.frozen? ⟨w.heap.size + 1 + 1, 0, none⟩ = false := kr.frozen 0
  have m1 : W0.cell? ⟨w.heap.size + 1 + 1, 1, none⟩ = some (.int .i64 0) := kr.cell 1
  have n1 : W0.frozen? ⟨w.heap.size + 1 + 1, 1, none⟩ = false := kr.frozen 1
  have m2 : W0.cell? ⟨w.heap.size + 1 + 1, 2, none⟩ = some (.int .i64 0) := kr.cell 2
  have n2 : W0.frozen? ⟨w.heap.size + 1 + 1, 2, none⟩ = false := kr.frozen 2
  have m3 : W0.cell? ⟨w.heap.size + 1 + 1, 3, none⟩ = some (.int .i64 0) := kr.cell 3
  have n3 : W0.frozen? ⟨w.heap.size + 1 + 1, 3, none⟩ = false := kr.frozen 3
  have m4 : W0.cell? ⟨w.heap.size + 1 + 1, 4, none⟩ = some (.int .i64 0) := kr.cell 4
  have n4 : W0.frozen? ⟨w.heap.size + 1 + 1, 4, none⟩ = false := kr.frozen 4
  have m5 : W0.cell? ⟨w.heap.size + 1 + 1, 5, none⟩ = some (.int .i64 0) := kr.cell 5
  have n5 : W0.frozen? ⟨w.heap.size + 1 + 1, 5, none⟩ = false := kr.frozen 5
  have m6 : W0.cell? ⟨w.heap.size + 1 + 1, 6, none⟩ = some (.int .i64 0) := kr.cell 6
  have n6 : W0.frozen? ⟨w.heap.size + 1 + 1, 6, none⟩ = false := kr.frozen 6
  have m7 : W0.cell? ⟨w.heap.size + 1 + 1, 7, none⟩ = some (.bool false) := kr.cell 7
  have n7 : W0.frozen? ⟨w.heap.size + 1 + 1, 7, none⟩ = false := kr.frozen 7
  have m8 : W0.cell? ⟨w.heap.size + 1 + 1, 8, none⟩ = some (.bool false) := kr.cell 8
  have n8 : W0.frozen? ⟨w.heap.size + 1 + 1, 8, none⟩ = false := kr.frozen 8
  have m9 : W0.cell? ⟨w.heap.size + 1 + 1, 9, none⟩ = some (.bool false) := kr.cell 9
  have n9 : W0.frozen? ⟨w.heap.size + 1 + 1, 9, none⟩ = false := kr.frozen 9
  have m10 : W0.cell? ⟨w.heap.size + 1 + 1, 10, none⟩ = some (.int .u8 0) := kr.cell 10
  have n10 : W0.frozen? ⟨w.heap.size + 1 + 1, 10, none⟩ = false := kr.frozen 10
  have m11 : W0.cell? ⟨w.heap.size + 1 + 1, 11, none⟩ = some (.int .i64 0) := kr.cell 11
  have n11 : W0.frozen? ⟨w.heap.size + 1 + 1, 11, none⟩ = false := kr.frozen 11
  have m12 : W0.cell? ⟨w.heap.size + 1 + 1, 12, none⟩ = some (.int .i64 0) := kr.cell 12
  have n12 : W0.frozen? ⟨w.heap.size + 1 + 1, 12, none⟩ = false := kr.frozen 12
  have KK := Lib.hid (And.intro kd (And.intro kp kr))
  have HB0 := Lib.hid hb0
  clear kd kp kr hb0
  go_wp2_with fail
  refine (rmay_ok a b c bo fr tr ag X cp ks hl Hh.out _ (HKK.out.up HB0.out)).mono ?_
  rintro e w1 ⟨rfl, hB1⟩
  have HB1 := Lib.hid (below_up HB0.out hB1)
  have kd := KK.out.1.below hB1 (cell_lt d0)
  have kp := KK.out.2.1.below hB1 (cell_lt p0)
  have kr := KK.out.2.2.below hB1 (cell_lt m0)
  have KK1 := Lib.hid (And.intro kd (And.intro kp kr))
  clear hB1 d0 d1 d2 d3 d4 d5 d6 d7 p0 p1 p2 p3 p4 p5 p6 p7 p8 p9 p10 p11 p12 m0 n0 m1 n1 m2 n2 m3 n3 m4 n4 m5 n5 m6 n6 m7 n7 m8 n8 m9 n9 m10 n10 m11 n11 m12 n12
  have d0 : w1.cell? ⟨w.heap.size, 0, none⟩ = some (.int .i64 a) := kd.cell 0
  have d1 : w1.cell? ⟨w.heap.size, 1, none⟩ = some (.int .i64 b) := kd.cell 1
  have d2 : w1.cell? ⟨w.heap.size, 2, none⟩ = some (.int .i64 c) := kd.cell 2
  have d3 : w1.cell? ⟨w.heap.size, 3, none⟩ = some (.int .i64 bo) := kd.cell 3
  have d4 : w1.cell? ⟨w.heap.size, 4, none⟩ = some (.int .i64 fr) := kd.cell 4
  have d5 : w1.cell? ⟨w.heap.size, 5, none⟩ = some (.int .i64 tr) := kd.cell 5
  have d6 : w1.cell? ⟨w.heap.size, 6, none⟩ = some (.int .i64 ag) := kd.cell 6
  have d7 : w1.cell? ⟨w.heap.size, 7, none⟩ = some (.slice X ks.length cp) := kd.cell 7
  have p0 : w1.cell? ⟨w.heap.size + 1, 0, none⟩ = some (.int .i64 job) := kp.cell 0
  have p1 : w1.cell? ⟨w.heap.size + 1, 1, none⟩ = some (.int .i64 x1) := kp.cell 1
  have p2 : w1.cell? ⟨w.heap.size + 1, 2, none⟩ = some (.int .i64 x2) := kp.cell 2
  have p3 : w1.cell? ⟨w.heap.size + 1, 3, none⟩ = some (.int .i64 x3) := kp.cell 3
  have p4 : w1.cell? ⟨w.heap.size + 1, 4, none⟩ = some (.int .i64 x4) := kp.cell 4
  have p5 : w1.cell? ⟨w.heap.size + 1, 5, none⟩ = some (.int .i64 x5) := kp.cell 5
  have p6 : w1.cell? ⟨w.heap.size + 1, 6, none⟩ = some (.int .i64 x6) := kp.cell 6
  have p7 : w1.cell? ⟨w.heap.size + 1, 7, none⟩ = some (.bool t1) := kp.cell 7
  have p8 : w1.cell? ⟨w.heap.size + 1, 8, none⟩ = some (.bool t2) := kp.cell 8
  have p9 : w1.cell? ⟨w.heap.size + 1, 9, none⟩ = some (.bool t3) := kp.cell 9
  have p10 : w1.cell? ⟨w.heap.size + 1, 10, none⟩ = some (.int .u8 ph) := kp.cell 10
  have p11 : w1.cell? ⟨w.heap.size + 1, 11, none⟩ = some (.int .i64 tt) := kp.cell 11
  have p12 : w1.cell? ⟨w.heap.size + 1, 12, none⟩ = some (.int .i64 si) := kp.cell 12
  have m0 : w1.cell? ⟨w.heap.size + 1 + 1, 0, none⟩ = some (.int .i64 0) := kr.cell 0
  have n0 : w1.frozen? ⟨w.heap.size + 1 + 1, 0, none⟩ = false := kr.frozen 0
  have m1 : w1.cell? ⟨w.heap.size + 1 + 1, 1, none⟩ = some (.int .i64 0) := kr.cell 1
  have n1 : w1.frozen? ⟨w.heap.size + 1 + 1, 1, none⟩ = false := kr.frozen 1
  have m2 : w1.cell? ⟨w.heap.size + 1 + 1, 2, none⟩ = some (.int .i64 0) := kr.cell 2
  have n2 : w1.frozen? ⟨w.heap.size + 1 + 1, 2, none⟩ = false := kr.frozen 2
  have m3 : w1.cell? ⟨w.heap.size + 1 + 1, 3, none⟩ = some (.int .i64 0) := kr.cell 3
  have n3 : w1.frozen? ⟨w.heap.size + 1 + 1, 3, none⟩ = false := kr.frozen 3
  have m4 : w1.cell? ⟨w.heap.size + 1 + 1, 4, none⟩ = some (.int .i64 0) := kr.cell 4
  have n4 : w1.frozen? ⟨w.heap.size + 1 + 1, 4, none⟩ = false := kr.frozen 4
  have m5 : w1.cell? ⟨w.heap.size + 1 + 1, 5, none⟩ = some (.int .i64 0) := kr.cell 5
  have n5 : w1.frozen? ⟨w.heap.size + 1 + 1, 5, none⟩ = false := kr.frozen 5
  have m6 : w1.cell? ⟨w.heap.size + 1 + 1, 6, none⟩ = some (.int .i64 0) := kr.cell 6
  have n6 : w1.frozen? ⟨w.heap.size + 1 + 1, 6, none⟩ = false := kr.frozen 6
  have m7 : w1.cell? ⟨w.heap.size + 1 + 1, 7, none⟩ = some (.bool false) := kr.cell 7
  have n7 : w1.frozen? ⟨w.heap.size + 1 + 1, 7, none⟩ = false := kr.frozen 7
  have m8 : w1.cell? ⟨w.heap.size + 1 + 1, 8, none⟩ = some (.bool false) := kr.cell 8
  have n8 : w1.frozen? ⟨w.heap.size + 1 + 1, 8, none⟩ = false := kr.frozen 8
  have m9 : w1.cell? ⟨w.heap.size + 1 + 1, 9, none⟩ = some (.bool false) := kr.cell 9
  have n9 : w1.frozen? ⟨w.heap.size + 1 + 1, 9, none⟩ = false := kr.frozen 9
  have m10 : w1.cell? ⟨w.heap.size + 1 + 1, 10, none⟩ = some (.int .u8 0) := kr.cell 10
  have n10 : w1.frozen? ⟨w.heap.size + 1 + 1, 10, none⟩ = false := kr.frozen 10
  have m11 : w1.cell? ⟨w.heap.size + 1 + 1, 11, none⟩ = some (.int .i64 0) := kr.cell 11
  have n11 : w1.frozen? ⟨w.heap.size + 1 + 1, 11, none⟩ = false := kr.frozen 11
  have m12 : w1.cell? ⟨w.heap.size + 1 + 1, 12, none⟩ = some (.int .i64 0) := kr.cell 12
  have n12 : w1.frozen? ⟨w.heap.size + 1 + 1, 12, none⟩ = false := kr.frozen 12
  have hz1 : w.heap.size + 1 + 1 < w1.heap.size := kr.lt
  clear kd kp kr
  go_wp2_with fail
  refine (rp_ok a b c bo fr tr ag X cp ks job x1 x2 x3 x4 x5 x6 t1 t2 t3 ph tt si Hhp.out _).mono ?_
  rintro e w2 ⟨rfl, hB2⟩
  have HB2 := Lib.hid (below_up HB1.out hB2)
  have kd := KK1.out.1.below hB2 (cell_lt d0)
  have kp := KK1.out.2.1.below hB2 (cell_lt p0)
  have kr := KK1.out.2.2.below hB2 (cell_lt m0)
  have KK2 := Lib.hid (And.intro kd (And.intro kp kr))
  clear hB2 d0 d1 d2 d3 d4 d5 d6 d7 p0 p1 p2 p3 p4 p5 p6 p7 p8 p9 p10 p11 p12 m0 n0 m1 n1 m2 n2 m3 n3 m4 n4 m5 n5 m6 n6 m7 n7 m8 n8 m9 n9 m10 n10 m11 n11 m12 n12
  have d0 : w2.cell? ⟨w.heap.size, 0, none⟩ = some (.int .i64 a) := kd.cell 0
  have d1 : w2.cell? ⟨w.heap.size, 1, none⟩ = some (.int .i64 b) := kd.cell 1
  have d2 : w2.cell? ⟨w.heap.size, 2, none⟩ = some (.int .i64 c) := kd.cell 2
  have d3 : w2.cell? ⟨w.heap.size, 3, none⟩ = some (.int .i64 bo) := kd.cell 3
  have d4 : w2.cell? ⟨w.heap.size, 4, none⟩ = some (.int .i64 fr) := kd.cell 4
  have d5 : w2.cell? ⟨w.heap.size, 5, none⟩ = some (.int .i64 tr) := kd.cell 5
  have d6 : w2.cell? ⟨w.heap.size, 6, none⟩ = some (.int .i64 ag) := kd.cell 6
  have d7 : w2.cell? ⟨w.heap.size, 7, none⟩ = some (.slice X ks.length cp) := kd.cell 7
  have p0 : w2.cell? ⟨w.heap.size + 1, 0, none⟩ = some (.int .i64 job) := kp.cell 0
  have p1 : w2.cell? ⟨w.heap.size + 1, 1, none⟩ = some (.int .i64 x1) := kp.cell 1
  have p2 : w2.cell? ⟨w.heap.size + 1, 2, none⟩ = some (.int .i64 x2) := kp.cell 2
  have p3 : w2.cell? ⟨w.heap.size + 1, 3, none⟩ = some (.int .i64 x3) := kp.cell 3
  have p4 : w2.cell? ⟨w.heap.size + 1, 4, none⟩ = some (.int .i64 x4) := kp.cell 4
  have p5 : w2.cell? ⟨w.heap.size + 1, 5, none⟩ = some (.int .i64 x5) := kp.cell 5
  have p6 : w2.cell? ⟨w.heap.size + 1, 6, none⟩ = some (.int .i64 x6) := kp.cell 6
  have p7 : w2.cell? ⟨w.heap.size + 1, 7, none⟩ = some (.bool t1) := kp.cell 7
  have p8 : w2.cell? ⟨w.heap.size + 1, 8, none⟩ = some (.bool t2) := kp.cell 8
  have p9 : w2.cell? ⟨w.heap.size + 1, 9, none⟩ = some (.bool t3) := kp.cell 9
  have p10 : w2.cell? ⟨w.heap.size + 1, 10, none⟩ = some (.int .u8 ph) := kp.cell 10
  have p11 : w2.cell? ⟨w.heap.size + 1, 11, none⟩ = some (.int .i64 tt) := kp.cell 11
  have p12 : w2.cell? ⟨w.heap.size + 1, 12, none⟩ = some (.int .i64 si) := kp.cell 12
  have m0 : w2.cell? ⟨w.heap.size + 1 + 1, 0, none⟩ = some (.int .i64 0) := kr.cell 0
  have n0 : w2.frozen? ⟨w.heap.size + 1 + 1, 0, none⟩ = false := kr.frozen 0
  have m1 : w2.cell? ⟨w.heap.size + 1 + 1, 1, none⟩ = some (.int .i64 0) := kr.cell 1
  have n1 : w2.frozen? ⟨w.heap.size + 1 + 1, 1, none⟩ = false := kr.frozen 1
  have m2 : w2.cell? ⟨w.heap.size + 1 + 1, 2, none⟩ = some (.int .i64 0) := kr.cell 2
  have n2 : w2.frozen? ⟨w.heap.size + 1 + 1, 2, none⟩ = false := kr.frozen 2
  have m3 : w2.cell? ⟨w.heap.size + 1 + 1, 3, none⟩ = some (.int .i64 0) := kr.cell 3
  have n3 : w2.frozen? ⟨w.heap.size + 1 + 1, 3, none⟩ = false := kr.frozen 3
  have m4 : w2.cell? ⟨w.heap.size + 1 + 1, 4, none⟩ = some (.int .i64 0) := kr.cell 4
  have n4 : w2.frozen? ⟨w.heap.size + 1 + 1, 4, none⟩ = false := kr.frozen 4
  have m5 : w2.cell? ⟨w.heap.size + 1 + 1, 5, none⟩ = some (.int .i64 0) := kr.cell 5
  have n5 : w2.frozen? ⟨w.heap.size + 1 + 1, 5, none⟩ = false := kr.frozen 5
  have m6 : w2.cell? ⟨w.heap.size + 1 + 1, 6, none⟩ = some (.int .i64 0) := kr.cell 6
  have n6 : w2.frozen? ⟨w.heap.size + 1 + 1, 6, none⟩ = false := kr.frozen 6
  have m7 : w2.cell? ⟨w.heap.size + 1 + 1, 7, none⟩ = some (.bool false) := kr.cell 7
  have n7 : w2.frozen? ⟨w.heap.size + 1 + 1, 7, none⟩ = false := kr.frozen 7
  have m8 : w2.cell? ⟨w.heap.size + 1 + 1, 8, none⟩ = some (.bool false) := kr.cell 8
  have n8 : w2.frozen? ⟨w.heap.size + 1 + 1, 8, none⟩ = false := kr.frozen 8
  have m9 : w2.cell? ⟨w.heap.size + 1 + 1, 9, none⟩ = some (.bool false) := kr.cell 9
  have n9 : w2.frozen? ⟨w.heap.size + 1 + 1, 9, none⟩ = false := kr.frozen 9
  have m10 : w2.cell? ⟨w.heap.size + 1 + 1, 10, none⟩ = some (.int .u8 0) := kr.cell 10
  have n10 : w2.frozen? ⟨w.heap.size + 1 + 1, 10, none⟩ = false := kr.frozen 10
  have m11 : w2.cell? ⟨w.heap.size + 1 + 1, 11, none⟩ = some (.int .i64 0) := kr.cell 11
  have n11 : w2.frozen? ⟨w.heap.size + 1 + 1, 11, none⟩ = false := kr.frozen 11
  have m12 : w2.cell? ⟨w.heap.size + 1 + 1, 12, none⟩ = some (.int .i64 0) := kr.cell 12
  have n12 : w2.frozen? ⟨w.heap.size + 1 + 1, 12, none⟩ = false := kr.frozen 12
  have hz2 : w.heap.size + 1 + 1 < w2.heap.size := kr.lt
  clear kd kp kr
  go_wp2_with fail
  refine (in_to _ _ _ _ HhN.out _).mono ?_
  rintro e w' ⟨rfl, rfl⟩
  go_wp2_with fail
  refine (HhT.out _).mono ?_
  rintro e w3 ⟨rfl, hB3⟩
  have HB3 := Lib.hid (below_up HB2.out hB3)
  have kd := KK2.out.1.below hB3 (cell_lt d0)
  have kp := KK2.out.2.1.below hB3 (cell_lt p0)
  have kr := KK2.out.2.2.below hB3 (cell_lt m0)
  have KK3 := Lib.hid (And.intro kd (And.intro kp kr))
  clear hB3 d0 d1 d2 d3 d4 d5 d6 d7 p0 p1 p2 p3 p4 p5 p6 p7 p8 p9 p10 p11 p12 m0 n0 m1 n1 m2 n2 m3 n3 m4 n4 m5 n5 m6 n6 m7 n7 m8 n8 m9 n9 m10 n10 m11 n11 m12 n12
  have d0 : w3.cell? ⟨w.heap.size, 0, none⟩ = some (.int .i64 a) := kd.cell 0
  have d1 : w3.cell? ⟨w.heap.size, 1, none⟩ = some (.int .i64 b) := kd.cell 1
  have d2 : w3.cell? ⟨w.heap.size, 2, none⟩ = some (.int .i64 c) := kd.cell 2
  have d3 : w3.cell? ⟨w.heap.size, 3, none⟩ = some (.int .i64 bo) := kd.cell 3
  have d4 : w3.cell? ⟨w.heap.size, 4, none⟩ = some (.int .i64 fr) := kd.cell 4
  have d5 : w3.cell? ⟨w.heap.size, 5, none⟩ = some (.int .i64 tr) := kd.cell 5
  have d6 : w3.cell? ⟨w.heap.size, 6, none⟩ = some (.int .i64 ag) := kd.cell 6
  have d7 : w3.cell? ⟨w.heap.size, 7, none⟩ = some (.slice X ks.length cp) := kd.cell 7
  have p0 : w3.cell? ⟨w.heap.size + 1, 0, none⟩ = some (.int .i64 job) := kp.cell 0
  have p1 : w3.cell? ⟨w.heap.size + 1, 1, none⟩ = some (.int .i64 x1) := kp.cell 1
  have p2 : w3.cell? ⟨w.heap.size + 1, 2, none⟩ = some (.int .i64 x2) := kp.cell 2
  have p3 : w3.cell? ⟨w.heap.size + 1, 3, none⟩ = some (.int .i64 x3) := kp.cell 3
  have p4 : w3.cell? ⟨w.heap.size + 1, 4, none⟩ = some (.int .i64 x4) := kp.cell 4
  have p5 : w3.cell? ⟨w.heap.size + 1, 5, none⟩ = some (.int .i64 x5) := kp.cell 5
  have p6 : w3.cell? ⟨w.heap.size + 1, 6, none⟩ = some (.int .i64 x6) := kp.cell 6
  have p7 : w3.cell? ⟨w.heap.size + 1, 7, none⟩ = some (.bool t1) := kp.cell 7
  have p8 : w3.cell? ⟨w.heap.size + 1, 8, none⟩ = some (.bool t2) := kp.cell 8
  have p9 : w3.cell? ⟨w.heap.size + 1, 9, none⟩ = some (.bool t3) := kp.cell 9
  have p10 : w3.cell? ⟨w.heap.size + 1, 10, none⟩ = some (.int .u8 ph) := kp.cell 10
  have p11 : w3.cell? ⟨w.heap.size + 1, 11, none⟩ = some (.int .i64 tt) := kp.cell 11
  have p12 : w3.cell? ⟨w.heap.size + 1, 12, none⟩ = some (.int .i64 si) := kp.cell 12
  have m0 : w3.cell? ⟨w.heap.size + 1 + 1, 0, none⟩ = some (.int .i64 0) := kr.cell 0
  have n0 : w3.frozen? ⟨w.heap.size + 1 + 1, 0, none⟩ = false := kr.frozen 0
  have m1 : w3.cell? ⟨w.heap.size + 1 + 1, 1, none⟩ = some (.int .i64 0) := kr.cell 1
  have n1 : w3.frozen? ⟨w.heap.size + 1 + 1, 1, none⟩ = false := kr.frozen 1
  have m2 : w3.cell? ⟨w.heap.size + 1 + 1, 2, none⟩ = some (.int .i64 0) := kr.cell 2
  have n2 : w3.frozen? ⟨w.heap.size + 1 + 1, 2, none⟩ = false := kr.frozen 2
  have m3 : w3.cell? ⟨w.heap.size + 1 + 1, 3, none⟩ = some (.int .i64 0) := kr.cell 3
  have n3 : w3.frozen? ⟨w.heap.size + 1 + 1, 3, none⟩ = false := kr.frozen 3
  have m4 : w3.cell? ⟨w.heap.size + 1 + 1, 4, none⟩ = some (.int .i64 0) := kr.cell 4
  have n4 : w3.frozen? ⟨w.heap.size + 1 + 1, 4, none⟩ = false := kr.frozen 4
  have m5 : w3.cell? ⟨w.heap.size + 1 + 1, 5, none⟩ = some (.int .i64 0) := kr.cell 5
  have n5 : w3.frozen? ⟨w.heap.size + 1 + 1, 5, none⟩ = false := kr.frozen 5
  have m6 : w3.cell? ⟨w.heap.size + 1 + 1, 6, none⟩ = some (.int .i64 0) := kr.cell 6
  have n6 : w3.frozen? ⟨w.heap.size + 1 + 1, 6, none⟩ = false := kr.frozen 6
  have m7 : w3.cell? ⟨w.heap.size + 1 + 1, 7, none⟩ = some (.bool false) := kr.cell 7
  have n7 : w3.frozen? ⟨w.heap.size + 1 + 1, 7, none⟩ = false := kr.frozen 7
  have m8 : w3.cell? ⟨w.heap.size + 1 + 1, 8, none⟩ = some (.bool false) := kr.cell 8
  have n8 : w3.frozen? ⟨w.heap.size + 1 + 1, 8, none⟩ = false := kr.frozen 8
  have m9 : w3.cell? ⟨w.heap.size + 1 + 1, 9, none⟩ = some (.bool false) := kr.cell 9
  have n9 : w3.frozen? ⟨w.heap.size + 1 + 1, 9, none⟩ = false := kr.frozen 9
  have m10 : w3.cell? ⟨w.heap.size + 1 + 1, 10, none⟩ = some (.int .u8 0) := kr.cell 10
  have n10 : w3.frozen? ⟨w.heap.size + 1 + 1, 10, none⟩ = false := kr.frozen 10
  have m11 : w3.cell? ⟨w.heap.size + 1 + 1, 11, none⟩ = some (.int .i64 0) := kr.cell 11
  have n11 : w3.frozen? ⟨w.heap.size + 1 + 1, 11, none⟩ = false := kr.frozen 11
  have m12 : w3.cell? ⟨w.heap.size + 1 + 1, 12, none⟩ = some (.int .i64 0) := kr.cell 12
  have n12 : w3.frozen? ⟨w.heap.size + 1 + 1, 12, none⟩ = false := kr.frozen 12
  have hz3 : w.heap.size + 1 + 1 < w3.heap.size := kr.lt
  clear kd kp kr
  go_wp2_with fail
  have hs13 := store13 (w := w) (g := w.heap.size + 1 + 1) HB3.out (by omega) KK3.out.2.2 (.int .i64 0) (.int .i64 0) (.int .i64 0) (.int .i64 0) (.int .i64 0) (.int .i64 0) (.int .i64 0) (.bool false) (.bool false) (.bool false) (.int .u8 0) (.int .i64 0) (.int .i64 0)
  refine bodyPost_ret (v := .tuple #[.agg #[.int .i64 0, .int .i64 0, .int .i64 0, .int .i64 0, .int .i64 0, .int .i64 0, .int .i64 0, .bool false, .bool false, .bool false, .int .u8 0, .int .i64 0, .int .i64 0], .int .u8 0, .bool false, .int .i64 250]) ?_ rfl ?_
  · exact res_rnext _ _ (w.heap.size + 1 + 1) (.int .i64 0) (.int .i64 0) (.int .i64 0) (.int .i64 0) (.int .i64 0) (.int .i64 0) (.int .i64 0) (.bool false) (.bool false) (.bool false) (.int .u8 0) (.int .i64 0) (.int .i64 0) (.int .u8 0) (.bool false) (.int .i64 250) rfl rfl rfl rfl (hs13.2.alloc _)
  · exact ⟨rfl, below_alloc hs13.1⟩
set_option maxRecDepth 100000 in
set_option maxHeartbeats 8000000 in
theorem rn_is (a b c bo fr tr ag : Int) (X : Option Addr) (cp : Nat) (ks : List Cls) (hl : ks.length ≤ 9223372036854775807) (job x1 x2 x3 x4 x5 x6 : Int) (t1 t2 t3 : Bool) (ph tt si : Int) (turn now : Int) (h : CfgOk a b c bo fr tr ag ks) (hp : PartOk job ph tt si tr) (h0 : 1 ≤ turn) (h1 : turn ≤ 8) (hN : inB now si 1099511627776 = true) (job_ x1_ x2_ x3_ x4_ x5_ x6_ : Int) (t1_ t2_ t3_ : Bool) (ph_ tt_ si_ : Int) (nj : Int) (ng : Bool) (hT : ∀ w, Calls Try.prog 33 #[.agg #[.int .i64 a, .int .i64 b, .int .i64 c, .int .i64 bo, .int .i64 fr, .int .i64 tr, .int .i64 ag, .slice X ks.length cp], .agg #[.int .i64 job, .int .i64 x1, .int .i64 x2, .int .i64 x3, .int .i64 x4, .int .i64 x5, .int .i64 x6, .bool t1, .bool t2, .bool t3, .int .u8 ph, .int .i64 tt, .int .i64 si], .int .u8 turn, .int .i64 now] w (fun e w' => e = .returned (.tuple #[.agg #[.int .i64 job_, .int .i64 x1_, .int .i64 x2_, .int .i64 x3_, .int .i64 x4_, .int .i64 x5_, .int .i64 x6_, .bool t1_, .bool t2_, .bool t3_, .int .u8 ph_, .int .i64 tt_, .int .i64 si_], .int .u8 nj, .bool ng, .bool true]) ∧ Below w.heap.size w w')) (w : World) (hk : ClsAt w w.heap.size X ks) :
    Calls Try.prog 18 #[.agg #[.int .i64 a, .int .i64 b, .int .i64 c, .int .i64 bo, .int .i64 fr, .int .i64 tr, .int .i64 ag, .slice X ks.length cp], .agg #[.int .i64 job, .int .i64 x1, .int .i64 x2, .int .i64 x3, .int .i64 x4, .int .i64 x5, .int .i64 x6, .bool t1, .bool t2, .bool t3, .int .u8 ph, .int .i64 tt, .int .i64 si], .int .u8 turn, .int .i64 now] w (fun e w' => e = .returned (.tuple #[.agg #[.int .i64 job_, .int .i64 x1_, .int .i64 x2_, .int .i64 x3_, .int .i64 x4_, .int .i64 x5_, .int .i64 x6_, .bool t1_, .bool t2_, .bool t3_, .int .u8 ph_, .int .i64 tt_, .int .i64 si_], .int .u8 nj, .bool ng, .int .i64 0]) ∧ Below w.heap.size w w') := by
  have HKK := Lib.hid hk
  clear hk
  have Hh := Lib.hid h
  clear h
  have Hhp := Lib.hid hp
  clear hp
  have HhN := Lib.hid hN
  clear hN
  have HhT := Lib.hid hT
  clear hT
  go_enter Try.func18, Try.ntmps18
  go_upto_region 1 with fail
  have kd : Blk (((w.alloc (.cells #[.int .i64 a, .int .i64 b, .int .i64 c, .int .i64 bo, .int .i64 fr, .int .i64 tr, .int .i64 ag, .slice X ks.length cp] 26)).alloc (.cells #[.int .i64 job, .int .i64 x1, .int .i64 x2, .int .i64 x3, .int .i64 x4, .int .i64 x5, .int .i64 x6, .bool t1, .bool t2, .bool t3, .int .u8 ph, .int .i64 tt, .int .i64 si] 37)).alloc (.cells #[.int .i64 0, .int .i64 0, .int .i64 0, .int .i64 0, .int .i64 0, .int .i64 0, .int .i64 0, .bool false, .bool false, .bool false, .int .u8 0, .int .i64 0, .int .i64 0] 37)) (w.heap.size) 26 #[.int .i64 a, .int .i64 b, .int .i64 c, .int .i64 bo, .int .i64 fr, .int .i64 tr, .int .i64 ag, .slice X ks.length cp] := ((Blk.new w _ _).alloc _).alloc _
  have kp : Blk (((w.alloc (.cells #[.int .i64 a, .int .i64 b, .int .i64 c, .int .i64 bo, .int .i64 fr, .int .i64 tr, .int .i64 ag, .slice X ks.length cp] 26)).alloc (.cells #[.int .i64 job, .int .i64 x1, .int .i64 x2, .int .i64 x3, .int .i64 x4, .int .i64 x5, .int .i64 x6, .bool t1, .bool t2, .bool t3, .int .u8 ph, .int .i64 tt, .int .i64 si] 37)).alloc (.cells #[.int .i64 0, .int .i64 0, .int .i64 0, .int .i64 0, .int .i64 0, .int .i64 0, .int .i64 0, .bool false, .bool false, .bool false, .int .u8 0, .int .i64 0, .int .i64 0] 37)) (w.heap.size + 1) 37 #[.int .i64 job, .int .i64 x1, .int .i64 x2, .int .i64 x3, .int .i64 x4, .int .i64 x5, .int .i64 x6, .bool t1, .bool t2, .bool t3, .int .u8 ph, .int .i64 tt, .int .i64 si] := (blk1 w _ _).alloc _
  have kr : Blk (((w.alloc (.cells #[.int .i64 a, .int .i64 b, .int .i64 c, .int .i64 bo, .int .i64 fr, .int .i64 tr, .int .i64 ag, .slice X ks.length cp] 26)).alloc (.cells #[.int .i64 job, .int .i64 x1, .int .i64 x2, .int .i64 x3, .int .i64 x4, .int .i64 x5, .int .i64 x6, .bool t1, .bool t2, .bool t3, .int .u8 ph, .int .i64 tt, .int .i64 si] 37)).alloc (.cells #[.int .i64 0, .int .i64 0, .int .i64 0, .int .i64 0, .int .i64 0, .int .i64 0, .int .i64 0, .bool false, .bool false, .bool false, .int .u8 0, .int .i64 0, .int .i64 0] 37)) (w.heap.size + 1 + 1) 37 #[.int .i64 0, .int .i64 0, .int .i64 0, .int .i64 0, .int .i64 0, .int .i64 0, .int .i64 0, .bool false, .bool false, .bool false, .int .u8 0, .int .i64 0, .int .i64 0] := blk2 w _ _
  have hb0 : Below w.heap.size w (((w.alloc (.cells #[.int .i64 a, .int .i64 b, .int .i64 c, .int .i64 bo, .int .i64 fr, .int .i64 tr, .int .i64 ag, .slice X ks.length cp] 26)).alloc (.cells #[.int .i64 job, .int .i64 x1, .int .i64 x2, .int .i64 x3, .int .i64 x4, .int .i64 x5, .int .i64 x6, .bool t1, .bool t2, .bool t3, .int .u8 ph, .int .i64 tt, .int .i64 si] 37)).alloc (.cells #[.int .i64 0, .int .i64 0, .int .i64 0, .int .i64 0, .int .i64 0, .int .i64 0, .int .i64 0, .bool false, .bool false, .bool false, .int .u8 0, .int .i64 0, .int .i64 0] 37)) := below_alloc (below_alloc (below_alloc (Below.refl _ _)))
  generalize hW0 : (((w.alloc (.cells #[.int .i64 a, .int .i64 b, .int .i64 c, .int .i64 bo, .int .i64 fr, .int .i64 tr, .int .i64 ag, .slice X ks.length cp] 26)).alloc (.cells #[.int .i64 job, .int .i64 x1, .int .i64 x2, .int .i64 x3, .int .i64 x4, .int .i64 x5, .int .i64 x6, .bool t1, .bool t2, .bool t3, .int .u8 ph, .int .i64 tt, .int .i64 si] 37)).alloc (.cells #[.int .i64 0, .int .i64 0, .int .i64 0, .int .i64 0, .int .i64 0, .int .i64 0, .int .i64 0, .bool false, .bool false, .bool false, .int .u8 0, .int .i64 0, .int .i64 0] 37)) = W0 at *
  clear hW0
  have d0 : W0.cell? ⟨w.heap.size, 0, none⟩ = some (.int .i64 a) := kd.cell 0
  have d1 : W0.cell? ⟨w.heap.size, 1, none⟩ = some (.int .i64 b) := kd.cell 1
  have d2 : W0.cell? ⟨w.heap.size, 2, none⟩ = some (.int .i64 c) := kd.cell 2
  have d3 : W0.cell? ⟨w.heap.size, 3, none⟩ = some (.int .i64 bo) := kd.cell 3
  have d4 : W0.cell? ⟨w.heap.size, 4, none⟩ = some (.int .i64 fr) := kd.cell 4
  have d5 : W0.cell? ⟨w.heap.size, 5, none⟩ = some (.int .i64 tr) := kd.cell 5
  have d6 : W0.cell? ⟨w.heap.size, 6, none⟩ = some (.int .i64 ag) := kd.cell 6
  have d7 : W0.cell? ⟨w.heap.size, 7, none⟩ = some (.slice X ks.length cp) := kd.cell 7
  have p0 : W0.cell? ⟨w.heap.size + 1, 0, none⟩ = some (.int .i64 job) := kp.cell 0
  have p1 : W0.cell? ⟨w.heap.size + 1, 1, none⟩ = some (.int .i64 x1) := kp.cell 1
  have p2 : W0.cell? ⟨w.heap.size + 1, 2, none⟩ = some (.int .i64 x2) := kp.cell 2
  have p3 : W0.cell? ⟨w.heap.size + 1, 3, none⟩ = some (.int .i64 x3) := kp.cell 3
  have p4 : W0.cell? ⟨w.heap.size + 1, 4, none⟩ = some (.int .i64 x4) := kp.cell 4
  have p5 : W0.cell? ⟨w.heap.size + 1, 5, none⟩ = some (.int .i64 x5) := kp.cell 5
  have p6 : W0.cell? ⟨w.heap.size + 1, 6, none⟩ = some (.int .i64 x6) := kp.cell 6
  have p7 : W0.cell? ⟨w.heap.size + 1, 7, none⟩ = some (.bool t1) := kp.cell 7
  have p8 : W0.cell? ⟨w.heap.size + 1, 8, none⟩ = some (.bool t2) := kp.cell 8
  have p9 : W0.cell? ⟨w.heap.size + 1, 9, none⟩ = some (.bool t3) := kp.cell 9
  have p10 : W0.cell? ⟨w.heap.size + 1, 10, none⟩ = some (.int .u8 ph) := kp.cell 10
  have p11 : W0.cell? ⟨w.heap.size + 1, 11, none⟩ = some (.int .i64 tt) := kp.cell 11
  have p12 : W0.cell? ⟨w.heap.size + 1, 12, none⟩ = some (.int .i64 si) := kp.cell 12
  have m0 : W0.cell? ⟨w.heap.size + 1 + 1, 0, none⟩ = some (.int .i64 0) := kr.cell 0
  have n0 : W0.frozen? ⟨w.heap.size + 1 + 1, 0, none⟩ = false := kr.frozen 0
  have m1 : W0.cell? ⟨w.heap.size + 1 + 1, 1, none⟩ = some (.int .i64 0) := kr.cell 1
  have n1 : W0.frozen? ⟨w.heap.size + 1 + 1, 1, none⟩ = false := kr.frozen 1
  have m2 : W0.cell? ⟨w.heap.size + 1 + 1, 2, none⟩ = some (.int .i64 0) := kr.cell 2
  have n2 : W0.frozen? ⟨w.heap.size + 1 + 1, 2, none⟩ = false := kr.frozen 2
  have m3 : W0.cell? ⟨w.heap.size + 1 + 1, 3, none⟩ = some (.int .i64 0) := kr.cell 3
  have n3 : W0.frozen? ⟨w.heap.size + 1 + 1, 3, none⟩ = false := kr.frozen 3
  have m4 : W0.cell? ⟨w.heap.size + 1 + 1, 4, none⟩ = some (.int .i64 0) := kr.cell 4
  have n4 : W0.frozen? ⟨w.heap.size + 1 + 1, 4, none⟩ = false := kr.frozen 4
  have m5 : W0.cell? ⟨w.heap.size + 1 + 1, 5, none⟩ = some (.int .i64 0) := kr.cell 5
  have n5 : W0.frozen? ⟨w.heap.size + 1 + 1, 5, none⟩ = false := kr.frozen 5
  have m6 : W0.cell? ⟨w.heap.size + 1 + 1, 6, none⟩ = some (.int .i64 0) := kr.cell 6
  have n6 : W0.frozen? ⟨w.heap.size + 1 + 1, 6, none⟩ = false := kr.frozen 6
  have m7 : W0.cell? ⟨w.heap.size + 1 + 1, 7, none⟩ = some (.bool false) := kr.cell 7
  have n7 : W0.frozen? ⟨w.heap.size + 1 + 1, 7, none⟩ = false := kr.frozen 7
  have m8 : W0.cell? ⟨w.heap.size + 1 + 1, 8, none⟩ = some (.bool false) := kr.cell 8
  have n8 : W0.frozen? ⟨w.heap.size + 1 + 1, 8, none⟩ = false := kr.frozen 8
  have m9 : W0.cell? ⟨w.heap.size + 1 + 1, 9, none⟩ = some (.bool false) := kr.cell 9
  have n9 : W0.frozen? ⟨w.heap.size + 1 + 1, 9, none⟩ = false := kr.frozen 9
  have m10 : W0.cell? ⟨w.heap.size + 1 + 1, 10, none⟩ = some (.int .u8 0) := kr.cell 10
  have n10 : W0.frozen? ⟨w.heap.size + 1 + 1, 10, none⟩ = false := kr.frozen 10
  have m11 : W0.cell? ⟨w.heap.size + 1 + 1, 11, none⟩ = some (.int .i64 0) := kr.cell 11
  have n11 : W0.frozen? ⟨w.heap.size + 1 + 1, 11, none⟩ = false := kr.frozen 11
  have m12 : W0.cell? ⟨w.heap.size + 1 + 1, 12, none⟩ = some (.int .i64 0) := kr.cell 12
  have n12 : W0.frozen? ⟨w.heap.size + 1 + 1, 12, none⟩ = false := kr.frozen 12
  have KK := Lib.hid (And.intro kd (And.intro kp kr))
  have HB0 := Lib.hid hb0
  clear kd kp kr hb0
  go_wp2_with fail
  refine (rmay_ok a b c bo fr tr ag X cp ks hl Hh.out _ (HKK.out.up HB0.out)).mono ?_
  rintro e w1 ⟨rfl, hB1⟩
  have HB1 := Lib.hid (below_up HB0.out hB1)
  have kd := KK.out.1.below hB1 (cell_lt d0)
  have kp := KK.out.2.1.below hB1 (cell_lt p0)
  have kr := KK.out.2.2.below hB1 (cell_lt m0)
  have KK1 := Lib.hid (And.intro kd (And.intro kp kr))
  clear hB1 d0 d1 d2 d3 d4 d5 d6 d7 p0 p1 p2 p3 p4 p5 p6 p7 p8 p9 p10 p11 p12 m0 n0 m1 n1 m2 n2 m3 n3 m4 n4 m5 n5 m6 n6 m7 n7 m8 n8 m9 n9 m10 n10 m11 n11 m12 n12
  have d0 : w1.cell? ⟨w.heap.size, 0, none⟩ = some (.int .i64 a) := kd.cell 0
  have d1 : w1.cell? ⟨w.heap.size, 1, none⟩ = some (.int .i64 b) := kd.cell 1
  have d2 : w1.cell? ⟨w.heap.size, 2, none⟩ = some (.int .i64 c) := kd.cell 2
  have d3 : w1.cell? ⟨w.heap.size, 3, none⟩ = some (.int .i64 bo) := kd.cell 3
  have d4 : w1.cell? ⟨w.heap.size, 4, none⟩ = some (.int .i64 fr) := kd.cell 4
  have d5 : w1.cell? ⟨w.heap.size, 5, none⟩ = some (.int .i64 tr) := kd.cell 5
  have d6 : w1.cell? ⟨w.heap.size, 6, none⟩ = some (.int .i64 ag) := kd.cell 6
  have d7 : w1.cell? ⟨w.heap.size, 7, none⟩ = some (.slice X ks.length cp) := kd.cell 7
  have p0 : w1.cell? ⟨w.heap.size + 1, 0, none⟩ = some (.int .i64 job) := kp.cell 0
  have p1 : w1.cell? ⟨w.heap.size + 1, 1, none⟩ = some (.int .i64 x1) := kp.cell 1
  have p2 : w1.cell? ⟨w.heap.size + 1, 2, none⟩ = some (.int .i64 x2) := kp.cell 2
  have p3 : w1.cell? ⟨w.heap.size + 1, 3, none⟩ = some (.int .i64 x3) := kp.cell 3
  have p4 : w1.cell? ⟨w.heap.size + 1, 4, none⟩ = some (.int .i64 x4) := kp.cell 4
  have p5 : w1.cell? ⟨w.heap.size + 1, 5, none⟩ = some (.int .i64 x5) := kp.cell 5
  have p6 : w1.cell? ⟨w.heap.size + 1, 6, none⟩ = some (.int .i64 x6) := kp.cell 6
  have p7 : w1.cell? ⟨w.heap.size + 1, 7, none⟩ = some (.bool t1) := kp.cell 7
  have p8 : w1.cell? ⟨w.heap.size + 1, 8, none⟩ = some (.bool t2) := kp.cell 8
  have p9 : w1.cell? ⟨w.heap.size + 1, 9, none⟩ = some (.bool t3) := kp.cell 9
  have p10 : w1.cell? ⟨w.heap.size + 1, 10, none⟩ = some (.int .u8 ph) := kp.cell 10
  have p11 : w1.cell? ⟨w.heap.size + 1, 11, none⟩ = some (.int .i64 tt) := kp.cell 11
  have p12 : w1.cell? ⟨w.heap.size + 1, 12, none⟩ = some (.int .i64 si) := kp.cell 12
  have m0 : w1.cell? ⟨w.heap.size + 1 + 1, 0, none⟩ = some (.int .i64 0) := kr.cell 0
  have n0 : w1.frozen? ⟨w.heap.size + 1 + 1, 0, none⟩ = false := kr.frozen 0
  have m1 : w1.cell? ⟨w.heap.size + 1 + 1, 1, none⟩ = some (.int .i64 0) := kr.cell 1
  have n1 : w1.frozen? ⟨w.heap.size + 1 + 1, 1, none⟩ = false := kr.frozen 1
  have m2 : w1.cell? ⟨w.heap.size + 1 + 1, 2, none⟩ = some (.int .i64 0) := kr.cell 2
  have n2 : w1.frozen? ⟨w.heap.size + 1 + 1, 2, none⟩ = false := kr.frozen 2
  have m3 : w1.cell? ⟨w.heap.size + 1 + 1, 3, none⟩ = some (.int .i64 0) := kr.cell 3
  have n3 : w1.frozen? ⟨w.heap.size + 1 + 1, 3, none⟩ = false := kr.frozen 3
  have m4 : w1.cell? ⟨w.heap.size + 1 + 1, 4, none⟩ = some (.int .i64 0) := kr.cell 4
  have n4 : w1.frozen? ⟨w.heap.size + 1 + 1, 4, none⟩ = false := kr.frozen 4
  have m5 : w1.cell? ⟨w.heap.size + 1 + 1, 5, none⟩ = some (.int .i64 0) := kr.cell 5
  have n5 : w1.frozen? ⟨w.heap.size + 1 + 1, 5, none⟩ = false := kr.frozen 5
  have m6 : w1.cell? ⟨w.heap.size + 1 + 1, 6, none⟩ = some (.int .i64 0) := kr.cell 6
  have n6 : w1.frozen? ⟨w.heap.size + 1 + 1, 6, none⟩ = false := kr.frozen 6
  have m7 : w1.cell? ⟨w.heap.size + 1 + 1, 7, none⟩ = some (.bool false) := kr.cell 7
  have n7 : w1.frozen? ⟨w.heap.size + 1 + 1, 7, none⟩ = false := kr.frozen 7
  have m8 : w1.cell? ⟨w.heap.size + 1 + 1, 8, none⟩ = some (.bool false) := kr.cell 8
  have n8 : w1.frozen? ⟨w.heap.size + 1 + 1, 8, none⟩ = false := kr.frozen 8
  have m9 : w1.cell? ⟨w.heap.size + 1 + 1, 9, none⟩ = some (.bool false) := kr.cell 9
  have n9 : w1.frozen? ⟨w.heap.size + 1 + 1, 9, none⟩ = false := kr.frozen 9
  have m10 : w1.cell? ⟨w.heap.size + 1 + 1, 10, none⟩ = some (.int .u8 0) := kr.cell 10
  have n10 : w1.frozen? ⟨w.heap.size + 1 + 1, 10, none⟩ = false := kr.frozen 10
  have m11 : w1.cell? ⟨w.heap.size + 1 + 1, 11, none⟩ = some (.int .i64 0) := kr.cell 11
  have n11 : w1.frozen? ⟨w.heap.size + 1 + 1, 11, none⟩ = false := kr.frozen 11
  have m12 : w1.cell? ⟨w.heap.size + 1 + 1, 12, none⟩ = some (.int .i64 0) := kr.cell 12
  have n12 : w1.frozen? ⟨w.heap.size + 1 + 1, 12, none⟩ = false := kr.frozen 12
  have hz1 : w.heap.size + 1 + 1 < w1.heap.size := kr.lt
  clear kd kp kr
  go_wp2_with fail
  refine (rp_ok a b c bo fr tr ag X cp ks job x1 x2 x3 x4 x5 x6 t1 t2 t3 ph tt si Hhp.out _).mono ?_
  rintro e w2 ⟨rfl, hB2⟩
  have HB2 := Lib.hid (below_up HB1.out hB2)
  have kd := KK1.out.1.below hB2 (cell_lt d0)
  have kp := KK1.out.2.1.below hB2 (cell_lt p0)
  have kr := KK1.out.2.2.below hB2 (cell_lt m0)
  have KK2 := Lib.hid (And.intro kd (And.intro kp kr))
  clear hB2 d0 d1 d2 d3 d4 d5 d6 d7 p0 p1 p2 p3 p4 p5 p6 p7 p8 p9 p10 p11 p12 m0 n0 m1 n1 m2 n2 m3 n3 m4 n4 m5 n5 m6 n6 m7 n7 m8 n8 m9 n9 m10 n10 m11 n11 m12 n12
  have d0 : w2.cell? ⟨w.heap.size, 0, none⟩ = some (.int .i64 a) := kd.cell 0
  have d1 : w2.cell? ⟨w.heap.size, 1, none⟩ = some (.int .i64 b) := kd.cell 1
  have d2 : w2.cell? ⟨w.heap.size, 2, none⟩ = some (.int .i64 c) := kd.cell 2
  have d3 : w2.cell? ⟨w.heap.size, 3, none⟩ = some (.int .i64 bo) := kd.cell 3
  have d4 : w2.cell? ⟨w.heap.size, 4, none⟩ = some (.int .i64 fr) := kd.cell 4
  have d5 : w2.cell? ⟨w.heap.size, 5, none⟩ = some (.int .i64 tr) := kd.cell 5
  have d6 : w2.cell? ⟨w.heap.size, 6, none⟩ = some (.int .i64 ag) := kd.cell 6
  have d7 : w2.cell? ⟨w.heap.size, 7, none⟩ = some (.slice X ks.length cp) := kd.cell 7
  have p0 : w2.cell? ⟨w.heap.size + 1, 0, none⟩ = some (.int .i64 job) := kp.cell 0
  have p1 : w2.cell? ⟨w.heap.size + 1, 1, none⟩ = some (.int .i64 x1) := kp.cell 1
  have p2 : w2.cell? ⟨w.heap.size + 1, 2, none⟩ = some (.int .i64 x2) := kp.cell 2
  have p3 : w2.cell? ⟨w.heap.size + 1, 3, none⟩ = some (.int .i64 x3) := kp.cell 3
  have p4 : w2.cell? ⟨w.heap.size + 1, 4, none⟩ = some (.int .i64 x4) := kp.cell 4
  have p5 : w2.cell? ⟨w.heap.size + 1, 5, none⟩ = some (.int .i64 x5) := kp.cell 5
  have p6 : w2.cell? ⟨w.heap.size + 1, 6, none⟩ = some (.int .i64 x6) := kp.cell 6
  have p7 : w2.cell? ⟨w.heap.size + 1, 7, none⟩ = some (.bool t1) := kp.cell 7
  have p8 : w2.cell? ⟨w.heap.size + 1, 8, none⟩ = some (.bool t2) := kp.cell 8
  have p9 : w2.cell? ⟨w.heap.size + 1, 9, none⟩ = some (.bool t3) := kp.cell 9
  have p10 : w2.cell? ⟨w.heap.size + 1, 10, none⟩ = some (.int .u8 ph) := kp.cell 10
  have p11 : w2.cell? ⟨w.heap.size + 1, 11, none⟩ = some (.int .i64 tt) := kp.cell 11
  have p12 : w2.cell? ⟨w.heap.size + 1, 12, none⟩ = some (.int .i64 si) := kp.cell 12
  have m0 : w2.cell? ⟨w.heap.size + 1 + 1, 0, none⟩ = some (.int .i64 0) := kr.cell 0
  have n0 : w2.frozen? ⟨w.heap.size + 1 + 1, 0, none⟩ = false := kr.frozen 0
  have m1 : w2.cell? ⟨w.heap.size + 1 + 1, 1, none⟩ = some (.int .i64 0) := kr.cell 1
  have n1 : w2.frozen? ⟨w.heap.size + 1 + 1, 1, none⟩ = false := kr.frozen 1
  have m2 : w2.cell? ⟨w.heap.size + 1 + 1, 2, none⟩ = some (.int .i64 0) := kr.cell 2
  have n2 : w2.frozen? ⟨w.heap.size + 1 + 1, 2, none⟩ = false := kr.frozen 2
  have m3 : w2.cell? ⟨w.heap.size + 1 + 1, 3, none⟩ = some (.int .i64 0) := kr.cell 3
  have n3 : w2.frozen? ⟨w.heap.size + 1 + 1, 3, none⟩ = false := kr.frozen 3
  have m4 : w2.cell? ⟨w.heap.size + 1 + 1, 4, none⟩ = some (.int .i64 0) := kr.cell 4
  have n4 : w2.frozen? ⟨w.heap.size + 1 + 1, 4, none⟩ = false := kr.frozen 4
  have m5 : w2.cell? ⟨w.heap.size + 1 + 1, 5, none⟩ = some (.int .i64 0) := kr.cell 5
  have n5 : w2.frozen? ⟨w.heap.size + 1 + 1, 5, none⟩ = false := kr.frozen 5
  have m6 : w2.cell? ⟨w.heap.size + 1 + 1, 6, none⟩ = some (.int .i64 0) := kr.cell 6
  have n6 : w2.frozen? ⟨w.heap.size + 1 + 1, 6, none⟩ = false := kr.frozen 6
  have m7 : w2.cell? ⟨w.heap.size + 1 + 1, 7, none⟩ = some (.bool false) := kr.cell 7
  have n7 : w2.frozen? ⟨w.heap.size + 1 + 1, 7, none⟩ = false := kr.frozen 7
  have m8 : w2.cell? ⟨w.heap.size + 1 + 1, 8, none⟩ = some (.bool false) := kr.cell 8
  have n8 : w2.frozen? ⟨w.heap.size + 1 + 1, 8, none⟩ = false := kr.frozen 8
  have m9 : w2.cell? ⟨w.heap.size + 1 + 1, 9, none⟩ = some (.bool false) := kr.cell 9
  have n9 : w2.frozen? ⟨w.heap.size + 1 + 1, 9, none⟩ = false := kr.frozen 9
  have m10 : w2.cell? ⟨w.heap.size + 1 + 1, 10, none⟩ = some (.int .u8 0) := kr.cell 10
  have n10 : w2.frozen? ⟨w.heap.size + 1 + 1, 10, none⟩ = false := kr.frozen 10
  have m11 : w2.cell? ⟨w.heap.size + 1 + 1, 11, none⟩ = some (.int .i64 0) := kr.cell 11
  have n11 : w2.frozen? ⟨w.heap.size + 1 + 1, 11, none⟩ = false := kr.frozen 11
  have m12 : w2.cell? ⟨w.heap.size + 1 + 1, 12, none⟩ = some (.int .i64 0) := kr.cell 12
  have n12 : w2.frozen? ⟨w.heap.size + 1 + 1, 12, none⟩ = false := kr.frozen 12
  have hz2 : w.heap.size + 1 + 1 < w2.heap.size := kr.lt
  clear kd kp kr
  go_wp2_with fail
  refine (in_to _ _ _ _ HhN.out _).mono ?_
  rintro e w' ⟨rfl, rfl⟩
  go_wp2_with fail
  refine (HhT.out _).mono ?_
  rintro e w3 ⟨rfl, hB3⟩
  have HB3 := Lib.hid (below_up HB2.out hB3)
  have kd := KK2.out.1.below hB3 (cell_lt d0)
  have kp := KK2.out.2.1.below hB3 (cell_lt p0)
  have kr := KK2.out.2.2.below hB3 (cell_lt m0)
  have KK3 := Lib.hid (And.intro kd (And.intro kp kr))
  clear hB3 d0 d1 d2 d3 d4 d5 d6 d7 p0 p1 p2 p3 p4 p5 p6 p7 p8 p9 p10 p11 p12 m0 n0 m1 n1 m2 n2 m3 n3 m4 n4 m5 n5 m6 n6 m7 n7 m8 n8 m9 n9 m10 n10 m11 n11 m12 n12
  have d0 : w3.cell? ⟨w.heap.size, 0, none⟩ = some (.int .i64 a) := kd.cell 0
  have d1 : w3.cell? ⟨w.heap.size, 1, none⟩ = some (.int .i64 b) := kd.cell 1
  have d2 : w3.cell? ⟨w.heap.size, 2, none⟩ = some (.int .i64 c) := kd.cell 2
  have d3 : w3.cell? ⟨w.heap.size, 3, none⟩ = some (.int .i64 bo) := kd.cell 3
  have d4 : w3.cell? ⟨w.heap.size, 4, none⟩ = some (.int .i64 fr) := kd.cell 4
  have d5 : w3.cell? ⟨w.heap.size, 5, none⟩ = some (.int .i64 tr) := kd.cell 5
  have d6 : w3.cell? ⟨w.heap.size, 6, none⟩ = some (.int .i64 ag) := kd.cell 6
  have d7 : w3.cell? ⟨w.heap.size, 7, none⟩ = some (.slice X ks.length cp) := kd.cell 7
  have p0 : w3.cell? ⟨w.heap.size + 1, 0, none⟩ = some (.int .i64 job) := kp.cell 0
  have p1 : w3.cell? ⟨w.heap.size + 1, 1, none⟩ = some (.int .i64 x1) := kp.cell 1
  have p2 : w3.cell? ⟨w.heap.size + 1, 2, none⟩ = some (.int .i64 x2) := kp.cell 2
  have p3 : w3.cell? ⟨w.heap.size + 1, 3, none⟩ = some (.int .i64 x3) := kp.cell 3
  have p4 : w3.cell? ⟨w.heap.size + 1, 4, none⟩ = some (.int .i64 x4) := kp.cell 4
  have p5 : w3.cell? ⟨w.heap.size + 1, 5, none⟩ = some (.int .i64 x5) := kp.cell 5
  have p6 : w3.cell? ⟨w.heap.size + 1, 6, none⟩ = some (.int .i64 x6) := kp.cell 6
  have p7 : w3.cell? ⟨w.heap.size + 1, 7, none⟩ = some (.bool t1) := kp.cell 7
  have p8 : w3.cell? ⟨w.heap.size + 1, 8, none⟩ = some (.bool t2) := kp.cell 8
  have p9 : w3.cell? ⟨w.heap.size + 1, 9, none⟩ = some (.bool t3) := kp.cell 9
  have p10 : w3.cell? ⟨w.heap.size + 1, 10, none⟩ = some (.int .u8 ph) := kp.cell 10
  have p11 : w3.cell? ⟨w.heap.size + 1, 11, none⟩ = some (.int .i64 tt) := kp.cell 11
  have p12 : w3.cell? ⟨w.heap.size + 1, 12, none⟩ = some (.int .i64 si) := kp.cell 12
  have m0 : w3.cell? ⟨w.heap.size + 1 + 1, 0, none⟩ = some (.int .i64 0) := kr.cell 0
  have n0 : w3.frozen? ⟨w.heap.size + 1 + 1, 0, none⟩ = false := kr.frozen 0
  have m1 : w3.cell? ⟨w.heap.size + 1 + 1, 1, none⟩ = some (.int .i64 0) := kr.cell 1
  have n1 : w3.frozen? ⟨w.heap.size + 1 + 1, 1, none⟩ = false := kr.frozen 1
  have m2 : w3.cell? ⟨w.heap.size + 1 + 1, 2, none⟩ = some (.int .i64 0) := kr.cell 2
  have n2 : w3.frozen? ⟨w.heap.size + 1 + 1, 2, none⟩ = false := kr.frozen 2
  have m3 : w3.cell? ⟨w.heap.size + 1 + 1, 3, none⟩ = some (.int .i64 0) := kr.cell 3
  have n3 : w3.frozen? ⟨w.heap.size + 1 + 1, 3, none⟩ = false := kr.frozen 3
  have m4 : w3.cell? ⟨w.heap.size + 1 + 1, 4, none⟩ = some (.int .i64 0) := kr.cell 4
  have n4 : w3.frozen? ⟨w.heap.size + 1 + 1, 4, none⟩ = false := kr.frozen 4
  have m5 : w3.cell? ⟨w.heap.size + 1 + 1, 5, none⟩ = some (.int .i64 0) := kr.cell 5
  have n5 : w3.frozen? ⟨w.heap.size + 1 + 1, 5, none⟩ = false := kr.frozen 5
  have m6 : w3.cell? ⟨w.heap.size + 1 + 1, 6, none⟩ = some (.int .i64 0) := kr.cell 6
  have n6 : w3.frozen? ⟨w.heap.size + 1 + 1, 6, none⟩ = false := kr.frozen 6
  have m7 : w3.cell? ⟨w.heap.size + 1 + 1, 7, none⟩ = some (.bool false) := kr.cell 7
  have n7 : w3.frozen? ⟨w.heap.size + 1 + 1, 7, none⟩ = false := kr.frozen 7
  have m8 : w3.cell? ⟨w.heap.size + 1 + 1, 8, none⟩ = some (.bool false) := kr.cell 8
  have n8 : w3.frozen? ⟨w.heap.size + 1 + 1, 8, none⟩ = false := kr.frozen 8
  have m9 : w3.cell? ⟨w.heap.size + 1 + 1, 9, none⟩ = some (.bool false) := kr.cell 9
  have n9 : w3.frozen? ⟨w.heap.size + 1 + 1, 9, none⟩ = false := kr.frozen 9
  have m10 : w3.cell? ⟨w.heap.size + 1 + 1, 10, none⟩ = some (.int .u8 0) := kr.cell 10
  have n10 : w3.frozen? ⟨w.heap.size + 1 + 1, 10, none⟩ = false := kr.frozen 10
  have m11 : w3.cell? ⟨w.heap.size + 1 + 1, 11, none⟩ = some (.int .i64 0) := kr.cell 11
  have n11 : w3.frozen? ⟨w.heap.size + 1 + 1, 11, none⟩ = false := kr.frozen 11
  have m12 : w3.cell? ⟨w.heap.size + 1 + 1, 12, none⟩ = some (.int .i64 0) := kr.cell 12
  have n12 : w3.frozen? ⟨w.heap.size + 1 + 1, 12, none⟩ = false := kr.frozen 12
  have hz3 : w.heap.size + 1 + 1 < w3.heap.size := kr.lt
  clear kd kp kr
  go_wp2_with fail
  have hs13 := store13 (w := w) (g := w.heap.size + 1 + 1) HB3.out (by omega) KK3.out.2.2 (.int .i64 job_) (.int .i64 x1_) (.int .i64 x2_) (.int .i64 x3_) (.int .i64 x4_) (.int .i64 x5_) (.int .i64 x6_) (.bool t1_) (.bool t2_) (.bool t3_) (.int .u8 ph_) (.int .i64 tt_) (.int .i64 si_)
  refine bodyPost_ret (v := .tuple #[.agg #[.int .i64 job_, .int .i64 x1_, .int .i64 x2_, .int .i64 x3_, .int .i64 x4_, .int .i64 x5_, .int .i64 x6_, .bool t1_, .bool t2_, .bool t3_, .int .u8 ph_, .int .i64 tt_, .int .i64 si_], .int .u8 nj, .bool ng, .int .i64 0]) ?_ rfl ?_
  · exact res_rnext _ _ (w.heap.size + 1 + 1) (.int .i64 job_) (.int .i64 x1_) (.int .i64 x2_) (.int .i64 x3_) (.int .i64 x4_) (.int .i64 x5_) (.int .i64 x6_) (.bool t1_) (.bool t2_) (.bool t3_) (.int .u8 ph_) (.int .i64 tt_) (.int .i64 si_) (.int .u8 nj) (.bool ng) (.int .i64 0) rfl rfl rfl rfl (hs13.2.alloc _)
  · exact ⟨rfl, below_alloc hs13.1⟩
theorem rends_any (a b c bo fr tr ag : Int) (X : Option Addr) (cp : Nat) (ks : List Cls) (hl : ks.length ≤ 9223372036854775807) (p : PV) (wall : Int) (w : World) (hk : ClsAt w w.heap.size X ks) :
    Calls Try.prog 15 #[.agg #[.int .i64 a, .int .i64 b, .int .i64 c, .int .i64 bo, .int .i64 fr, .int .i64 tr, .int .i64 ag, .slice X ks.length cp], .agg p.arr, .int .i64 wall] w (fun e w' => e = .returned (.tuple #[.int .i64 (endsV a b c bo fr tr ag ks p wall).1, .int .i64 (endsV a b c bo fr tr ag ks p wall).2]) ∧ Below w.heap.size w w') := by
  obtain ⟨job, x1, x2, x3, x4, x5, x6, t1, t2, t3, ph, tt, si⟩ := p
  by_cases h0 : CfgOk a b c bo fr tr ag ks
  · by_cases hp : PartOk job ph tt si tr
    · by_cases hW : inB wall 1 1048576 = true
      · have ev : endsV a b c bo fr tr ag ks ⟨job, x1, x2, x3, x4, x5, x6, t1, t2, t3, ph, tt, si⟩ wall = (capM (si + leftR ph bo wall fr), 0) := by
          unfold endsV; rw [if_pos ⟨h0, hp⟩, if_pos hW]
        rw [ev]
        have hph : ph = 1 ∨ ph = 2 ∨ ph = 3 := by
          have := hp.2.1; omega
        rcases hph with rfl | rfl | rfl
        · exact rends1 a b c bo fr tr ag X cp ks hl job x1 x2 x3 x4 x5 x6 t1 t2 t3 tt si wall h0 hp hW w hk
        · exact rends2 a b c bo fr tr ag X cp ks hl job x1 x2 x3 x4 x5 x6 t1 t2 t3 tt si wall h0 hp hW w hk
        · exact rends3 a b c bo fr tr ag X cp ks hl job x1 x2 x3 x4 x5 x6 t1 t2 t3 tt si wall h0 hp hW w hk
      · have ev : endsV a b c bo fr tr ag ks ⟨job, x1, x2, x3, x4, x5, x6, t1, t2, t3, ph, tt, si⟩ wall = (0, 2) := by
          unfold endsV; rw [if_pos ⟨h0, hp⟩, if_neg hW]
        rw [ev]
        exact rends_wall a b c bo fr tr ag X cp ks hl job x1 x2 x3 x4 x5 x6 t1 t2 t3 ph tt si wall h0 hp (by simpa using hW) w hk
    · have ev : endsV a b c bo fr tr ag ks ⟨job, x1, x2, x3, x4, x5, x6, t1, t2, t3, ph, tt, si⟩ wall = (0, 8) := by
        unfold endsV; rw [if_neg (fun h => hp h.2)]
      rw [ev]
      exact rends_part a b c bo fr tr ag X cp ks hl job x1 x2 x3 x4 x5 x6 t1 t2 t3 ph tt si wall h0 hp w hk
  · have ev : endsV a b c bo fr tr ag ks ⟨job, x1, x2, x3, x4, x5, x6, t1, t2, t3, ph, tt, si⟩ wall = (0, 8) := by
      unfold endsV; rw [if_neg (fun h => h0 h.1)]
    rw [ev]
    exact rends_cfg a b c bo fr tr ag X cp ks hl job x1 x2 x3 x4 x5 x6 t1 t2 t3 ph tt si wall h0 w hk
theorem rturns_any (a b c bo fr tr ag : Int) (X : Option Addr) (cp : Nat) (ks : List Cls) (hl : ks.length ≤ 9223372036854775807) (p : PV) (wall : Int) (w : World) (hk : ClsAt w w.heap.size X ks) :
    Calls Try.prog 17 #[.agg #[.int .i64 a, .int .i64 b, .int .i64 c, .int .i64 bo, .int .i64 fr, .int .i64 tr, .int .i64 ag, .slice X ks.length cp], .agg p.arr, .int .i64 wall] w (fun e w' => e = .returned (.tuple #[.int .i64 (turnsV a b c bo fr tr ag ks p wall).1, .int .i64 (turnsV a b c bo fr tr ag ks p wall).2]) ∧ Below w.heap.size w w') := by
  obtain ⟨job, x1, x2, x3, x4, x5, x6, t1, t2, t3, ph, tt, si⟩ := p
  by_cases h0 : CfgOk a b c bo fr tr ag ks
  · by_cases hp : PartOk job ph tt si tr
    · by_cases hW : inB wall 1 1048576 = true
      · have ev : turnsV a b c bo fr tr ag ks ⟨job, x1, x2, x3, x4, x5, x6, t1, t2, t3, ph, tt, si⟩ wall = (capM (si + clockR ph bo wall fr), 0) := by
          unfold turnsV; rw [if_pos ⟨h0, hp⟩, if_pos hW]
        rw [ev]
        have hph : ph = 1 ∨ ph = 2 ∨ ph = 3 := by
          have := hp.2.1; omega
        rcases hph with rfl | rfl | rfl
        · exact rturns1 a b c bo fr tr ag X cp ks hl job x1 x2 x3 x4 x5 x6 t1 t2 t3 tt si wall h0 hp hW w hk
        · exact rturns2 a b c bo fr tr ag X cp ks hl job x1 x2 x3 x4 x5 x6 t1 t2 t3 tt si wall h0 hp hW w hk
        · exact rturns3 a b c bo fr tr ag X cp ks hl job x1 x2 x3 x4 x5 x6 t1 t2 t3 tt si wall h0 hp hW w hk
      · have ev : turnsV a b c bo fr tr ag ks ⟨job, x1, x2, x3, x4, x5, x6, t1, t2, t3, ph, tt, si⟩ wall = (0, 2) := by
          unfold turnsV; rw [if_pos ⟨h0, hp⟩, if_neg hW]
        rw [ev]
        exact rturns_wall a b c bo fr tr ag X cp ks hl job x1 x2 x3 x4 x5 x6 t1 t2 t3 ph tt si wall h0 hp (by simpa using hW) w hk
    · have ev : turnsV a b c bo fr tr ag ks ⟨job, x1, x2, x3, x4, x5, x6, t1, t2, t3, ph, tt, si⟩ wall = (0, 8) := by
        unfold turnsV; rw [if_neg (fun h => hp h.2)]
      rw [ev]
      exact rturns_part a b c bo fr tr ag X cp ks hl job x1 x2 x3 x4 x5 x6 t1 t2 t3 ph tt si wall h0 hp w hk
  · have ev : turnsV a b c bo fr tr ag ks ⟨job, x1, x2, x3, x4, x5, x6, t1, t2, t3, ph, tt, si⟩ wall = (0, 8) := by
      unfold turnsV; rw [if_neg (fun h => h0 h.1)]
    rw [ev]
    exact rturns_cfg a b c bo fr tr ag X cp ks hl job x1 x2 x3 x4 x5 x6 t1 t2 t3 ph tt si wall h0 w hk
theorem rnxt1 (a b c bo fr tr ag : Int) (X : Option Addr) (cp : Nat) (ks : List Cls) (hl : ks.length ≤ 9223372036854775807) (job x1 x2 x3 x4 x5 x6 : Int) (t1 t2 t3 : Bool) (tt si : Int) (turn now : Int) (h0 : CfgOk a b c bo fr tr ag ks) (hp : PartOk job 1 tt si tr) (h1 : 1 ≤ turn) (h8 : turn ≤ 8) (hN : inB now si 1099511627776 = true) (w : World) (hk : ClsAt w w.heap.size X ks) :
    Calls Try.prog 18 #[.agg #[.int .i64 a, .int .i64 b, .int .i64 c, .int .i64 bo, .int .i64 fr, .int .i64 tr, .int .i64 ag, .slice X ks.length cp], .agg (PV.mk job x1 x2 x3 x4 x5 x6 t1 t2 t3 1 tt si).arr, .int .u8 turn, .int .i64 now] w (fun e w' => e = .returned (.tuple #[.agg (nextV tr ⟨job, x1, x2, x3, x4, x5, x6, t1, t2, t3, 1, tt, si⟩ turn now).1.arr, .int .u8 (nextV tr ⟨job, x1, x2, x3, x4, x5, x6, t1, t2, t3, 1, tt, si⟩ turn now).2.1, .bool (nextV tr ⟨job, x1, x2, x3, x4, x5, x6, t1, t2, t3, 1, tt, si⟩ turn now).2.2.1, .int .i64 (nextV tr ⟨job, x1, x2, x3, x4, x5, x6, t1, t2, t3, 1, tt, si⟩ turn now).2.2.2]) ∧ Below w.heap.size w w') := by
  have ht8 : turn = 1 ∨ turn = 2 ∨ turn = 3 ∨ turn = 4 ∨ turn = 5 ∨ turn = 6 ∨ turn = 7 ∨ turn = 8 := by omega
  have btt := inB_true hp.2.2.1
  have btr := inB_true h0.2.2.2.1
  have tu := fun w : World => w
  rcases ht8 with rfl | rfl | rfl | rfl | rfl | rfl | rfl | rfl
  · have ev : nextV tr ⟨job, x1, x2, x3, x4, x5, x6, t1, t2, t3, 1, tt, si⟩ 1 now = (⟨job, x1, x2, x3, x4, x5, x6, t1, t2, t3, 2, tt, now⟩, 0, false, 0) := by
      simp [nextV, hN]
    rw [ev]
    exact rn_is a b c bo fr tr ag X cp ks hl job x1 x2 x3 x4 x5 x6 t1 t2 t3 1 tt si 1 now h0 hp (by decide) (by decide) hN job x1 x2 x3 x4 x5 x6 t1 t2 t3 2 tt now 0 false (fun w => tu_11 a b c bo fr tr ag X cp ks job x1 x2 x3 x4 x5 x6 t1 t2 t3 tt si now w) w hk
  · by_cases ht : tt < tr
    · have ev : nextV tr ⟨job, x1, x2, x3, x4, x5, x6, t1, t2, t3, 1, tt, si⟩ 2 now = (⟨job, x1, x2, x3, x4, x5, x6, t1, t2, t3, 1, tt + 1, now⟩, 0, false, 0) := by
        simp [nextV, hN, ht]
      rw [ev]
      exact rn_is a b c bo fr tr ag X cp ks hl job x1 x2 x3 x4 x5 x6 t1 t2 t3 1 tt si 2 now h0 hp (by decide) (by decide) hN job x1 x2 x3 x4 x5 x6 t1 t2 t3 1 (tt + 1) now 0 false (fun w => tu_12n a b c bo fr tr ag X cp ks job x1 x2 x3 x4 x5 x6 t1 t2 t3 tt si now (by omega) (by omega) (by omega) w) w hk
    · obtain rfl : tt = tr := by omega
      have ev : nextV tt ⟨job, x1, x2, x3, x4, x5, x6, t1, t2, t3, 1, tt, si⟩ 2 now = (⟨job, x1, x2, x3, x4, x5, x6, t1, t2, t3, 3, tt, now⟩, 6, false, 0) := by
        simp [nextV, hN, ht]
      rw [ev]
      exact rn_is a b c bo fr tt ag X cp ks hl job x1 x2 x3 x4 x5 x6 t1 t2 t3 1 tt si 2 now h0 hp (by decide) (by decide) hN job x1 x2 x3 x4 x5 x6 t1 t2 t3 3 tt now 6 false (fun w => tu_12e a b c bo fr ag X cp ks job x1 x2 x3 x4 x5 x6 t1 t2 t3 tt si now w) w hk
  · have ev : nextV tr ⟨job, x1, x2, x3, x4, x5, x6, t1, t2, t3, 1, tt, si⟩ 3 now = (PV.zero, 0, false, 250) := by
      simp [nextV, hN]
    rw [ev]
    exact rn_not a b c bo fr tr ag X cp ks hl job x1 x2 x3 x4 x5 x6 t1 t2 t3 1 tt si 3 now h0 hp (by decide) (by decide) hN job x1 x2 x3 x4 x5 x6 t1 t2 t3 3 tt now 3 false (fun w => tu_13 a b c bo fr tr ag X cp ks job x1 x2 x3 x4 x5 x6 t1 t2 t3 tt si now w) w hk
  · have ev : nextV tr ⟨job, x1, x2, x3, x4, x5, x6, t1, t2, t3, 1, tt, si⟩ 4 now = (PV.zero, 0, false, 250) := by
      simp [nextV, hN]
    rw [ev]
    exact rn_not a b c bo fr tr ag X cp ks hl job x1 x2 x3 x4 x5 x6 t1 t2 t3 1 tt si 4 now h0 hp (by decide) (by decide) hN job x1 x2 x3 x4 x5 x6 t1 t2 t3 3 tt now 6 false (fun w => tu_14 a b c bo fr tr ag X cp ks job x1 x2 x3 x4 x5 x6 t1 t2 t3 tt si now w) w hk
  · have ev : nextV tr ⟨job, x1, x2, x3, x4, x5, x6, t1, t2, t3, 1, tt, si⟩ 5 now = (PV.zero, 0, false, 250) := by
      simp [nextV, hN]
    rw [ev]
    exact rn_not a b c bo fr tr ag X cp ks hl job x1 x2 x3 x4 x5 x6 t1 t2 t3 1 tt si 5 now h0 hp (by decide) (by decide) hN job x1 x2 x3 x4 x5 x6 t1 t2 t3 3 tt now 4 false (fun w => tu_15 a b c bo fr tr ag X cp ks job x1 x2 x3 x4 x5 x6 t1 t2 t3 tt si now w) w hk
  · have ev : nextV tr ⟨job, x1, x2, x3, x4, x5, x6, t1, t2, t3, 1, tt, si⟩ 6 now = (⟨job, x1, x2, x3, x4, x5, x6, t1, t2, t3, 3, tt, now⟩, 5, false, 0) := by
      simp [nextV, hN]
    rw [ev]
    exact rn_is a b c bo fr tr ag X cp ks hl job x1 x2 x3 x4 x5 x6 t1 t2 t3 1 tt si 6 now h0 hp (by decide) (by decide) hN job x1 x2 x3 x4 x5 x6 t1 t2 t3 3 tt now 5 false (fun w => tu_16 a b c bo fr tr ag X cp ks job x1 x2 x3 x4 x5 x6 t1 t2 t3 tt si now w) w hk
  · have ev : nextV tr ⟨job, x1, x2, x3, x4, x5, x6, t1, t2, t3, 1, tt, si⟩ 7 now = (⟨job, x1, x2, x3, x4, x5, x6, t1, t2, t3, 3, tt, now⟩, 6, false, 0) := by
      simp [nextV, hN]
    rw [ev]
    exact rn_is a b c bo fr tr ag X cp ks hl job x1 x2 x3 x4 x5 x6 t1 t2 t3 1 tt si 7 now h0 hp (by decide) (by decide) hN job x1 x2 x3 x4 x5 x6 t1 t2 t3 3 tt now 6 false (fun w => tu_17 a b c bo fr tr ag X cp ks job x1 x2 x3 x4 x5 x6 t1 t2 t3 tt si now w) w hk
  · have ev : nextV tr ⟨job, x1, x2, x3, x4, x5, x6, t1, t2, t3, 1, tt, si⟩ 8 now = (PV.zero, 0, false, 250) := by
      simp [nextV, hN]
    rw [ev]
    exact rn_not a b c bo fr tr ag X cp ks hl job x1 x2 x3 x4 x5 x6 t1 t2 t3 1 tt si 8 now h0 hp (by decide) (by decide) hN 0 0 0 0 0 0 0 false false false 0 0 0 0 false (fun w => tu_18 a b c bo fr tr ag X cp ks job x1 x2 x3 x4 x5 x6 t1 t2 t3 tt si now w) w hk
theorem rnxt2 (a b c bo fr tr ag : Int) (X : Option Addr) (cp : Nat) (ks : List Cls) (hl : ks.length ≤ 9223372036854775807) (job x1 x2 x3 x4 x5 x6 : Int) (t1 t2 t3 : Bool) (tt si : Int) (turn now : Int) (h0 : CfgOk a b c bo fr tr ag ks) (hp : PartOk job 2 tt si tr) (h1 : 1 ≤ turn) (h8 : turn ≤ 8) (hN : inB now si 1099511627776 = true) (w : World) (hk : ClsAt w w.heap.size X ks) :
    Calls Try.prog 18 #[.agg #[.int .i64 a, .int .i64 b, .int .i64 c, .int .i64 bo, .int .i64 fr, .int .i64 tr, .int .i64 ag, .slice X ks.length cp], .agg (PV.mk job x1 x2 x3 x4 x5 x6 t1 t2 t3 2 tt si).arr, .int .u8 turn, .int .i64 now] w (fun e w' => e = .returned (.tuple #[.agg (nextV tr ⟨job, x1, x2, x3, x4, x5, x6, t1, t2, t3, 2, tt, si⟩ turn now).1.arr, .int .u8 (nextV tr ⟨job, x1, x2, x3, x4, x5, x6, t1, t2, t3, 2, tt, si⟩ turn now).2.1, .bool (nextV tr ⟨job, x1, x2, x3, x4, x5, x6, t1, t2, t3, 2, tt, si⟩ turn now).2.2.1, .int .i64 (nextV tr ⟨job, x1, x2, x3, x4, x5, x6, t1, t2, t3, 2, tt, si⟩ turn now).2.2.2]) ∧ Below w.heap.size w w') := by
  have ht8 : turn = 1 ∨ turn = 2 ∨ turn = 3 ∨ turn = 4 ∨ turn = 5 ∨ turn = 6 ∨ turn = 7 ∨ turn = 8 := by omega
  have btt := inB_true hp.2.2.1
  have btr := inB_true h0.2.2.2.1
  have tu := fun w : World => w
  rcases ht8 with rfl | rfl | rfl | rfl | rfl | rfl | rfl | rfl
  · have ev : nextV tr ⟨job, x1, x2, x3, x4, x5, x6, t1, t2, t3, 2, tt, si⟩ 1 now = (PV.zero, 0, false, 250) := by
      simp [nextV, hN]
    rw [ev]
    exact rn_not a b c bo fr tr ag X cp ks hl job x1 x2 x3 x4 x5 x6 t1 t2 t3 2 tt si 1 now h0 hp (by decide) (by decide) hN job x1 x2 x3 x4 x5 x6 t1 t2 t3 2 tt now 0 false (fun w => tu_21 a b c bo fr tr ag X cp ks job x1 x2 x3 x4 x5 x6 t1 t2 t3 tt si now w) w hk
  · have ev : nextV tr ⟨job, x1, x2, x3, x4, x5, x6, t1, t2, t3, 2, tt, si⟩ 2 now = (PV.zero, 0, false, 250) := by
      simp [nextV, hN]
    rw [ev]
    by_cases ht : tt = tr
    · exact rn_not a b c bo fr tr ag X cp ks hl job x1 x2 x3 x4 x5 x6 t1 t2 t3 2 tt si 2 now h0 hp (by decide) (by decide) hN job x1 x2 x3 x4 x5 x6 t1 t2 t3 3 tt now 6 false (fun w => by subst ht; exact tu_22e a b c bo fr ag X cp ks job x1 x2 x3 x4 x5 x6 t1 t2 t3 tt si now w) w hk
    · exact rn_not a b c bo fr tr ag X cp ks hl job x1 x2 x3 x4 x5 x6 t1 t2 t3 2 tt si 2 now h0 hp (by decide) (by decide) hN job x1 x2 x3 x4 x5 x6 t1 t2 t3 2 (tt + 1) now 0 false (fun w => tu_22n a b c bo fr tr ag X cp ks job x1 x2 x3 x4 x5 x6 t1 t2 t3 tt si now ht (by omega) (by omega) w) w hk
  · have ev : nextV tr ⟨job, x1, x2, x3, x4, x5, x6, t1, t2, t3, 2, tt, si⟩ 3 now = (⟨job, x1, x2, x3, x4, x5, x6, t1, t2, t3, 3, tt, now⟩, 3, false, 0) := by
      simp [nextV, hN]
    rw [ev]
    exact rn_is a b c bo fr tr ag X cp ks hl job x1 x2 x3 x4 x5 x6 t1 t2 t3 2 tt si 3 now h0 hp (by decide) (by decide) hN job x1 x2 x3 x4 x5 x6 t1 t2 t3 3 tt now 3 false (fun w => tu_23 a b c bo fr tr ag X cp ks job x1 x2 x3 x4 x5 x6 t1 t2 t3 tt si now w) w hk
  · have ev : nextV tr ⟨job, x1, x2, x3, x4, x5, x6, t1, t2, t3, 2, tt, si⟩ 4 now = (⟨job, x1, x2, x3, x4, x5, x6, t1, t2, t3, 3, tt, now⟩, 6, false, 0) := by
      simp [nextV, hN]
    rw [ev]
    exact rn_is a b c bo fr tr ag X cp ks hl job x1 x2 x3 x4 x5 x6 t1 t2 t3 2 tt si 4 now h0 hp (by decide) (by decide) hN job x1 x2 x3 x4 x5 x6 t1 t2 t3 3 tt now 6 false (fun w => tu_24 a b c bo fr tr ag X cp ks job x1 x2 x3 x4 x5 x6 t1 t2 t3 tt si now w) w hk
  · have ev : nextV tr ⟨job, x1, x2, x3, x4, x5, x6, t1, t2, t3, 2, tt, si⟩ 5 now = (⟨job, x1, x2, x3, x4, x5, x6, t1, t2, t3, 3, tt, now⟩, 4, false, 0) := by
      simp [nextV, hN]
    rw [ev]
    exact rn_is a b c bo fr tr ag X cp ks hl job x1 x2 x3 x4 x5 x6 t1 t2 t3 2 tt si 5 now h0 hp (by decide) (by decide) hN job x1 x2 x3 x4 x5 x6 t1 t2 t3 3 tt now 4 false (fun w => tu_25 a b c bo fr tr ag X cp ks job x1 x2 x3 x4 x5 x6 t1 t2 t3 tt si now w) w hk
  · have ev : nextV tr ⟨job, x1, x2, x3, x4, x5, x6, t1, t2, t3, 2, tt, si⟩ 6 now = (⟨job, x1, x2, x3, x4, x5, x6, t1, t2, t3, 3, tt, now⟩, 5, false, 0) := by
      simp [nextV, hN]
    rw [ev]
    exact rn_is a b c bo fr tr ag X cp ks hl job x1 x2 x3 x4 x5 x6 t1 t2 t3 2 tt si 6 now h0 hp (by decide) (by decide) hN job x1 x2 x3 x4 x5 x6 t1 t2 t3 3 tt now 5 false (fun w => tu_26 a b c bo fr tr ag X cp ks job x1 x2 x3 x4 x5 x6 t1 t2 t3 tt si now w) w hk
  · have ev : nextV tr ⟨job, x1, x2, x3, x4, x5, x6, t1, t2, t3, 2, tt, si⟩ 7 now = (⟨job, x1, x2, x3, x4, x5, x6, t1, t2, t3, 3, tt, now⟩, 6, false, 0) := by
      simp [nextV, hN]
    rw [ev]
    exact rn_is a b c bo fr tr ag X cp ks hl job x1 x2 x3 x4 x5 x6 t1 t2 t3 2 tt si 7 now h0 hp (by decide) (by decide) hN job x1 x2 x3 x4 x5 x6 t1 t2 t3 3 tt now 6 false (fun w => tu_27 a b c bo fr tr ag X cp ks job x1 x2 x3 x4 x5 x6 t1 t2 t3 tt si now w) w hk
  · have ev : nextV tr ⟨job, x1, x2, x3, x4, x5, x6, t1, t2, t3, 2, tt, si⟩ 8 now = (PV.zero, 0, false, 250) := by
      simp [nextV, hN]
    rw [ev]
    exact rn_not a b c bo fr tr ag X cp ks hl job x1 x2 x3 x4 x5 x6 t1 t2 t3 2 tt si 8 now h0 hp (by decide) (by decide) hN 0 0 0 0 0 0 0 false false false 0 0 0 0 false (fun w => tu_28 a b c bo fr tr ag X cp ks job x1 x2 x3 x4 x5 x6 t1 t2 t3 tt si now w) w hk
theorem rnxt3 (a b c bo fr tr ag : Int) (X : Option Addr) (cp : Nat) (ks : List Cls) (hl : ks.length ≤ 9223372036854775807) (job x1 x2 x3 x4 x5 x6 : Int) (t1 t2 t3 : Bool) (tt si : Int) (turn now : Int) (h0 : CfgOk a b c bo fr tr ag ks) (hp : PartOk job 3 tt si tr) (h1 : 1 ≤ turn) (h8 : turn ≤ 8) (hN : inB now si 1099511627776 = true) (w : World) (hk : ClsAt w w.heap.size X ks) :
    Calls Try.prog 18 #[.agg #[.int .i64 a, .int .i64 b, .int .i64 c, .int .i64 bo, .int .i64 fr, .int .i64 tr, .int .i64 ag, .slice X ks.length cp], .agg (PV.mk job x1 x2 x3 x4 x5 x6 t1 t2 t3 3 tt si).arr, .int .u8 turn, .int .i64 now] w (fun e w' => e = .returned (.tuple #[.agg (nextV tr ⟨job, x1, x2, x3, x4, x5, x6, t1, t2, t3, 3, tt, si⟩ turn now).1.arr, .int .u8 (nextV tr ⟨job, x1, x2, x3, x4, x5, x6, t1, t2, t3, 3, tt, si⟩ turn now).2.1, .bool (nextV tr ⟨job, x1, x2, x3, x4, x5, x6, t1, t2, t3, 3, tt, si⟩ turn now).2.2.1, .int .i64 (nextV tr ⟨job, x1, x2, x3, x4, x5, x6, t1, t2, t3, 3, tt, si⟩ turn now).2.2.2]) ∧ Below w.heap.size w w') := by
  have ht8 : turn = 1 ∨ turn = 2 ∨ turn = 3 ∨ turn = 4 ∨ turn = 5 ∨ turn = 6 ∨ turn = 7 ∨ turn = 8 := by omega
  have btt := inB_true hp.2.2.1
  have btr := inB_true h0.2.2.2.1
  have tu := fun w : World => w
  rcases ht8 with rfl | rfl | rfl | rfl | rfl | rfl | rfl | rfl
  · have ev : nextV tr ⟨job, x1, x2, x3, x4, x5, x6, t1, t2, t3, 3, tt, si⟩ 1 now = (PV.zero, 0, false, 250) := by
      simp [nextV, hN]
    rw [ev]
    exact rn_not a b c bo fr tr ag X cp ks hl job x1 x2 x3 x4 x5 x6 t1 t2 t3 3 tt si 1 now h0 hp (by decide) (by decide) hN 0 0 0 0 0 0 0 false false false 0 0 0 0 false (fun w => tu_3x a b c bo fr tr ag X cp ks job x1 x2 x3 x4 x5 x6 t1 t2 t3 tt si 1 now (by decide) (by decide) w) w hk
  · have ev : nextV tr ⟨job, x1, x2, x3, x4, x5, x6, t1, t2, t3, 3, tt, si⟩ 2 now = (PV.zero, 0, false, 250) := by
      simp [nextV, hN]
    rw [ev]
    exact rn_not a b c bo fr tr ag X cp ks hl job x1 x2 x3 x4 x5 x6 t1 t2 t3 3 tt si 2 now h0 hp (by decide) (by decide) hN 0 0 0 0 0 0 0 false false false 0 0 0 0 false (fun w => tu_3x a b c bo fr tr ag X cp ks job x1 x2 x3 x4 x5 x6 t1 t2 t3 tt si 2 now (by decide) (by decide) w) w hk
  · have ev : nextV tr ⟨job, x1, x2, x3, x4, x5, x6, t1, t2, t3, 3, tt, si⟩ 3 now = (PV.zero, 0, false, 250) := by
      simp [nextV, hN]
    rw [ev]
    exact rn_not a b c bo fr tr ag X cp ks hl job x1 x2 x3 x4 x5 x6 t1 t2 t3 3 tt si 3 now h0 hp (by decide) (by decide) hN 0 0 0 0 0 0 0 false false false 0 0 0 0 false (fun w => tu_3x a b c bo fr tr ag X cp ks job x1 x2 x3 x4 x5 x6 t1 t2 t3 tt si 3 now (by decide) (by decide) w) w hk
  · have ev : nextV tr ⟨job, x1, x2, x3, x4, x5, x6, t1, t2, t3, 3, tt, si⟩ 4 now = (PV.zero, 0, false, 250) := by
      simp [nextV, hN]
    rw [ev]
    exact rn_not a b c bo fr tr ag X cp ks hl job x1 x2 x3 x4 x5 x6 t1 t2 t3 3 tt si 4 now h0 hp (by decide) (by decide) hN 0 0 0 0 0 0 0 false false false 0 0 0 0 false (fun w => tu_3x a b c bo fr tr ag X cp ks job x1 x2 x3 x4 x5 x6 t1 t2 t3 tt si 4 now (by decide) (by decide) w) w hk
  · have ev : nextV tr ⟨job, x1, x2, x3, x4, x5, x6, t1, t2, t3, 3, tt, si⟩ 5 now = (PV.zero, 0, false, 250) := by
      simp [nextV, hN]
    rw [ev]
    exact rn_not a b c bo fr tr ag X cp ks hl job x1 x2 x3 x4 x5 x6 t1 t2 t3 3 tt si 5 now h0 hp (by decide) (by decide) hN 0 0 0 0 0 0 0 false false false 0 0 0 0 false (fun w => tu_3x a b c bo fr tr ag X cp ks job x1 x2 x3 x4 x5 x6 t1 t2 t3 tt si 5 now (by decide) (by decide) w) w hk
  · have ev : nextV tr ⟨job, x1, x2, x3, x4, x5, x6, t1, t2, t3, 3, tt, si⟩ 6 now = (PV.zero, 0, false, 250) := by
      simp [nextV, hN]
    rw [ev]
    exact rn_not a b c bo fr tr ag X cp ks hl job x1 x2 x3 x4 x5 x6 t1 t2 t3 3 tt si 6 now h0 hp (by decide) (by decide) hN 0 0 0 0 0 0 0 false false false 0 0 0 0 false (fun w => tu_3x a b c bo fr tr ag X cp ks job x1 x2 x3 x4 x5 x6 t1 t2 t3 tt si 6 now (by decide) (by decide) w) w hk
  · have ev : nextV tr ⟨job, x1, x2, x3, x4, x5, x6, t1, t2, t3, 3, tt, si⟩ 7 now = (⟨job, x1, x2, x3, x4, x5, x6, t1, t2, t3, 3, tt, si⟩, 0, false, 0) := by
      simp [nextV, hN]
    rw [ev]
    exact rn_is a b c bo fr tr ag X cp ks hl job x1 x2 x3 x4 x5 x6 t1 t2 t3 3 tt si 7 now h0 hp (by decide) (by decide) hN job x1 x2 x3 x4 x5 x6 t1 t2 t3 3 tt si 0 false (fun w => tu_37 a b c bo fr tr ag X cp ks job x1 x2 x3 x4 x5 x6 t1 t2 t3 tt si now w) w hk
  · have ev : nextV tr ⟨job, x1, x2, x3, x4, x5, x6, t1, t2, t3, 3, tt, si⟩ 8 now = (PV.zero, 0, true, 0) := by
      simp [nextV, hN]
    rw [ev]
    exact rn_is a b c bo fr tr ag X cp ks hl job x1 x2 x3 x4 x5 x6 t1 t2 t3 3 tt si 8 now h0 hp (by decide) (by decide) hN 0 0 0 0 0 0 0 false false false 0 0 0 0 true (fun w => tu_38 a b c bo fr tr ag X cp ks job x1 x2 x3 x4 x5 x6 t1 t2 t3 tt si now w) w hk
theorem rnext_any (a b c bo fr tr ag : Int) (X : Option Addr) (cp : Nat) (ks : List Cls) (hl : ks.length ≤ 9223372036854775807) (p : PV) (turn now : Int) (w : World) (hk : ClsAt w w.heap.size X ks) :
    Calls Try.prog 18 #[.agg #[.int .i64 a, .int .i64 b, .int .i64 c, .int .i64 bo, .int .i64 fr, .int .i64 tr, .int .i64 ag, .slice X ks.length cp], .agg p.arr, .int .u8 turn, .int .i64 now] w (fun e w' => e = .returned (.tuple #[.agg (nextA a b c bo fr tr ag ks p turn now).1.arr, .int .u8 (nextA a b c bo fr tr ag ks p turn now).2.1, .bool (nextA a b c bo fr tr ag ks p turn now).2.2.1, .int .i64 (nextA a b c bo fr tr ag ks p turn now).2.2.2]) ∧ Below w.heap.size w w') := by
  obtain ⟨job, x1, x2, x3, x4, x5, x6, t1, t2, t3, ph, tt, si⟩ := p
  by_cases h0 : CfgOk a b c bo fr tr ag ks
  · by_cases hp : PartOk job ph tt si tr
    · have ev : nextA a b c bo fr tr ag ks ⟨job, x1, x2, x3, x4, x5, x6, t1, t2, t3, ph, tt, si⟩ turn now = nextV tr ⟨job, x1, x2, x3, x4, x5, x6, t1, t2, t3, ph, tt, si⟩ turn now := by unfold nextA; rw [if_pos ⟨h0, hp⟩]
      rw [ev]
      by_cases h1 : turn < 1
      · rw [show nextV tr ⟨job, x1, x2, x3, x4, x5, x6, t1, t2, t3, ph, tt, si⟩ turn now = (PV.zero, 0, false, 2) by unfold nextV; rw [if_pos (Or.inl h1)]]
        exact rn_lo a b c bo fr tr ag X cp ks hl job x1 x2 x3 x4 x5 x6 t1 t2 t3 ph tt si turn now h0 hp h1 w hk
      · by_cases h8 : 8 < turn
        · rw [show nextV tr ⟨job, x1, x2, x3, x4, x5, x6, t1, t2, t3, ph, tt, si⟩ turn now = (PV.zero, 0, false, 2) by unfold nextV; rw [if_pos (Or.inr (Or.inl h8))]]
          exact rn_hi a b c bo fr tr ag X cp ks hl job x1 x2 x3 x4 x5 x6 t1 t2 t3 ph tt si turn now h0 hp (by omega) h8 w hk
        · by_cases hN : inB now si 1099511627776 = true
          · have hph : ph = 1 ∨ ph = 2 ∨ ph = 3 := by
              have := hp.2.1; omega
            rcases hph with rfl | rfl | rfl
            · exact rnxt1 a b c bo fr tr ag X cp ks hl job x1 x2 x3 x4 x5 x6 t1 t2 t3 tt si turn now h0 hp (by omega) (by omega) hN w hk
            · exact rnxt2 a b c bo fr tr ag X cp ks hl job x1 x2 x3 x4 x5 x6 t1 t2 t3 tt si turn now h0 hp (by omega) (by omega) hN w hk
            · exact rnxt3 a b c bo fr tr ag X cp ks hl job x1 x2 x3 x4 x5 x6 t1 t2 t3 tt si turn now h0 hp (by omega) (by omega) hN w hk
          · rw [show nextV tr ⟨job, x1, x2, x3, x4, x5, x6, t1, t2, t3, ph, tt, si⟩ turn now = (PV.zero, 0, false, 2) by unfold nextV; rw [if_pos (Or.inr (Or.inr (by simpa using hN)))]]
            exact rn_now a b c bo fr tr ag X cp ks hl job x1 x2 x3 x4 x5 x6 t1 t2 t3 ph tt si turn now h0 hp (by omega) (by omega) (by simpa using hN) w hk
    · rw [show nextA a b c bo fr tr ag ks ⟨job, x1, x2, x3, x4, x5, x6, t1, t2, t3, ph, tt, si⟩ turn now = (PV.zero, 0, false, 8) by unfold nextA; rw [if_neg (fun h => hp h.2)]]
      exact rn_part a b c bo fr tr ag X cp ks hl job x1 x2 x3 x4 x5 x6 t1 t2 t3 ph tt si turn now h0 hp w hk
  · rw [show nextA a b c bo fr tr ag ks ⟨job, x1, x2, x3, x4, x5, x6, t1, t2, t3, ph, tt, si⟩ turn now = (PV.zero, 0, false, 8) by unfold nextA; rw [if_neg (fun h => h0 h.1)]]
    exact rn_cfg a b c bo fr tr ag X cp ks hl job x1 x2 x3 x4 x5 x6 t1 t2 t3 ph tt si turn now h0 w hk
end Go.Proofs.Ytfndopemfhmhgaa.PartRef2
