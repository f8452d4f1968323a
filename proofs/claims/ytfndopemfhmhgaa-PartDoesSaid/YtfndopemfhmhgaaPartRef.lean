/- The reference's freed and Turned. -/
import Derived.Test.YtfndopemfhmhgaaPartNext
import Derived.Test.YtfndopemfhmhgaaPartTurn
namespace Go.Proofs.Ytfndopemfhmhgaa.PartRef
open Go.RowKit Mem PosMath PosCheck PartMath PartClass PartCheck PartEnds PartTable PartNext PartTurn
set_option linter.unusedVariables false

theorem res_freed (tmps : Array Value) (W : World) (g : Nat) (v0 v1 v2 v3 v4 v5 v6 v7 v8 v9 v10 v11 v12  : Value) (hc : tmps[4]?.getD undef = .pointer (some ⟨g, 0, none⟩)) 
    (hb : Blk W g 37 #[v0, v1, v2, v3, v4, v5, v6, v7, v8, v9, v10, v11, v12]) : (results Try.f38 tmps).run Try.prog W = .ok (.agg #[v0, v1, v2, v3, v4, v5, v6, v7, v8, v9, v10, v11, v12]) W := by
  have c0 := hb.cell 0
  have c1 := hb.cell 1
  have c2 := hb.cell 2
  have c3 := hb.cell 3
  have c4 := hb.cell 4
  have c5 := hb.cell 5
  have c6 := hb.cell 6
  have c7 := hb.cell 7
  have c8 := hb.cell 8
  have c9 := hb.cell 9
  have c10 := hb.cell 10
  have c11 := hb.cell 11
  have c12 := hb.cell 12
  simp at c0 c1 c2 c3 c4 c5 c6 c7 c8 c9 c10 c11 c12
  simp [results, Try.f38, go_sem, hc, c0, c1, c2, c3, c4, c5, c6, c7, c8, c9, c10, c11, c12]
theorem res_turned (tmps : Array Value) (W : World) (g : Nat) (v0 v1 v2 v3 v4 v5 v6 v7 v8 v9 v10 v11 v12 r9 r10 r11 : Value) (hc : tmps[8]?.getD undef = .pointer (some ⟨g, 0, none⟩)) (h9 : tmps[9]?.getD undef = r9) (h10 : tmps[10]?.getD undef = r10) (h11 : tmps[11]?.getD undef = r11)
    (hb : Blk W g 37 #[v0, v1, v2, v3, v4, v5, v6, v7, v8, v9, v10, v11, v12]) : (results Try.f33 tmps).run Try.prog W = .ok (.tuple #[.agg #[v0, v1, v2, v3, v4, v5, v6, v7, v8, v9, v10, v11, v12], r9, r10, r11]) W := by
  have c0 := hb.cell 0
  have c1 := hb.cell 1
  have c2 := hb.cell 2
  have c3 := hb.cell 3
  have c4 := hb.cell 4
  have c5 := hb.cell 5
  have c6 := hb.cell 6
  have c7 := hb.cell 7
  have c8 := hb.cell 8
  have c9 := hb.cell 9
  have c10 := hb.cell 10
  have c11 := hb.cell 11
  have c12 := hb.cell 12
  simp at c0 c1 c2 c3 c4 c5 c6 c7 c8 c9 c10 c11 c12
  simp [results, Try.f33, go_sem, hc, h9, h10, h11, c0, c1, c2, c3, c4, c5, c6, c7, c8, c9, c10, c11, c12]
theorem res_rnext (tmps : Array Value) (W : World) (g : Nat) (v0 v1 v2 v3 v4 v5 v6 v7 v8 v9 v10 v11 v12 r9 r10 r11 : Value) (hc : tmps[8]?.getD undef = .pointer (some ⟨g, 0, none⟩)) (h9 : tmps[9]?.getD undef = r9) (h10 : tmps[10]?.getD undef = r10) (h11 : tmps[11]?.getD undef = r11)
    (hb : Blk W g 37 #[v0, v1, v2, v3, v4, v5, v6, v7, v8, v9, v10, v11, v12]) : (results Try.f18 tmps).run Try.prog W = .ok (.tuple #[.agg #[v0, v1, v2, v3, v4, v5, v6, v7, v8, v9, v10, v11, v12], r9, r10, r11]) W := by
  have c0 := hb.cell 0
  have c1 := hb.cell 1
  have c2 := hb.cell 2
  have c3 := hb.cell 3
  have c4 := hb.cell 4
  have c5 := hb.cell 5
  have c6 := hb.cell 6
  have c7 := hb.cell 7
  have c8 := hb.cell 8
  have c9 := hb.cell 9
  have c10 := hb.cell 10
  have c11 := hb.cell 11
  have c12 := hb.cell 12
  simp at c0 c1 c2 c3 c4 c5 c6 c7 c8 c9 c10 c11 c12
  simp [results, Try.f18, go_sem, hc, h9, h10, h11, c0, c1, c2, c3, c4, c5, c6, c7, c8, c9, c10, c11, c12]
set_option maxRecDepth 100000 in
set_option maxHeartbeats 8000000 in
theorem freed_any (job x1 x2 x3 x4 x5 x6 : Int) (t1 t2 t3 : Bool) (ph tt si : Int) (now : Int) (w : World) :
    Calls Try.prog 38 #[.agg #[.int .i64 job, .int .i64 x1, .int .i64 x2, .int .i64 x3, .int .i64 x4, .int .i64 x5, .int .i64 x6, .bool t1, .bool t2, .bool t3, .int .u8 ph, .int .i64 tt, .int .i64 si], .int .i64 now] w (fun e w' => e = .returned (.agg #[.int .i64 job, .int .i64 x1, .int .i64 x2, .int .i64 x3, .int .i64 x4, .int .i64 x5, .int .i64 x6, .bool t1, .bool t2, .bool t3, .int .u8 3, .int .i64 tt, .int .i64 now]) ∧ Below w.heap.size w w') := by
  go_enter Try.func38, Try.ntmps38
  go_upto_region 1 with fail
  have kp : Blk ((w.alloc (.cells #[.int .i64 job, .int .i64 x1, .int .i64 x2, .int .i64 x3, .int .i64 x4, .int .i64 x5, .int .i64 x6, .bool t1, .bool t2, .bool t3, .int .u8 ph, .int .i64 tt, .int .i64 si] 37)).alloc (.cells #[.int .i64 0, .int .i64 0, .int .i64 0, .int .i64 0, .int .i64 0, .int .i64 0, .int .i64 0, .bool false, .bool false, .bool false, .int .u8 0, .int .i64 0, .int .i64 0] 37)) (w.heap.size) 37 #[.int .i64 job, .int .i64 x1, .int .i64 x2, .int .i64 x3, .int .i64 x4, .int .i64 x5, .int .i64 x6, .bool t1, .bool t2, .bool t3, .int .u8 ph, .int .i64 tt, .int .i64 si] := (Blk.new w _ _).alloc _
  have kr : Blk ((w.alloc (.cells #[.int .i64 job, .int .i64 x1, .int .i64 x2, .int .i64 x3, .int .i64 x4, .int .i64 x5, .int .i64 x6, .bool t1, .bool t2, .bool t3, .int .u8 ph, .int .i64 tt, .int .i64 si] 37)).alloc (.cells #[.int .i64 0, .int .i64 0, .int .i64 0, .int .i64 0, .int .i64 0, .int .i64 0, .int .i64 0, .bool false, .bool false, .bool false, .int .u8 0, .int .i64 0, .int .i64 0] 37)) (w.heap.size + 1) 37 #[.int .i64 0, .int .i64 0, .int .i64 0, .int .i64 0, .int .i64 0, .int .i64 0, .int .i64 0, .bool false, .bool false, .bool false, .int .u8 0, .int .i64 0, .int .i64 0] := blk1 w _ _
  have hb0 : Below w.heap.size w ((w.alloc (.cells #[.int .i64 job, .int .i64 x1, .int .i64 x2, .int .i64 x3, .int .i64 x4, .int .i64 x5, .int .i64 x6, .bool t1, .bool t2, .bool t3, .int .u8 ph, .int .i64 tt, .int .i64 si] 37)).alloc (.cells #[.int .i64 0, .int .i64 0, .int .i64 0, .int .i64 0, .int .i64 0, .int .i64 0, .int .i64 0, .bool false, .bool false, .bool false, .int .u8 0, .int .i64 0, .int .i64 0] 37)) := below_alloc (below_alloc (Below.refl _ _))
  generalize hW0 : ((w.alloc (.cells #[.int .i64 job, .int .i64 x1, .int .i64 x2, .int .i64 x3, .int .i64 x4, .int .i64 x5, .int .i64 x6, .bool t1, .bool t2, .bool t3, .int .u8 ph, .int .i64 tt, .int .i64 si] 37)).alloc (.cells #[.int .i64 0, .int .i64 0, .int .i64 0, .int .i64 0, .int .i64 0, .int .i64 0, .int .i64 0, .bool false, .bool false, .bool false, .int .u8 0, .int .i64 0, .int .i64 0] 37)) = W0 at *
  clear hW0
  have p0 : W0.cell? ⟨w.heap.size, 0, none⟩ = some (.int .i64 job) := kp.cell 0
  have q0 : W0.frozen? ⟨w.heap.size, 0, none⟩ = false := kp.frozen 0
  have p1 : W0.cell? ⟨w.heap.size, 1, none⟩ = some (.int .i64 x1) := kp.cell 1
  have q1 : W0.frozen? ⟨w.heap.size, 1, none⟩ = false := kp.frozen 1
  have p2 : W0.cell? ⟨w.heap.size, 2, none⟩ = some (.int .i64 x2) := kp.cell 2
  have q2 : W0.frozen? ⟨w.heap.size, 2, none⟩ = false := kp.frozen 2
  have p3 : W0.cell? ⟨w.heap.size, 3, none⟩ = some (.int .i64 x3) := kp.cell 3
  have q3 : W0.frozen? ⟨w.heap.size, 3, none⟩ = false := kp.frozen 3
  have p4 : W0.cell? ⟨w.heap.size, 4, none⟩ = some (.int .i64 x4) := kp.cell 4
  have q4 : W0.frozen? ⟨w.heap.size, 4, none⟩ = false := kp.frozen 4
  have p5 : W0.cell? ⟨w.heap.size, 5, none⟩ = some (.int .i64 x5) := kp.cell 5
  have q5 : W0.frozen? ⟨w.heap.size, 5, none⟩ = false := kp.frozen 5
  have p6 : W0.cell? ⟨w.heap.size, 6, none⟩ = some (.int .i64 x6) := kp.cell 6
  have q6 : W0.frozen? ⟨w.heap.size, 6, none⟩ = false := kp.frozen 6
  have p7 : W0.cell? ⟨w.heap.size, 7, none⟩ = some (.bool t1) := kp.cell 7
  have q7 : W0.frozen? ⟨w.heap.size, 7, none⟩ = false := kp.frozen 7
  have p8 : W0.cell? ⟨w.heap.size, 8, none⟩ = some (.bool t2) := kp.cell 8
  have q8 : W0.frozen? ⟨w.heap.size, 8, none⟩ = false := kp.frozen 8
  have p9 : W0.cell? ⟨w.heap.size, 9, none⟩ = some (.bool t3) := kp.cell 9
  have q9 : W0.frozen? ⟨w.heap.size, 9, none⟩ = false := kp.frozen 9
  have p10 : W0.cell? ⟨w.heap.size, 10, none⟩ = some (.int .u8 ph) := kp.cell 10
  have q10 : W0.frozen? ⟨w.heap.size, 10, none⟩ = false := kp.frozen 10
  have p11 : W0.cell? ⟨w.heap.size, 11, none⟩ = some (.int .i64 tt) := kp.cell 11
  have q11 : W0.frozen? ⟨w.heap.size, 11, none⟩ = false := kp.frozen 11
  have p12 : W0.cell? ⟨w.heap.size, 12, none⟩ = some (.int .i64 si) := kp.cell 12
  have q12 : W0.frozen? ⟨w.heap.size, 12, none⟩ = false := kp.frozen 12
  have m0 : W0.cell? ⟨w.heap.size + 1, 0, none⟩ = some (.int .i64 0) := kr.cell 0
  have n0 : W0.frozen? ⟨w.heap.size + 1, 0, none⟩ = false := kr.frozen 0
  have m1 : W0.cell? ⟨w.heap.size + 1, 1, none⟩ = some (.int .i64 0) := kr.cell 1
  have n1 : W0.frozen? ⟨w.heap.size + 1, 1, none⟩ = false := kr.frozen 1
  have m2 : W0.cell? ⟨w.heap.size + 1, 2, none⟩ = some (.int .i64 0) := kr.cell 2
  have n2 : W0.frozen? ⟨w.heap.size + 1, 2, none⟩ = false := kr.frozen 2
  have m3 : W0.cell? ⟨w.heap.size + 1, 3, none⟩ = some (.int .i64 0) := kr.cell 3
  have n3 : W0.frozen? ⟨w.heap.size + 1, 3, none⟩ = false := kr.frozen 3
  have m4 : W0.cell? ⟨w.heap.size + 1, 4, none⟩ = some (.int .i64 0) := kr.cell 4
  have n4 : W0.frozen? ⟨w.heap.size + 1, 4, none⟩ = false := kr.frozen 4
  have m5 : W0.cell? ⟨w.heap.size + 1, 5, none⟩ = some (.int .i64 0) := kr.cell 5
  have n5 : W0.frozen? ⟨w.heap.size + 1, 5, none⟩ = false := kr.frozen 5
  have m6 : W0.cell? ⟨w.heap.size + 1, 6, none⟩ = some (.int .i64 0) := kr.cell 6
  have n6 : W0.frozen? ⟨w.heap.size + 1, 6, none⟩ = false := kr.frozen 6
  have m7 : W0.cell? ⟨w.heap.size + 1, 7, none⟩ = some (.bool false) := kr.cell 7
  have n7 : W0.frozen? ⟨w.heap.size + 1, 7, none⟩ = false := kr.frozen 7
  have m8 : W0.cell? ⟨w.heap.size + 1, 8, none⟩ = some (.bool false) := kr.cell 8
  have n8 : W0.frozen? ⟨w.heap.size + 1, 8, none⟩ = false := kr.frozen 8
  have m9 : W0.cell? ⟨w.heap.size + 1, 9, none⟩ = some (.bool false) := kr.cell 9
  have n9 : W0.frozen? ⟨w.heap.size + 1, 9, none⟩ = false := kr.frozen 9
  have m10 : W0.cell? ⟨w.heap.size + 1, 10, none⟩ = some (.int .u8 0) := kr.cell 10
  have n10 : W0.frozen? ⟨w.heap.size + 1, 10, none⟩ = false := kr.frozen 10
  have m11 : W0.cell? ⟨w.heap.size + 1, 11, none⟩ = some (.int .i64 0) := kr.cell 11
  have n11 : W0.frozen? ⟨w.heap.size + 1, 11, none⟩ = false := kr.frozen 11
  have m12 : W0.cell? ⟨w.heap.size + 1, 12, none⟩ = some (.int .i64 0) := kr.cell 12
  have n12 : W0.frozen? ⟨w.heap.size + 1, 12, none⟩ = false := kr.frozen 12
  have hz0 : w.heap.size < W0.heap.size := kp.lt
  have hz1 : w.heap.size + 1 < W0.heap.size := kr.lt
  have KR := Lib.hid kr
  have HB0 := Lib.hid hb0
  clear kp kr hb0
  go_wp2_with fail
  have hs13 := store13 (w := w) (g := w.heap.size + 1) ((HB0.out.setCell (p := ⟨w.heap.size, 10, none⟩) (Nat.le_refl _) _).setCell (p := ⟨w.heap.size, 12, none⟩) (Nat.le_refl _) _) (by omega) ((KR.out.far (p := ⟨w.heap.size, 10, none⟩) (by simp) (.int .u8 3)).far (p := ⟨w.heap.size, 12, none⟩) (by simp) (.int .i64 now)) (.int .i64 job) (.int .i64 x1) (.int .i64 x2) (.int .i64 x3) (.int .i64 x4) (.int .i64 x5) (.int .i64 x6) (.bool t1) (.bool t2) (.bool t3) (.int .u8 3) (.int .i64 tt) (.int .i64 now)
  refine bodyPost_ret (v := .agg #[.int .i64 job, .int .i64 x1, .int .i64 x2, .int .i64 x3, .int .i64 x4, .int .i64 x5, .int .i64 x6, .bool t1, .bool t2, .bool t3, .int .u8 3, .int .i64 tt, .int .i64 now]) ?_ rfl ?_
  · exact res_freed _ _ (w.heap.size + 1) (.int .i64 job) (.int .i64 x1) (.int .i64 x2) (.int .i64 x3) (.int .i64 x4) (.int .i64 x5) (.int .i64 x6) (.bool t1) (.bool t2) (.bool t3) (.int .u8 3) (.int .i64 tt) (.int .i64 now) rfl hs13.2
  · exact ⟨rfl, hs13.1⟩
set_option maxRecDepth 100000 in
set_option maxHeartbeats 8000000 in
theorem tu_37 (a b c bo fr tr ag : Int) (X : Option Addr) (cp : Nat) (ks : List Cls) (job x1 x2 x3 x4 x5 x6 : Int) (t1 t2 t3 : Bool) (tt si : Int) (now : Int)  (w : World) :
    Calls Try.prog 33 #[.agg #[.int .i64 a, .int .i64 b, .int .i64 c, .int .i64 bo, .int .i64 fr, .int .i64 tr, .int .i64 ag, .slice X ks.length cp], .agg #[.int .i64 job, .int .i64 x1, .int .i64 x2, .int .i64 x3, .int .i64 x4, .int .i64 x5, .int .i64 x6, .bool t1, .bool t2, .bool t3, .int .u8 3, .int .i64 tt, .int .i64 si], .int .u8 7, .int .i64 now] w (fun e w' => e = .returned (.tuple #[.agg #[.int .i64 job, .int .i64 x1, .int .i64 x2, .int .i64 x3, .int .i64 x4, .int .i64 x5, .int .i64 x6, .bool t1, .bool t2, .bool t3, .int .u8 3, .int .i64 tt, .int .i64 si], .int .u8 0, .bool false, .bool true]) ∧ Below w.heap.size w w') := by
  go_enter Try.func33, Try.ntmps33
  go_upto_region 1 with fail
  have kd : Blk (((w.alloc (.cells #[.int .i64 a, .int .i64 b, .int .i64 c, .int .i64 bo, .int .i64 fr, .int .i64 tr, .int .i64 ag, .slice X ks.length cp] 26)).alloc (.cells #[.int .i64 job, .int .i64 x1, .int .i64 x2, .int .i64 x3, .int .i64 x4, .int .i64 x5, .int .i64 x6, .bool t1, .bool t2, .bool t3, .int .u8 3, .int .i64 tt, .int .i64 si] 37)).alloc (.cells #[.int .i64 0, .int .i64 0, .int .i64 0, .int .i64 0, .int .i64 0, .int .i64 0, .int .i64 0, .bool false, .bool false, .bool false, .int .u8 0, .int .i64 0, .int .i64 0] 37)) (w.heap.size) 26 #[.int .i64 a, .int .i64 b, .int .i64 c, .int .i64 bo, .int .i64 fr, .int .i64 tr, .int .i64 ag, .slice X ks.length cp] := ((Blk.new w _ _).alloc _).alloc _
  have kp : Blk (((w.alloc (.cells #[.int .i64 a, .int .i64 b, .int .i64 c, .int .i64 bo, .int .i64 fr, .int .i64 tr, .int .i64 ag, .slice X ks.length cp] 26)).alloc (.cells #[.int .i64 job, .int .i64 x1, .int .i64 x2, .int .i64 x3, .int .i64 x4, .int .i64 x5, .int .i64 x6, .bool t1, .bool t2, .bool t3, .int .u8 3, .int .i64 tt, .int .i64 si] 37)).alloc (.cells #[.int .i64 0, .int .i64 0, .int .i64 0, .int .i64 0, .int .i64 0, .int .i64 0, .int .i64 0, .bool false, .bool false, .bool false, .int .u8 0, .int .i64 0, .int .i64 0] 37)) (w.heap.size + 1) 37 #[.int .i64 job, .int .i64 x1, .int .i64 x2, .int .i64 x3, .int .i64 x4, .int .i64 x5, .int .i64 x6, .bool t1, .bool t2, .bool t3, .int .u8 3, .int .i64 tt, .int .i64 si] := (blk1 w _ _).alloc _
  have kr : Blk (((w.alloc (.cells #[.int .i64 a, .int .i64 b, .int .i64 c, .int .i64 bo, .int .i64 fr, .int .i64 tr, .int .i64 ag, .slice X ks.length cp] 26)).alloc (.cells #[.int .i64 job, .int .i64 x1, .int .i64 x2, .int .i64 x3, .int .i64 x4, .int .i64 x5, .int .i64 x6, .bool t1, .bool t2, .bool t3, .int .u8 3, .int .i64 tt, .int .i64 si] 37)).alloc (.cells #[.int .i64 0, .int .i64 0, .int .i64 0, .int .i64 0, .int .i64 0, .int .i64 0, .int .i64 0, .bool false, .bool false, .bool false, .int .u8 0, .int .i64 0, .int .i64 0] 37)) (w.heap.size + 1 + 1) 37 #[.int .i64 0, .int .i64 0, .int .i64 0, .int .i64 0, .int .i64 0, .int .i64 0, .int .i64 0, .bool false, .bool false, .bool false, .int .u8 0, .int .i64 0, .int .i64 0] := blk2 w _ _
  have hb0 : Below w.heap.size w (((w.alloc (.cells #[.int .i64 a, .int .i64 b, .int .i64 c, .int .i64 bo, .int .i64 fr, .int .i64 tr, .int .i64 ag, .slice X ks.length cp] 26)).alloc (.cells #[.int .i64 job, .int .i64 x1, .int .i64 x2, .int .i64 x3, .int .i64 x4, .int .i64 x5, .int .i64 x6, .bool t1, .bool t2, .bool t3, .int .u8 3, .int .i64 tt, .int .i64 si] 37)).alloc (.cells #[.int .i64 0, .int .i64 0, .int .i64 0, .int .i64 0, .int .i64 0, .int .i64 0, .int .i64 0, .bool false, .bool false, .bool false, .int .u8 0, .int .i64 0, .int .i64 0] 37)) := below_alloc (below_alloc (below_alloc (Below.refl _ _)))
  generalize hW0 : (((w.alloc (.cells #[.int .i64 a, .int .i64 b, .int .i64 c, .int .i64 bo, .int .i64 fr, .int .i64 tr, .int .i64 ag, .slice X ks.length cp] 26)).alloc (.cells #[.int .i64 job, .int .i64 x1, .int .i64 x2, .int .i64 x3, .int .i64 x4, .int .i64 x5, .int .i64 x6, .bool t1, .bool t2, .bool t3, .int .u8 3, .int .i64 tt, .int .i64 si] 37)).alloc (.cells #[.int .i64 0, .int .i64 0, .int .i64 0, .int .i64 0, .int .i64 0, .int .i64 0, .int .i64 0, .bool false, .bool false, .bool false, .int .u8 0, .int .i64 0, .int .i64 0] 37)) = W0 at *
  clear hW0
  have p0 : W0.cell? ⟨w.heap.size + 1, 0, none⟩ = some (.int .i64 job) := kp.cell 0
  have q0 : W0.frozen? ⟨w.heap.size + 1, 0, none⟩ = false := kp.frozen 0
  have p1 : W0.cell? ⟨w.heap.size + 1, 1, none⟩ = some (.int .i64 x1) := kp.cell 1
  have q1 : W0.frozen? ⟨w.heap.size + 1, 1, none⟩ = false := kp.frozen 1
  have p2 : W0.cell? ⟨w.heap.size + 1, 2, none⟩ = some (.int .i64 x2) := kp.cell 2
  have q2 : W0.frozen? ⟨w.heap.size + 1, 2, none⟩ = false := kp.frozen 2
  have p3 : W0.cell? ⟨w.heap.size + 1, 3, none⟩ = some (.int .i64 x3) := kp.cell 3
  have q3 : W0.frozen? ⟨w.heap.size + 1, 3, none⟩ = false := kp.frozen 3
  have p4 : W0.cell? ⟨w.heap.size + 1, 4, none⟩ = some (.int .i64 x4) := kp.cell 4
  have q4 : W0.frozen? ⟨w.heap.size + 1, 4, none⟩ = false := kp.frozen 4
  have p5 : W0.cell? ⟨w.heap.size + 1, 5, none⟩ = some (.int .i64 x5) := kp.cell 5
  have q5 : W0.frozen? ⟨w.heap.size + 1, 5, none⟩ = false := kp.frozen 5
  have p6 : W0.cell? ⟨w.heap.size + 1, 6, none⟩ = some (.int .i64 x6) := kp.cell 6
  have q6 : W0.frozen? ⟨w.heap.size + 1, 6, none⟩ = false := kp.frozen 6
  have p7 : W0.cell? ⟨w.heap.size + 1, 7, none⟩ = some (.bool t1) := kp.cell 7
  have q7 : W0.frozen? ⟨w.heap.size + 1, 7, none⟩ = false := kp.frozen 7
  have p8 : W0.cell? ⟨w.heap.size + 1, 8, none⟩ = some (.bool t2) := kp.cell 8
  have q8 : W0.frozen? ⟨w.heap.size + 1, 8, none⟩ = false := kp.frozen 8
  have p9 : W0.cell? ⟨w.heap.size + 1, 9, none⟩ = some (.bool t3) := kp.cell 9
  have q9 : W0.frozen? ⟨w.heap.size + 1, 9, none⟩ = false := kp.frozen 9
  have p10 : W0.cell? ⟨w.heap.size + 1, 10, none⟩ = some (.int .u8 3) := kp.cell 10
  have q10 : W0.frozen? ⟨w.heap.size + 1, 10, none⟩ = false := kp.frozen 10
  have p11 : W0.cell? ⟨w.heap.size + 1, 11, none⟩ = some (.int .i64 tt) := kp.cell 11
  have q11 : W0.frozen? ⟨w.heap.size + 1, 11, none⟩ = false := kp.frozen 11
  have p12 : W0.cell? ⟨w.heap.size + 1, 12, none⟩ = some (.int .i64 si) := kp.cell 12
  have q12 : W0.frozen? ⟨w.heap.size + 1, 12, none⟩ = false := kp.frozen 12
  have m0 : W0.cell? ⟨w.heap.size + 1 + 1, 0, none⟩ = some (.int .i64 0) := kr.cell 0
  have n0 : W0.frozen? ⟨w.heap.size + 1 + 1, 0, none⟩ = false := kr.frozen 0
  have m1 : W0.cell? ⟨w.heap.size + 1 + 1, 1, none⟩ = some (.int .i64 0) := kr.cell 1
  have n1 : W0.frozen? ⟨w.heap.size + 1 + 1, 1, none⟩ = false := kr.frozen 1
  have m2 : W0.cell? ⟨w.heap.size + 1 + 1, 2, none⟩ = some (.int .i64 0) := kr.cell 2
  have n2 : W0.frozen? ⟨w.heap.size + 1 + 1, 2, none⟩ = false := kr.frozen 2
  have m3 : W0.cell? ⟨w.heap.size + 1 + 1, 3, none⟩ = some (.int .i64 0) := kr.cell 3
  have n3 : W0.frozen? ⟨w.heap.size + 1 + 1, 3, none⟩ = false := kr.frozen 3
  have m4 : W0.cell? ⟨w.heap.size + 1 + 1, 4, none⟩ = some (.int .i64 0) := kr.cell 4
  have n4 : W0.frozen? ⟨w.heap.size + 1 + 1, 4, none⟩ = false := kr.frozen 4
  have m5 : W0.cell? ⟨w.heap.size + 1 + 1, 5, none⟩ = some (.int .i64 0) := kr.cell 5
  have n5 : W0.frozen? ⟨w.heap.size + 1 + 1, 5, none⟩ = false := kr.frozen 5
  have m6 : W0.cell? ⟨w.heap.size + 1 + 1, 6, none⟩ = some (.int .i64 0) := kr.cell 6
  have n6 : W0.frozen? ⟨w.heap.size + 1 + 1, 6, none⟩ = false := kr.frozen 6
  have m7 : W0.cell? ⟨w.heap.size + 1 + 1, 7, none⟩ = some (.bool false) := kr.cell 7
  have n7 : W0.frozen? ⟨w.heap.size + 1 + 1, 7, none⟩ = false := kr.frozen 7
  have m8 : W0.cell? ⟨w.heap.size + 1 + 1, 8, none⟩ = some (.bool false) := kr.cell 8
  have n8 : W0.frozen? ⟨w.heap.size + 1 + 1, 8, none⟩ = false := kr.frozen 8
  have m9 : W0.cell? ⟨w.heap.size + 1 + 1, 9, none⟩ = some (.bool false) := kr.cell 9
  have n9 : W0.frozen? ⟨w.heap.size + 1 + 1, 9, none⟩ = false := kr.frozen 9
  have m10 : W0.cell? ⟨w.heap.size + 1 + 1, 10, none⟩ = some (.int .u8 0) := kr.cell 10
  have n10 : W0.frozen? ⟨w.heap.size + 1 + 1, 10, none⟩ = false := kr.frozen 10
  have m11 : W0.cell? ⟨w.heap.size + 1 + 1, 11, none⟩ = some (.int .i64 0) := kr.cell 11
  have n11 : W0.frozen? ⟨w.heap.size + 1 + 1, 11, none⟩ = false := kr.frozen 11
  have m12 : W0.cell? ⟨w.heap.size + 1 + 1, 12, none⟩ = some (.int .i64 0) := kr.cell 12
  have n12 : W0.frozen? ⟨w.heap.size + 1 + 1, 12, none⟩ = false := kr.frozen 12
  have hz1 : w.heap.size + 1 < W0.heap.size := kp.lt
  have hz2 : w.heap.size + 1 + 1 < W0.heap.size := kr.lt
  have KR := Lib.hid kr
  have HB0 := Lib.hid hb0
  clear kd kp kr hb0
  go_wp2_with fail
  have hs13 := store13 (w := w) (g := w.heap.size + 1 + 1) HB0.out (by omega) KR.out (.int .i64 job) (.int .i64 x1) (.int .i64 x2) (.int .i64 x3) (.int .i64 x4) (.int .i64 x5) (.int .i64 x6) (.bool t1) (.bool t2) (.bool t3) (.int .u8 3) (.int .i64 tt) (.int .i64 si)
  refine bodyPost_ret (v := .tuple #[.agg #[.int .i64 job, .int .i64 x1, .int .i64 x2, .int .i64 x3, .int .i64 x4, .int .i64 x5, .int .i64 x6, .bool t1, .bool t2, .bool t3, .int .u8 3, .int .i64 tt, .int .i64 si], .int .u8 0, .bool false, .bool true]) ?_ rfl ?_
  · exact res_turned _ _ (w.heap.size + 1 + 1) (.int .i64 job) (.int .i64 x1) (.int .i64 x2) (.int .i64 x3) (.int .i64 x4) (.int .i64 x5) (.int .i64 x6) (.bool t1) (.bool t2) (.bool t3) (.int .u8 3) (.int .i64 tt) (.int .i64 si) (.int .u8 0) (.bool false) (.bool true) rfl rfl rfl rfl hs13.2
  · exact ⟨rfl, hs13.1⟩
set_option maxRecDepth 100000 in
set_option maxHeartbeats 8000000 in
theorem tu_38 (a b c bo fr tr ag : Int) (X : Option Addr) (cp : Nat) (ks : List Cls) (job x1 x2 x3 x4 x5 x6 : Int) (t1 t2 t3 : Bool) (tt si : Int) (now : Int)  (w : World) :
    Calls Try.prog 33 #[.agg #[.int .i64 a, .int .i64 b, .int .i64 c, .int .i64 bo, .int .i64 fr, .int .i64 tr, .int .i64 ag, .slice X ks.length cp], .agg #[.int .i64 job, .int .i64 x1, .int .i64 x2, .int .i64 x3, .int .i64 x4, .int .i64 x5, .int .i64 x6, .bool t1, .bool t2, .bool t3, .int .u8 3, .int .i64 tt, .int .i64 si], .int .u8 8, .int .i64 now] w (fun e w' => e = .returned (.tuple #[.agg #[.int .i64 0, .int .i64 0, .int .i64 0, .int .i64 0, .int .i64 0, .int .i64 0, .int .i64 0, .bool false, .bool false, .bool false, .int .u8 0, .int .i64 0, .int .i64 0], .int .u8 0, .bool true, .bool true]) ∧ Below w.heap.size w w') := by
  go_enter Try.func33, Try.ntmps33
  go_upto_region 1 with fail
  have kd : Blk (((w.alloc (.cells #[.int .i64 a, .int .i64 b, .int .i64 c, .int .i64 bo, .int .i64 fr, .int .i64 tr, .int .i64 ag, .slice X ks.length cp] 26)).alloc (.cells #[.int .i64 job, .int .i64 x1, .int .i64 x2, .int .i64 x3, .int .i64 x4, .int .i64 x5, .int .i64 x6, .bool t1, .bool t2, .bool t3, .int .u8 3, .int .i64 tt, .int .i64 si] 37)).alloc (.cells #[.int .i64 0, .int .i64 0, .int .i64 0, .int .i64 0, .int .i64 0, .int .i64 0, .int .i64 0, .bool false, .bool false, .bool false, .int .u8 0, .int .i64 0, .int .i64 0] 37)) (w.heap.size) 26 #[.int .i64 a, .int .i64 b, .int .i64 c, .int .i64 bo, .int .i64 fr, .int .i64 tr, .int .i64 ag, .slice X ks.length cp] := ((Blk.new w _ _).alloc _).alloc _
  have kp : Blk (((w.alloc (.cells #[.int .i64 a, .int .i64 b, .int .i64 c, .int .i64 bo, .int .i64 fr, .int .i64 tr, .int .i64 ag, .slice X ks.length cp] 26)).alloc (.cells #[.int .i64 job, .int .i64 x1, .int .i64 x2, .int .i64 x3, .int .i64 x4, .int .i64 x5, .int .i64 x6, .bool t1, .bool t2, .bool t3, .int .u8 3, .int .i64 tt, .int .i64 si] 37)).alloc (.cells #[.int .i64 0, .int .i64 0, .int .i64 0, .int .i64 0, .int .i64 0, .int .i64 0, .int .i64 0, .bool false, .bool false, .bool false, .int .u8 0, .int .i64 0, .int .i64 0] 37)) (w.heap.size + 1) 37 #[.int .i64 job, .int .i64 x1, .int .i64 x2, .int .i64 x3, .int .i64 x4, .int .i64 x5, .int .i64 x6, .bool t1, .bool t2, .bool t3, .int .u8 3, .int .i64 tt, .int .i64 si] := (blk1 w _ _).alloc _
  have kr : Blk (((w.alloc (.cells #[.int .i64 a, .int .i64 b, .int .i64 c, .int .i64 bo, .int .i64 fr, .int .i64 tr, .int .i64 ag, .slice X ks.length cp] 26)).alloc (.cells #[.int .i64 job, .int .i64 x1, .int .i64 x2, .int .i64 x3, .int .i64 x4, .int .i64 x5, .int .i64 x6, .bool t1, .bool t2, .bool t3, .int .u8 3, .int .i64 tt, .int .i64 si] 37)).alloc (.cells #[.int .i64 0, .int .i64 0, .int .i64 0, .int .i64 0, .int .i64 0, .int .i64 0, .int .i64 0, .bool false, .bool false, .bool false, .int .u8 0, .int .i64 0, .int .i64 0] 37)) (w.heap.size + 1 + 1) 37 #[.int .i64 0, .int .i64 0, .int .i64 0, .int .i64 0, .int .i64 0, .int .i64 0, .int .i64 0, .bool false, .bool false, .bool false, .int .u8 0, .int .i64 0, .int .i64 0] := blk2 w _ _
  have hb0 : Below w.heap.size w (((w.alloc (.cells #[.int .i64 a, .int .i64 b, .int .i64 c, .int .i64 bo, .int .i64 fr, .int .i64 tr, .int .i64 ag, .slice X ks.length cp] 26)).alloc (.cells #[.int .i64 job, .int .i64 x1, .int .i64 x2, .int .i64 x3, .int .i64 x4, .int .i64 x5, .int .i64 x6, .bool t1, .bool t2, .bool t3, .int .u8 3, .int .i64 tt, .int .i64 si] 37)).alloc (.cells #[.int .i64 0, .int .i64 0, .int .i64 0, .int .i64 0, .int .i64 0, .int .i64 0, .int .i64 0, .bool false, .bool false, .bool false, .int .u8 0, .int .i64 0, .int .i64 0] 37)) := below_alloc (below_alloc (below_alloc (Below.refl _ _)))
  generalize hW0 : (((w.alloc (.cells #[.int .i64 a, .int .i64 b, .int .i64 c, .int .i64 bo, .int .i64 fr, .int .i64 tr, .int .i64 ag, .slice X ks.length cp] 26)).alloc (.cells #[.int .i64 job, .int .i64 x1, .int .i64 x2, .int .i64 x3, .int .i64 x4, .int .i64 x5, .int .i64 x6, .bool t1, .bool t2, .bool t3, .int .u8 3, .int .i64 tt, .int .i64 si] 37)).alloc (.cells #[.int .i64 0, .int .i64 0, .int .i64 0, .int .i64 0, .int .i64 0, .int .i64 0, .int .i64 0, .bool false, .bool false, .bool false, .int .u8 0, .int .i64 0, .int .i64 0] 37)) = W0 at *
  clear hW0
  have p0 : W0.cell? ⟨w.heap.size + 1, 0, none⟩ = some (.int .i64 job) := kp.cell 0
  have q0 : W0.frozen? ⟨w.heap.size + 1, 0, none⟩ = false := kp.frozen 0
  have p1 : W0.cell? ⟨w.heap.size + 1, 1, none⟩ = some (.int .i64 x1) := kp.cell 1
  have q1 : W0.frozen? ⟨w.heap.size + 1, 1, none⟩ = false := kp.frozen 1
  have p2 : W0.cell? ⟨w.heap.size + 1, 2, none⟩ = some (.int .i64 x2) := kp.cell 2
  have q2 : W0.frozen? ⟨w.heap.size + 1, 2, none⟩ = false := kp.frozen 2
  have p3 : W0.cell? ⟨w.heap.size + 1, 3, none⟩ = some (.int .i64 x3) := kp.cell 3
  have q3 : W0.frozen? ⟨w.heap.size + 1, 3, none⟩ = false := kp.frozen 3
  have p4 : W0.cell? ⟨w.heap.size + 1, 4, none⟩ = some (.int .i64 x4) := kp.cell 4
  have q4 : W0.frozen? ⟨w.heap.size + 1, 4, none⟩ = false := kp.frozen 4
  have p5 : W0.cell? ⟨w.heap.size + 1, 5, none⟩ = some (.int .i64 x5) := kp.cell 5
  have q5 : W0.frozen? ⟨w.heap.size + 1, 5, none⟩ = false := kp.frozen 5
  have p6 : W0.cell? ⟨w.heap.size + 1, 6, none⟩ = some (.int .i64 x6) := kp.cell 6
  have q6 : W0.frozen? ⟨w.heap.size + 1, 6, none⟩ = false := kp.frozen 6
  have p7 : W0.cell? ⟨w.heap.size + 1, 7, none⟩ = some (.bool t1) := kp.cell 7
  have q7 : W0.frozen? ⟨w.heap.size + 1, 7, none⟩ = false := kp.frozen 7
  have p8 : W0.cell? ⟨w.heap.size + 1, 8, none⟩ = some (.bool t2) := kp.cell 8
  have q8 : W0.frozen? ⟨w.heap.size + 1, 8, none⟩ = false := kp.frozen 8
  have p9 : W0.cell? ⟨w.heap.size + 1, 9, none⟩ = some (.bool t3) := kp.cell 9
  have q9 : W0.frozen? ⟨w.heap.size + 1, 9, none⟩ = false := kp.frozen 9
  have p10 : W0.cell? ⟨w.heap.size + 1, 10, none⟩ = some (.int .u8 3) := kp.cell 10
  have q10 : W0.frozen? ⟨w.heap.size + 1, 10, none⟩ = false := kp.frozen 10
  have p11 : W0.cell? ⟨w.heap.size + 1, 11, none⟩ = some (.int .i64 tt) := kp.cell 11
  have q11 : W0.frozen? ⟨w.heap.size + 1, 11, none⟩ = false := kp.frozen 11
  have p12 : W0.cell? ⟨w.heap.size + 1, 12, none⟩ = some (.int .i64 si) := kp.cell 12
  have q12 : W0.frozen? ⟨w.heap.size + 1, 12, none⟩ = false := kp.frozen 12
  have m0 : W0.cell? ⟨w.heap.size + 1 + 1, 0, none⟩ = some (.int .i64 0) := kr.cell 0
  have n0 : W0.frozen? ⟨w.heap.size + 1 + 1, 0, none⟩ = false := kr.frozen 0
  have m1 : W0.cell? ⟨w.heap.size + 1 + 1, 1, none⟩ = some (.int .i64 0) := kr.cell 1
  have n1 : W0.frozen? ⟨w.heap.size + 1 + 1, 1, none⟩ = false := kr.frozen 1
  have m2 : W0.cell? ⟨w.heap.size + 1 + 1, 2, none⟩ = some (.int .i64 0) := kr.cell 2
  have n2 : W0.frozen? ⟨w.heap.size + 1 + 1, 2, none⟩ = false := kr.frozen 2
  have m3 : W0.cell? ⟨w.heap.size + 1 + 1, 3, none⟩ = some (.int .i64 0) := kr.cell 3
  have n3 : W0.frozen? ⟨w.heap.size + 1 + 1, 3, none⟩ = false := kr.frozen 3
  have m4 : W0.cell? ⟨w.heap.size + 1 + 1, 4, none⟩ = some (.int .i64 0) := kr.cell 4
  have n4 : W0.frozen? ⟨w.heap.size + 1 + 1, 4, none⟩ = false := kr.frozen 4
  have m5 : W0.cell? ⟨w.heap.size + 1 + 1, 5, none⟩ = some (.int .i64 0) := kr.cell 5
  have n5 : W0.frozen? ⟨w.heap.size + 1 + 1, 5, none⟩ = false := kr.frozen 5
  have m6 : W0.cell? ⟨w.heap.size + 1 + 1, 6, none⟩ = some (.int .i64 0) := kr.cell 6
  have n6 : W0.frozen? ⟨w.heap.size + 1 + 1, 6, none⟩ = false := kr.frozen 6
  have m7 : W0.cell? ⟨w.heap.size + 1 + 1, 7, none⟩ = some (.bool false) := kr.cell 7
  have n7 : W0.frozen? ⟨w.heap.size + 1 + 1, 7, none⟩ = false := kr.frozen 7
  have m8 : W0.cell? ⟨w.heap.size + 1 + 1, 8, none⟩ = some (.bool false) := kr.cell 8
  have n8 : W0.frozen? ⟨w.heap.size + 1 + 1, 8, none⟩ = false := kr.frozen 8
  have m9 : W0.cell? ⟨w.heap.size + 1 + 1, 9, none⟩ = some (.bool false) := kr.cell 9
  have n9 : W0.frozen? ⟨w.heap.size + 1 + 1, 9, none⟩ = false := kr.frozen 9
  have m10 : W0.cell? ⟨w.heap.size + 1 + 1, 10, none⟩ = some (.int .u8 0) := kr.cell 10
  have n10 : W0.frozen? ⟨w.heap.size + 1 + 1, 10, none⟩ = false := kr.frozen 10
  have m11 : W0.cell? ⟨w.heap.size + 1 + 1, 11, none⟩ = some (.int .i64 0) := kr.cell 11
  have n11 : W0.frozen? ⟨w.heap.size + 1 + 1, 11, none⟩ = false := kr.frozen 11
  have m12 : W0.cell? ⟨w.heap.size + 1 + 1, 12, none⟩ = some (.int .i64 0) := kr.cell 12
  have n12 : W0.frozen? ⟨w.heap.size + 1 + 1, 12, none⟩ = false := kr.frozen 12
  have hz1 : w.heap.size + 1 < W0.heap.size := kp.lt
  have hz2 : w.heap.size + 1 + 1 < W0.heap.size := kr.lt
  have KR := Lib.hid kr
  have HB0 := Lib.hid hb0
  clear kd kp kr hb0
  go_wp2_with fail
  have hs13 := store13 (w := w) (g := w.heap.size + 1 + 1) HB0.out (by omega) KR.out (.int .i64 0) (.int .i64 0) (.int .i64 0) (.int .i64 0) (.int .i64 0) (.int .i64 0) (.int .i64 0) (.bool false) (.bool false) (.bool false) (.int .u8 0) (.int .i64 0) (.int .i64 0)
  refine bodyPost_ret (v := .tuple #[.agg #[.int .i64 0, .int .i64 0, .int .i64 0, .int .i64 0, .int .i64 0, .int .i64 0, .int .i64 0, .bool false, .bool false, .bool false, .int .u8 0, .int .i64 0, .int .i64 0], .int .u8 0, .bool true, .bool true]) ?_ rfl ?_
  · exact res_turned _ _ (w.heap.size + 1 + 1) (.int .i64 0) (.int .i64 0) (.int .i64 0) (.int .i64 0) (.int .i64 0) (.int .i64 0) (.int .i64 0) (.bool false) (.bool false) (.bool false) (.int .u8 0) (.int .i64 0) (.int .i64 0) (.int .u8 0) (.bool true) (.bool true) rfl rfl rfl rfl hs13.2
  · exact ⟨rfl, hs13.1⟩
set_option maxRecDepth 100000 in
set_option maxHeartbeats 8000000 in
theorem tu_3x (a b c bo fr tr ag : Int) (X : Option Addr) (cp : Nat) (ks : List Cls) (job x1 x2 x3 x4 x5 x6 : Int) (t1 t2 t3 : Bool) (tt si : Int) (turn now : Int) (h7 : turn ≠ 7) (h8 : turn ≠ 8) (w : World) :
    Calls Try.prog 33 #[.agg #[.int .i64 a, .int .i64 b, .int .i64 c, .int .i64 bo, .int .i64 fr, .int .i64 tr, .int .i64 ag, .slice X ks.length cp], .agg #[.int .i64 job, .int .i64 x1, .int .i64 x2, .int .i64 x3, .int .i64 x4, .int .i64 x5, .int .i64 x6, .bool t1, .bool t2, .bool t3, .int .u8 3, .int .i64 tt, .int .i64 si], .int .u8 turn, .int .i64 now] w (fun e w' => e = .returned (.tuple #[.agg #[.int .i64 0, .int .i64 0, .int .i64 0, .int .i64 0, .int .i64 0, .int .i64 0, .int .i64 0, .bool false, .bool false, .bool false, .int .u8 0, .int .i64 0, .int .i64 0], .int .u8 0, .bool false, .bool false]) ∧ Below w.heap.size w w') := by
  go_enter Try.func33, Try.ntmps33
  go_upto_region 1 with fail
  have kd : Blk (((w.alloc (.cells #[.int .i64 a, .int .i64 b, .int .i64 c, .int .i64 bo, .int .i64 fr, .int .i64 tr, .int .i64 ag, .slice X ks.length cp] 26)).alloc (.cells #[.int .i64 job, .int .i64 x1, .int .i64 x2, .int .i64 x3, .int .i64 x4, .int .i64 x5, .int .i64 x6, .bool t1, .bool t2, .bool t3, .int .u8 3, .int .i64 tt, .int .i64 si] 37)).alloc (.cells #[.int .i64 0, .int .i64 0, .int .i64 0, .int .i64 0, .int .i64 0, .int .i64 0, .int .i64 0, .bool false, .bool false, .bool false, .int .u8 0, .int .i64 0, .int .i64 0] 37)) (w.heap.size) 26 #[.int .i64 a, .int .i64 b, .int .i64 c, .int .i64 bo, .int .i64 fr, .int .i64 tr, .int .i64 ag, .slice X ks.length cp] := ((Blk.new w _ _).alloc _).alloc _
  have kp : Blk (((w.alloc (.cells #[.int .i64 a, .int .i64 b, .int .i64 c, .int .i64 bo, .int .i64 fr, .int .i64 tr, .int .i64 ag, .slice X ks.length cp] 26)).alloc (.cells #[.int .i64 job, .int .i64 x1, .int .i64 x2, .int .i64 x3, .int .i64 x4, .int .i64 x5, .int .i64 x6, .bool t1, .bool t2, .bool t3, .int .u8 3, .int .i64 tt, .int .i64 si] 37)).alloc (.cells #[.int .i64 0, .int .i64 0, .int .i64 0, .int .i64 0, .int .i64 0, .int .i64 0, .int .i64 0, .bool false, .bool false, .bool false, .int .u8 0, .int .i64 0, .int .i64 0] 37)) (w.heap.size + 1) 37 #[.int .i64 job, .int .i64 x1, .int .i64 x2, .int .i64 x3, .int .i64 x4, .int .i64 x5, .int .i64 x6, .bool t1, .bool t2, .bool t3, .int .u8 3, .int .i64 tt, .int .i64 si] := (blk1 w _ _).alloc _
  have kr : Blk (((w.alloc (.cells #[.int .i64 a, .int .i64 b, .int .i64 c, .int .i64 bo, .int .i64 fr, .int .i64 tr, .int .i64 ag, .slice X ks.length cp] 26)).alloc (.cells #[.int .i64 job, .int .i64 x1, .int .i64 x2, .int .i64 x3, .int .i64 x4, .int .i64 x5, .int .i64 x6, .bool t1, .bool t2, .bool t3, .int .u8 3, .int .i64 tt, .int .i64 si] 37)).alloc (.cells #[.int .i64 0, .int .i64 0, .int .i64 0, .int .i64 0, .int .i64 0, .int .i64 0, .int .i64 0, .bool false, .bool false, .bool false, .int .u8 0, .int .i64 0, .int .i64 0] 37)) (w.heap.size + 1 + 1) 37 #[.int .i64 0, .int .i64 0, .int .i64 0, .int .i64 0, .int .i64 0, .int .i64 0, .int .i64 0, .bool false, .bool false, .bool false, .int .u8 0, .int .i64 0, .int .i64 0] := blk2 w _ _
  have hb0 : Below w.heap.size w (((w.alloc (.cells #[.int .i64 a, .int .i64 b, .int .i64 c, .int .i64 bo, .int .i64 fr, .int .i64 tr, .int .i64 ag, .slice X ks.length cp] 26)).alloc (.cells #[.int .i64 job, .int .i64 x1, .int .i64 x2, .int .i64 x3, .int .i64 x4, .int .i64 x5, .int .i64 x6, .bool t1, .bool t2, .bool t3, .int .u8 3, .int .i64 tt, .int .i64 si] 37)).alloc (.cells #[.int .i64 0, .int .i64 0, .int .i64 0, .int .i64 0, .int .i64 0, .int .i64 0, .int .i64 0, .bool false, .bool false, .bool false, .int .u8 0, .int .i64 0, .int .i64 0] 37)) := below_alloc (below_alloc (below_alloc (Below.refl _ _)))
  generalize hW0 : (((w.alloc (.cells #[.int .i64 a, .int .i64 b, .int .i64 c, .int .i64 bo, .int .i64 fr, .int .i64 tr, .int .i64 ag, .slice X ks.length cp] 26)).alloc (.cells #[.int .i64 job, .int .i64 x1, .int .i64 x2, .int .i64 x3, .int .i64 x4, .int .i64 x5, .int .i64 x6, .bool t1, .bool t2, .bool t3, .int .u8 3, .int .i64 tt, .int .i64 si] 37)).alloc (.cells #[.int .i64 0, .int .i64 0, .int .i64 0, .int .i64 0, .int .i64 0, .int .i64 0, .int .i64 0, .bool false, .bool false, .bool false, .int .u8 0, .int .i64 0, .int .i64 0] 37)) = W0 at *
  clear hW0
  have p0 : W0.cell? ⟨w.heap.size + 1, 0, none⟩ = some (.int .i64 job) := kp.cell 0
  have q0 : W0.frozen? ⟨w.heap.size + 1, 0, none⟩ = false := kp.frozen 0
  have p1 : W0.cell? ⟨w.heap.size + 1, 1, none⟩ = some (.int .i64 x1) := kp.cell 1
  have q1 : W0.frozen? ⟨w.heap.size + 1, 1, none⟩ = false := kp.frozen 1
  have p2 : W0.cell? ⟨w.heap.size + 1, 2, none⟩ = some (.int .i64 x2) := kp.cell 2
  have q2 : W0.frozen? ⟨w.heap.size + 1, 2, none⟩ = false := kp.frozen 2
  have p3 : W0.cell? ⟨w.heap.size + 1, 3, none⟩ = some (.int .i64 x3) := kp.cell 3
  have q3 : W0.frozen? ⟨w.heap.size + 1, 3, none⟩ = false := kp.frozen 3
  have p4 : W0.cell? ⟨w.heap.size + 1, 4, none⟩ = some (.int .i64 x4) := kp.cell 4
  have q4 : W0.frozen? ⟨w.heap.size + 1, 4, none⟩ = false := kp.frozen 4
  have p5 : W0.cell? ⟨w.heap.size + 1, 5, none⟩ = some (.int .i64 x5) := kp.cell 5
  have q5 : W0.frozen? ⟨w.heap.size + 1, 5, none⟩ = false := kp.frozen 5
  have p6 : W0.cell? ⟨w.heap.size + 1, 6, none⟩ = some (.int .i64 x6) := kp.cell 6
  have q6 : W0.frozen? ⟨w.heap.size + 1, 6, none⟩ = false := kp.frozen 6
  have p7 : W0.cell? ⟨w.heap.size + 1, 7, none⟩ = some (.bool t1) := kp.cell 7
  have q7 : W0.frozen? ⟨w.heap.size + 1, 7, none⟩ = false := kp.frozen 7
  have p8 : W0.cell? ⟨w.heap.size + 1, 8, none⟩ = some (.bool t2) := kp.cell 8
  have q8 : W0.frozen? ⟨w.heap.size + 1, 8, none⟩ = false := kp.frozen 8
  have p9 : W0.cell? ⟨w.heap.size + 1, 9, none⟩ = some (.bool t3) := kp.cell 9
  have q9 : W0.frozen? ⟨w.heap.size + 1, 9, none⟩ = false := kp.frozen 9
  have p10 : W0.cell? ⟨w.heap.size + 1, 10, none⟩ = some (.int .u8 3) := kp.cell 10
  have q10 : W0.frozen? ⟨w.heap.size + 1, 10, none⟩ = false := kp.frozen 10
  have p11 : W0.cell? ⟨w.heap.size + 1, 11, none⟩ = some (.int .i64 tt) := kp.cell 11
  have q11 : W0.frozen? ⟨w.heap.size + 1, 11, none⟩ = false := kp.frozen 11
  have p12 : W0.cell? ⟨w.heap.size + 1, 12, none⟩ = some (.int .i64 si) := kp.cell 12
  have q12 : W0.frozen? ⟨w.heap.size + 1, 12, none⟩ = false := kp.frozen 12
  have m0 : W0.cell? ⟨w.heap.size + 1 + 1, 0, none⟩ = some (.int .i64 0) := kr.cell 0
  have n0 : W0.frozen? ⟨w.heap.size + 1 + 1, 0, none⟩ = false := kr.frozen 0
  have m1 : W0.cell? ⟨w.heap.size + 1 + 1, 1, none⟩ = some (.int .i64 0) := kr.cell 1
  have n1 : W0.frozen? ⟨w.heap.size + 1 + 1, 1, none⟩ = false := kr.frozen 1
  have m2 : W0.cell? ⟨w.heap.size + 1 + 1, 2, none⟩ = some (.int .i64 0) := kr.cell 2
  have n2 : W0.frozen? ⟨w.heap.size + 1 + 1, 2, none⟩ = false := kr.frozen 2
  have m3 : W0.cell? ⟨w.heap.size + 1 + 1, 3, none⟩ = some (.int .i64 0) := kr.cell 3
  have n3 : W0.frozen? ⟨w.heap.size + 1 + 1, 3, none⟩ = false := kr.frozen 3
  have m4 : W0.cell? ⟨w.heap.size + 1 + 1, 4, none⟩ = some (.int .i64 0) := kr.cell 4
  have n4 : W0.frozen? ⟨w.heap.size + 1 + 1, 4, none⟩ = false := kr.frozen 4
  have m5 : W0.cell? ⟨w.heap.size + 1 + 1, 5, none⟩ = some (.int .i64 0) := kr.cell 5
  have n5 : W0.frozen? ⟨w.heap.size + 1 + 1, 5, none⟩ = false := kr.frozen 5
  have m6 : W0.cell? ⟨w.heap.size + 1 + 1, 6, none⟩ = some (.int .i64 0) := kr.cell 6
  have n6 : W0.frozen? ⟨w.heap.size + 1 + 1, 6, none⟩ = false := kr.frozen 6
  have m7 : W0.cell? ⟨w.heap.size + 1 + 1, 7, none⟩ = some (.bool false) := kr.cell 7
  have n7 : W0.frozen? ⟨w.heap.size + 1 + 1, 7, none⟩ = false := kr.frozen 7
  have m8 : W0.cell? ⟨w.heap.size + 1 + 1, 8, none⟩ = some (.bool false) := kr.cell 8
  have n8 : W0.frozen? ⟨w.heap.size + 1 + 1, 8, none⟩ = false := kr.frozen 8
  have m9 : W0.cell? ⟨w.heap.size + 1 + 1, 9, none⟩ = some (.bool false) := kr.cell 9
  have n9 : W0.frozen? ⟨w.heap.size + 1 + 1, 9, none⟩ = false := kr.frozen 9
  have m10 : W0.cell? ⟨w.heap.size + 1 + 1, 10, none⟩ = some (.int .u8 0) := kr.cell 10
  have n10 : W0.frozen? ⟨w.heap.size + 1 + 1, 10, none⟩ = false := kr.frozen 10
  have m11 : W0.cell? ⟨w.heap.size + 1 + 1, 11, none⟩ = some (.int .i64 0) := kr.cell 11
  have n11 : W0.frozen? ⟨w.heap.size + 1 + 1, 11, none⟩ = false := kr.frozen 11
  have m12 : W0.cell? ⟨w.heap.size + 1 + 1, 12, none⟩ = some (.int .i64 0) := kr.cell 12
  have n12 : W0.frozen? ⟨w.heap.size + 1 + 1, 12, none⟩ = false := kr.frozen 12
  have hz1 : w.heap.size + 1 < W0.heap.size := kp.lt
  have hz2 : w.heap.size + 1 + 1 < W0.heap.size := kr.lt
  have KR := Lib.hid kr
  have HB0 := Lib.hid hb0
  clear kd kp kr hb0
  have e7 : (turn == 7) = false := by simpa using h7
  have e8 : (turn == 8) = false := by simpa using h8
  clear h7 h8
  go_wp2_with fail
  have hs13 := store13 (w := w) (g := w.heap.size + 1 + 1) HB0.out (by omega) KR.out (.int .i64 0) (.int .i64 0) (.int .i64 0) (.int .i64 0) (.int .i64 0) (.int .i64 0) (.int .i64 0) (.bool false) (.bool false) (.bool false) (.int .u8 0) (.int .i64 0) (.int .i64 0)
  refine bodyPost_ret (v := .tuple #[.agg #[.int .i64 0, .int .i64 0, .int .i64 0, .int .i64 0, .int .i64 0, .int .i64 0, .int .i64 0, .bool false, .bool false, .bool false, .int .u8 0, .int .i64 0, .int .i64 0], .int .u8 0, .bool false, .bool false]) ?_ rfl ?_
  · exact res_turned _ _ (w.heap.size + 1 + 1) (.int .i64 0) (.int .i64 0) (.int .i64 0) (.int .i64 0) (.int .i64 0) (.int .i64 0) (.int .i64 0) (.bool false) (.bool false) (.bool false) (.int .u8 0) (.int .i64 0) (.int .i64 0) (.int .u8 0) (.bool false) (.bool false) rfl rfl rfl rfl hs13.2
  · exact ⟨rfl, hs13.1⟩
set_option maxRecDepth 100000 in
set_option maxHeartbeats 8000000 in
theorem tu_16 (a b c bo fr tr ag : Int) (X : Option Addr) (cp : Nat) (ks : List Cls) (job x1 x2 x3 x4 x5 x6 : Int) (t1 t2 t3 : Bool) (tt si : Int) (now : Int)  (w : World) :
    Calls Try.prog 33 #[.agg #[.int .i64 a, .int .i64 b, .int .i64 c, .int .i64 bo, .int .i64 fr, .int .i64 tr, .int .i64 ag, .slice X ks.length cp], .agg #[.int .i64 job, .int .i64 x1, .int .i64 x2, .int .i64 x3, .int .i64 x4, .int .i64 x5, .int .i64 x6, .bool t1, .bool t2, .bool t3, .int .u8 1, .int .i64 tt, .int .i64 si], .int .u8 6, .int .i64 now] w (fun e w' => e = .returned (.tuple #[.agg #[.int .i64 job, .int .i64 x1, .int .i64 x2, .int .i64 x3, .int .i64 x4, .int .i64 x5, .int .i64 x6, .bool t1, .bool t2, .bool t3, .int .u8 3, .int .i64 tt, .int .i64 now], .int .u8 5, .bool false, .bool true]) ∧ Below w.heap.size w w') := by
  go_enter Try.func33, Try.ntmps33
  go_upto_region 1 with fail
  have kd : Blk (((w.alloc (.cells #[.int .i64 a, .int .i64 b, .int .i64 c, .int .i64 bo, .int .i64 fr, .int .i64 tr, .int .i64 ag, .slice X ks.length cp] 26)).alloc (.cells #[.int .i64 job, .int .i64 x1, .int .i64 x2, .int .i64 x3, .int .i64 x4, .int .i64 x5, .int .i64 x6, .bool t1, .bool t2, .bool t3, .int .u8 1, .int .i64 tt, .int .i64 si] 37)).alloc (.cells #[.int .i64 0, .int .i64 0, .int .i64 0, .int .i64 0, .int .i64 0, .int .i64 0, .int .i64 0, .bool false, .bool false, .bool false, .int .u8 0, .int .i64 0, .int .i64 0] 37)) (w.heap.size) 26 #[.int .i64 a, .int .i64 b, .int .i64 c, .int .i64 bo, .int .i64 fr, .int .i64 tr, .int .i64 ag, .slice X ks.length cp] := ((Blk.new w _ _).alloc _).alloc _
  have kp : Blk (((w.alloc (.cells #[.int .i64 a, .int .i64 b, .int .i64 c, .int .i64 bo, .int .i64 fr, .int .i64 tr, .int .i64 ag, .slice X ks.length cp] 26)).alloc (.cells #[.int .i64 job, .int .i64 x1, .int .i64 x2, .int .i64 x3, .int .i64 x4, .int .i64 x5, .int .i64 x6, .bool t1, .bool t2, .bool t3, .int .u8 1, .int .i64 tt, .int .i64 si] 37)).alloc (.cells #[.int .i64 0, .int .i64 0, .int .i64 0, .int .i64 0, .int .i64 0, .int .i64 0, .int .i64 0, .bool false, .bool false, .bool false, .int .u8 0, .int .i64 0, .int .i64 0] 37)) (w.heap.size + 1) 37 #[.int .i64 job, .int .i64 x1, .int .i64 x2, .int .i64 x3, .int .i64 x4, .int .i64 x5, .int .i64 x6, .bool t1, .bool t2, .bool t3, .int .u8 1, .int .i64 tt, .int .i64 si] := (blk1 w _ _).alloc _
  have kr : Blk (((w.alloc (.cells #[.int .i64 a, .int .i64 b, .int .i64 c, .int .i64 bo, .int .i64 fr, .int .i64 tr, .int .i64 ag, .slice X ks.length cp] 26)).alloc (.cells #[.int .i64 job, .int .i64 x1, .int .i64 x2, .int .i64 x3, .int .i64 x4, .int .i64 x5, .int .i64 x6, .bool t1, .bool t2, .bool t3, .int .u8 1, .int .i64 tt, .int .i64 si] 37)).alloc (.cells #[.int .i64 0, .int .i64 0, .int .i64 0, .int .i64 0, .int .i64 0, .int .i64 0, .int .i64 0, .bool false, .bool false, .bool false, .int .u8 0, .int .i64 0, .int .i64 0] 37)) (w.heap.size + 1 + 1) 37 #[.int .i64 0, .int .i64 0, .int .i64 0, .int .i64 0, .int .i64 0, .int .i64 0, .int .i64 0, .bool false, .bool false, .bool false, .int .u8 0, .int .i64 0, .int .i64 0] := blk2 w _ _
  have hb0 : Below w.heap.size w (((w.alloc (.cells #[.int .i64 a, .int .i64 b, .int .i64 c, .int .i64 bo, .int .i64 fr, .int .i64 tr, .int .i64 ag, .slice X ks.length cp] 26)).alloc (.cells #[.int .i64 job, .int .i64 x1, .int .i64 x2, .int .i64 x3, .int .i64 x4, .int .i64 x5, .int .i64 x6, .bool t1, .bool t2, .bool t3, .int .u8 1, .int .i64 tt, .int .i64 si] 37)).alloc (.cells #[.int .i64 0, .int .i64 0, .int .i64 0, .int .i64 0, .int .i64 0, .int .i64 0, .int .i64 0, .bool false, .bool false, .bool false, .int .u8 0, .int .i64 0, .int .i64 0] 37)) := below_alloc (below_alloc (below_alloc (Below.refl _ _)))
  generalize hW0 : (((w.alloc (.cells #[.int .i64 a, .int .i64 b, .int .i64 c, .int .i64 bo, .int .i64 fr, .int .i64 tr, .int .i64 ag, .slice X ks.length cp] 26)).alloc (.cells #[.int .i64 job, .int .i64 x1, .int .i64 x2, .int .i64 x3, .int .i64 x4, .int .i64 x5, .int .i64 x6, .bool t1, .bool t2, .bool t3, .int .u8 1, .int .i64 tt, .int .i64 si] 37)).alloc (.cells #[.int .i64 0, .int .i64 0, .int .i64 0, .int .i64 0, .int .i64 0, .int .i64 0, .int .i64 0, .bool false, .bool false, .bool false, .int .u8 0, .int .i64 0, .int .i64 0] 37)) = W0 at *
  clear hW0
  have p0 : W0.cell? ⟨w.heap.size + 1, 0, none⟩ = some (.int .i64 job) := kp.cell 0
  have q0 : W0.frozen? ⟨w.heap.size + 1, 0, none⟩ = false := kp.frozen 0
  have p1 : W0.cell? ⟨w.heap.size + 1, 1, none⟩ = some (.int .i64 x1) := kp.cell 1
  have q1 : W0.frozen? ⟨w.heap.size + 1, 1, none⟩ = false := kp.frozen 1
  have p2 : W0.cell? ⟨w.heap.size + 1, 2, none⟩ = some (.int .i64 x2) := kp.cell 2
  have q2 : W0.frozen? ⟨w.heap.size + 1, 2, none⟩ = false := kp.frozen 2
  have p3 : W0.cell? ⟨w.heap.size + 1, 3, none⟩ = some (.int .i64 x3) := kp.cell 3
  have q3 : W0.frozen? ⟨w.heap.size + 1, 3, none⟩ = false := kp.frozen 3
  have p4 : W0.cell? ⟨w.heap.size + 1, 4, none⟩ = some (.int .i64 x4) := kp.cell 4
  have q4 : W0.frozen? ⟨w.heap.size + 1, 4, none⟩ = false := kp.frozen 4
  have p5 : W0.cell? ⟨w.heap.size + 1, 5, none⟩ = some (.int .i64 x5) := kp.cell 5
  have q5 : W0.frozen? ⟨w.heap.size + 1, 5, none⟩ = false := kp.frozen 5
  have p6 : W0.cell? ⟨w.heap.size + 1, 6, none⟩ = some (.int .i64 x6) := kp.cell 6
  have q6 : W0.frozen? ⟨w.heap.size + 1, 6, none⟩ = false := kp.frozen 6
  have p7 : W0.cell? ⟨w.heap.size + 1, 7, none⟩ = some (.bool t1) := kp.cell 7
  have q7 : W0.frozen? ⟨w.heap.size + 1, 7, none⟩ = false := kp.frozen 7
  have p8 : W0.cell? ⟨w.heap.size + 1, 8, none⟩ = some (.bool t2) := kp.cell 8
  have q8 : W0.frozen? ⟨w.heap.size + 1, 8, none⟩ = false := kp.frozen 8
  have p9 : W0.cell? ⟨w.heap.size + 1, 9, none⟩ = some (.bool t3) := kp.cell 9
  have q9 : W0.frozen? ⟨w.heap.size + 1, 9, none⟩ = false := kp.frozen 9
  have p10 : W0.cell? ⟨w.heap.size + 1, 10, none⟩ = some (.int .u8 1) := kp.cell 10
  have q10 : W0.frozen? ⟨w.heap.size + 1, 10, none⟩ = false := kp.frozen 10
  have p11 : W0.cell? ⟨w.heap.size + 1, 11, none⟩ = some (.int .i64 tt) := kp.cell 11
  have q11 : W0.frozen? ⟨w.heap.size + 1, 11, none⟩ = false := kp.frozen 11
  have p12 : W0.cell? ⟨w.heap.size + 1, 12, none⟩ = some (.int .i64 si) := kp.cell 12
  have q12 : W0.frozen? ⟨w.heap.size + 1, 12, none⟩ = false := kp.frozen 12
  have hz1 : w.heap.size + 1 < W0.heap.size := kp.lt
  have hz2 : w.heap.size + 1 + 1 < W0.heap.size := kr.lt
  have KR := Lib.hid kr
  have HB0 := Lib.hid hb0
  clear kd kp kr hb0
  go_wp2_with fail
  refine (freed_any job x1 x2 x3 x4 x5 x6 t1 t2 t3 1 tt si now _).mono ?_
  rintro e w1 ⟨rfl, hB1⟩
  have kr := KR.out.below hB1 hz2
  have hb1 := below_up HB0.out hB1
  have KR1 := Lib.hid kr
  have HB1 := Lib.hid hb1
  have hy2 : w.heap.size + 1 + 1 < w1.heap.size := kr.lt
  clear hB1 hb1
  have m0 : w1.cell? ⟨w.heap.size + 1 + 1, 0, none⟩ = some (.int .i64 0) := kr.cell 0
  have n0 : w1.frozen? ⟨w.heap.size + 1 + 1, 0, none⟩ = false := kr.frozen 0
  have m1 : w1.cell? ⟨w.heap.size + 1 + 1, 1, none⟩ = some (.int .i64 0) := kr.cell 1
  have n1 : w1.frozen? ⟨w.heap.size + 1 + 1, 1, none⟩ = false := kr.frozen 1
  have m2 : w1.cell? ⟨w.heap.size + 1 + 1, 2, none⟩ = some (.int .i64 0) := kr.cell 2
  have n2 : w1.frozen? ⟨w.heap.size + 1 + 1, 2, none⟩ = false := kr.frozen 2
  have m3 : w1.cell? ⟨w.heap.size + 1 + 1, 3, none⟩ = some (.int .i64 0) := kr.cell 3
  have n3 : w1.frozen? ⟨w.heap.size + 1 + 1, 3, none⟩ = false := kr.frozen 3
  have m4 : w1.cell? ⟨w.heap.size + 1 + 1, 4, none⟩ = some (.int .i64 0) := kr.cell 4
  have n4 : w1.frozen? ⟨w.heap.size + 1 + 1, 4, none⟩ = false := kr.frozen 4
  have m5 : w1.cell? ⟨w.heap.size + 1 + 1, 5, none⟩ = some (.int .i64 0) := kr.cell 5
  have n5 : w1.frozen? ⟨w.heap.size + 1 + 1, 5, none⟩ = false := kr.frozen 5
  have m6 : w1.cell? ⟨w.heap.size + 1 + 1, 6, none⟩ = some (.int .i64 0) := kr.cell 6
  have n6 : w1.frozen? ⟨w.heap.size + 1 + 1, 6, none⟩ = false := kr.frozen 6
  have m7 : w1.cell? ⟨w.heap.size + 1 + 1, 7, none⟩ = some (.bool false) := kr.cell 7
  have n7 : w1.frozen? ⟨w.heap.size + 1 + 1, 7, none⟩ = false := kr.frozen 7
  have m8 : w1.cell? ⟨w.heap.size + 1 + 1, 8, none⟩ = some (.bool false) := kr.cell 8
  have n8 : w1.frozen? ⟨w.heap.size + 1 + 1, 8, none⟩ = false := kr.frozen 8
  have m9 : w1.cell? ⟨w.heap.size + 1 + 1, 9, none⟩ = some (.bool false) := kr.cell 9
  have n9 : w1.frozen? ⟨w.heap.size + 1 + 1, 9, none⟩ = false := kr.frozen 9
  have m10 : w1.cell? ⟨w.heap.size + 1 + 1, 10, none⟩ = some (.int .u8 0) := kr.cell 10
  have n10 : w1.frozen? ⟨w.heap.size + 1 + 1, 10, none⟩ = false := kr.frozen 10
  have m11 : w1.cell? ⟨w.heap.size + 1 + 1, 11, none⟩ = some (.int .i64 0) := kr.cell 11
  have n11 : w1.frozen? ⟨w.heap.size + 1 + 1, 11, none⟩ = false := kr.frozen 11
  have m12 : w1.cell? ⟨w.heap.size + 1 + 1, 12, none⟩ = some (.int .i64 0) := kr.cell 12
  have n12 : w1.frozen? ⟨w.heap.size + 1 + 1, 12, none⟩ = false := kr.frozen 12
  clear kr
  go_wp2_with fail
  have hs13 := store13 (w := w) (g := w.heap.size + 1 + 1) HB1.out (by omega) KR1.out (.int .i64 job) (.int .i64 x1) (.int .i64 x2) (.int .i64 x3) (.int .i64 x4) (.int .i64 x5) (.int .i64 x6) (.bool t1) (.bool t2) (.bool t3) (.int .u8 3) (.int .i64 tt) (.int .i64 now)
  refine bodyPost_ret (v := .tuple #[.agg #[.int .i64 job, .int .i64 x1, .int .i64 x2, .int .i64 x3, .int .i64 x4, .int .i64 x5, .int .i64 x6, .bool t1, .bool t2, .bool t3, .int .u8 3, .int .i64 tt, .int .i64 now], .int .u8 5, .bool false, .bool true]) ?_ rfl ?_
  · exact res_turned _ _ (w.heap.size + 1 + 1) (.int .i64 job) (.int .i64 x1) (.int .i64 x2) (.int .i64 x3) (.int .i64 x4) (.int .i64 x5) (.int .i64 x6) (.bool t1) (.bool t2) (.bool t3) (.int .u8 3) (.int .i64 tt) (.int .i64 now) (.int .u8 5) (.bool false) (.bool true) rfl rfl rfl rfl hs13.2
  · exact ⟨rfl, hs13.1⟩
set_option maxRecDepth 100000 in
set_option maxHeartbeats 8000000 in
theorem tu_17 (a b c bo fr tr ag : Int) (X : Option Addr) (cp : Nat) (ks : List Cls) (job x1 x2 x3 x4 x5 x6 : Int) (t1 t2 t3 : Bool) (tt si : Int) (now : Int)  (w : World) :
    Calls Try.prog 33 #[.agg #[.int .i64 a, .int .i64 b, .int .i64 c, .int .i64 bo, .int .i64 fr, .int .i64 tr, .int .i64 ag, .slice X ks.length cp], .agg #[.int .i64 job, .int .i64 x1, .int .i64 x2, .int .i64 x3, .int .i64 x4, .int .i64 x5, .int .i64 x6, .bool t1, .bool t2, .bool t3, .int .u8 1, .int .i64 tt, .int .i64 si], .int .u8 7, .int .i64 now] w (fun e w' => e = .returned (.tuple #[.agg #[.int .i64 job, .int .i64 x1, .int .i64 x2, .int .i64 x3, .int .i64 x4, .int .i64 x5, .int .i64 x6, .bool t1, .bool t2, .bool t3, .int .u8 3, .int .i64 tt, .int .i64 now], .int .u8 6, .bool false, .bool true]) ∧ Below w.heap.size w w') := by
  go_enter Try.func33, Try.ntmps33
  go_upto_region 1 with fail
  have kd : Blk (((w.alloc (.cells #[.int .i64 a, .int .i64 b, .int .i64 c, .int .i64 bo, .int .i64 fr, .int .i64 tr, .int .i64 ag, .slice X ks.length cp] 26)).alloc (.cells #[.int .i64 job, .int .i64 x1, .int .i64 x2, .int .i64 x3, .int .i64 x4, .int .i64 x5, .int .i64 x6, .bool t1, .bool t2, .bool t3, .int .u8 1, .int .i64 tt, .int .i64 si] 37)).alloc (.cells #[.int .i64 0, .int .i64 0, .int .i64 0, .int .i64 0, .int .i64 0, .int .i64 0, .int .i64 0, .bool false, .bool false, .bool false, .int .u8 0, .int .i64 0, .int .i64 0] 37)) (w.heap.size) 26 #[.int .i64 a, .int .i64 b, .int .i64 c, .int .i64 bo, .int .i64 fr, .int .i64 tr, .int .i64 ag, .slice X ks.length cp] := ((Blk.new w _ _).alloc _).alloc _
  have kp : Blk (((w.alloc (.cells #[.int .i64 a, .int .i64 b, .int .i64 c, .int .i64 bo, .int .i64 fr, .int .i64 tr, .int .i64 ag, .slice X ks.length cp] 26)).alloc (.cells #[.int .i64 job, .int .i64 x1, .int .i64 x2, .int .i64 x3, .int .i64 x4, .int .i64 x5, .int .i64 x6, .bool t1, .bool t2, .bool t3, .int .u8 1, .int .i64 tt, .int .i64 si] 37)).alloc (.cells #[.int .i64 0, .int .i64 0, .int .i64 0, .int .i64 0, .int .i64 0, .int .i64 0, .int .i64 0, .bool false, .bool false, .bool false, .int .u8 0, .int .i64 0, .int .i64 0] 37)) (w.heap.size + 1) 37 #[.int .i64 job, .int .i64 x1, .int .i64 x2, .int .i64 x3, .int .i64 x4, .int .i64 x5, .int .i64 x6, .bool t1, .bool t2, .bool t3, .int .u8 1, .int .i64 tt, .int .i64 si] := (blk1 w _ _).alloc _
  have kr : Blk (((w.alloc (.cells #[.int .i64 a, .int .i64 b, .int .i64 c, .int .i64 bo, .int .i64 fr, .int .i64 tr, .int .i64 ag, .slice X ks.length cp] 26)).alloc (.cells #[.int .i64 job, .int .i64 x1, .int .i64 x2, .int .i64 x3, .int .i64 x4, .int .i64 x5, .int .i64 x6, .bool t1, .bool t2, .bool t3, .int .u8 1, .int .i64 tt, .int .i64 si] 37)).alloc (.cells #[.int .i64 0, .int .i64 0, .int .i64 0, .int .i64 0, .int .i64 0, .int .i64 0, .int .i64 0, .bool false, .bool false, .bool false, .int .u8 0, .int .i64 0, .int .i64 0] 37)) (w.heap.size + 1 + 1) 37 #[.int .i64 0, .int .i64 0, .int .i64 0, .int .i64 0, .int .i64 0, .int .i64 0, .int .i64 0, .bool false, .bool false, .bool false, .int .u8 0, .int .i64 0, .int .i64 0] := blk2 w _ _
  have hb0 : Below w.heap.size w (((w.alloc (.cells #[.int .i64 a, .int .i64 b, .int .i64 c, .int .i64 bo, .int .i64 fr, .int .i64 tr, .int .i64 ag, .slice X ks.length cp] 26)).alloc (.cells #[.int .i64 job, .int .i64 x1, .int .i64 x2, .int .i64 x3, .int .i64 x4, .int .i64 x5, .int .i64 x6, .bool t1, .bool t2, .bool t3, .int .u8 1, .int .i64 tt, .int .i64 si] 37)).alloc (.cells #[.int .i64 0, .int .i64 0, .int .i64 0, .int .i64 0, .int .i64 0, .int .i64 0, .int .i64 0, .bool false, .bool false, .bool false, .int .u8 0, .int .i64 0, .int .i64 0] 37)) := below_alloc (below_alloc (below_alloc (Below.refl _ _)))
  generalize hW0 : (((w.alloc (.cells #[.int .i64 a, .int .i64 b, .int .i64 c, .int .i64 bo, .int .i64 fr, .int .i64 tr, .int .i64 ag, .slice X ks.length cp] 26)).alloc (.cells #[.int .i64 job, .int .i64 x1, .int .i64 x2, .int .i64 x3, .int .i64 x4, .int .i64 x5, .int .i64 x6, .bool t1, .bool t2, .bool t3, .int .u8 1, .int .i64 tt, .int .i64 si] 37)).alloc (.cells #[.int .i64 0, .int .i64 0, .int .i64 0, .int .i64 0, .int .i64 0, .int .i64 0, .int .i64 0, .bool false, .bool false, .bool false, .int .u8 0, .int .i64 0, .int .i64 0] 37)) = W0 at *
  clear hW0
  have p0 : W0.cell? ⟨w.heap.size + 1, 0, none⟩ = some (.int .i64 job) := kp.cell 0
  have q0 : W0.frozen? ⟨w.heap.size + 1, 0, none⟩ = false := kp.frozen 0
  have p1 : W0.cell? ⟨w.heap.size + 1, 1, none⟩ = some (.int .i64 x1) := kp.cell 1
  have q1 : W0.frozen? ⟨w.heap.size + 1, 1, none⟩ = false := kp.frozen 1
  have p2 : W0.cell? ⟨w.heap.size + 1, 2, none⟩ = some (.int .i64 x2) := kp.cell 2
  have q2 : W0.frozen? ⟨w.heap.size + 1, 2, none⟩ = false := kp.frozen 2
  have p3 : W0.cell? ⟨w.heap.size + 1, 3, none⟩ = some (.int .i64 x3) := kp.cell 3
  have q3 : W0.frozen? ⟨w.heap.size + 1, 3, none⟩ = false := kp.frozen 3
  have p4 : W0.cell? ⟨w.heap.size + 1, 4, none⟩ = some (.int .i64 x4) := kp.cell 4
  have q4 : W0.frozen? ⟨w.heap.size + 1, 4, none⟩ = false := kp.frozen 4
  have p5 : W0.cell? ⟨w.heap.size + 1, 5, none⟩ = some (.int .i64 x5) := kp.cell 5
  have q5 : W0.frozen? ⟨w.heap.size + 1, 5, none⟩ = false := kp.frozen 5
  have p6 : W0.cell? ⟨w.heap.size + 1, 6, none⟩ = some (.int .i64 x6) := kp.cell 6
  have q6 : W0.frozen? ⟨w.heap.size + 1, 6, none⟩ = false := kp.frozen 6
  have p7 : W0.cell? ⟨w.heap.size + 1, 7, none⟩ = some (.bool t1) := kp.cell 7
  have q7 : W0.frozen? ⟨w.heap.size + 1, 7, none⟩ = false := kp.frozen 7
  have p8 : W0.cell? ⟨w.heap.size + 1, 8, none⟩ = some (.bool t2) := kp.cell 8
  have q8 : W0.frozen? ⟨w.heap.size + 1, 8, none⟩ = false := kp.frozen 8
  have p9 : W0.cell? ⟨w.heap.size + 1, 9, none⟩ = some (.bool t3) := kp.cell 9
  have q9 : W0.frozen? ⟨w.heap.size + 1, 9, none⟩ = false := kp.frozen 9
  have p10 : W0.cell? ⟨w.heap.size + 1, 10, none⟩ = some (.int .u8 1) := kp.cell 10
  have q10 : W0.frozen? ⟨w.heap.size + 1, 10, none⟩ = false := kp.frozen 10
  have p11 : W0.cell? ⟨w.heap.size + 1, 11, none⟩ = some (.int .i64 tt) := kp.cell 11
  have q11 : W0.frozen? ⟨w.heap.size + 1, 11, none⟩ = false := kp.frozen 11
  have p12 : W0.cell? ⟨w.heap.size + 1, 12, none⟩ = some (.int .i64 si) := kp.cell 12
  have q12 : W0.frozen? ⟨w.heap.size + 1, 12, none⟩ = false := kp.frozen 12
  have hz1 : w.heap.size + 1 < W0.heap.size := kp.lt
  have hz2 : w.heap.size + 1 + 1 < W0.heap.size := kr.lt
  have KR := Lib.hid kr
  have HB0 := Lib.hid hb0
  clear kd kp kr hb0
  go_wp2_with fail
  refine (freed_any job x1 x2 x3 x4 x5 x6 t1 t2 t3 1 tt si now _).mono ?_
  rintro e w1 ⟨rfl, hB1⟩
  have kr := KR.out.below hB1 hz2
  have hb1 := below_up HB0.out hB1
  have KR1 := Lib.hid kr
  have HB1 := Lib.hid hb1
  have hy2 : w.heap.size + 1 + 1 < w1.heap.size := kr.lt
  clear hB1 hb1
  have m0 : w1.cell? ⟨w.heap.size + 1 + 1, 0, none⟩ = some (.int .i64 0) := kr.cell 0
  have n0 : w1.frozen? ⟨w.heap.size + 1 + 1, 0, none⟩ = false := kr.frozen 0
  have m1 : w1.cell? ⟨w.heap.size + 1 + 1, 1, none⟩ = some (.int .i64 0) := kr.cell 1
  have n1 : w1.frozen? ⟨w.heap.size + 1 + 1, 1, none⟩ = false := kr.frozen 1
  have m2 : w1.cell? ⟨w.heap.size + 1 + 1, 2, none⟩ = some (.int .i64 0) := kr.cell 2
  have n2 : w1.frozen? ⟨w.heap.size + 1 + 1, 2, none⟩ = false := kr.frozen 2
  have m3 : w1.cell? ⟨w.heap.size + 1 + 1, 3, none⟩ = some (.int .i64 0) := kr.cell 3
  have n3 : w1.frozen? ⟨w.heap.size + 1 + 1, 3, none⟩ = false := kr.frozen 3
  have m4 : w1.cell? ⟨w.heap.size + 1 + 1, 4, none⟩ = some (.int .i64 0) := kr.cell 4
  have n4 : w1.frozen? ⟨w.heap.size + 1 + 1, 4, none⟩ = false := kr.frozen 4
  have m5 : w1.cell? ⟨w.heap.size + 1 + 1, 5, none⟩ = some (.int .i64 0) := kr.cell 5
  have n5 : w1.frozen? ⟨w.heap.size + 1 + 1, 5, none⟩ = false := kr.frozen 5
  have m6 : w1.cell? ⟨w.heap.size + 1 + 1, 6, none⟩ = some (.int .i64 0) := kr.cell 6
  have n6 : w1.frozen? ⟨w.heap.size + 1 + 1, 6, none⟩ = false := kr.frozen 6
  have m7 : w1.cell? ⟨w.heap.size + 1 + 1, 7, none⟩ = some (.bool false) := kr.cell 7
  have n7 : w1.frozen? ⟨w.heap.size + 1 + 1, 7, none⟩ = false := kr.frozen 7
  have m8 : w1.cell? ⟨w.heap.size + 1 + 1, 8, none⟩ = some (.bool false) := kr.cell 8
  have n8 : w1.frozen? ⟨w.heap.size + 1 + 1, 8, none⟩ = false := kr.frozen 8
  have m9 : w1.cell? ⟨w.heap.size + 1 + 1, 9, none⟩ = some (.bool false) := kr.cell 9
  have n9 : w1.frozen? ⟨w.heap.size + 1 + 1, 9, none⟩ = false := kr.frozen 9
  have m10 : w1.cell? ⟨w.heap.size + 1 + 1, 10, none⟩ = some (.int .u8 0) := kr.cell 10
  have n10 : w1.frozen? ⟨w.heap.size + 1 + 1, 10, none⟩ = false := kr.frozen 10
  have m11 : w1.cell? ⟨w.heap.size + 1 + 1, 11, none⟩ = some (.int .i64 0) := kr.cell 11
  have n11 : w1.frozen? ⟨w.heap.size + 1 + 1, 11, none⟩ = false := kr.frozen 11
  have m12 : w1.cell? ⟨w.heap.size + 1 + 1, 12, none⟩ = some (.int .i64 0) := kr.cell 12
  have n12 : w1.frozen? ⟨w.heap.size + 1 + 1, 12, none⟩ = false := kr.frozen 12
  clear kr
  go_wp2_with fail
  have hs13 := store13 (w := w) (g := w.heap.size + 1 + 1) HB1.out (by omega) KR1.out (.int .i64 job) (.int .i64 x1) (.int .i64 x2) (.int .i64 x3) (.int .i64 x4) (.int .i64 x5) (.int .i64 x6) (.bool t1) (.bool t2) (.bool t3) (.int .u8 3) (.int .i64 tt) (.int .i64 now)
  refine bodyPost_ret (v := .tuple #[.agg #[.int .i64 job, .int .i64 x1, .int .i64 x2, .int .i64 x3, .int .i64 x4, .int .i64 x5, .int .i64 x6, .bool t1, .bool t2, .bool t3, .int .u8 3, .int .i64 tt, .int .i64 now], .int .u8 6, .bool false, .bool true]) ?_ rfl ?_
  · exact res_turned _ _ (w.heap.size + 1 + 1) (.int .i64 job) (.int .i64 x1) (.int .i64 x2) (.int .i64 x3) (.int .i64 x4) (.int .i64 x5) (.int .i64 x6) (.bool t1) (.bool t2) (.bool t3) (.int .u8 3) (.int .i64 tt) (.int .i64 now) (.int .u8 6) (.bool false) (.bool true) rfl rfl rfl rfl hs13.2
  · exact ⟨rfl, hs13.1⟩
set_option maxRecDepth 100000 in
set_option maxHeartbeats 8000000 in
theorem tu_11 (a b c bo fr tr ag : Int) (X : Option Addr) (cp : Nat) (ks : List Cls) (job x1 x2 x3 x4 x5 x6 : Int) (t1 t2 t3 : Bool) (tt si : Int) (now : Int)  (w : World) :
    Calls Try.prog 33 #[.agg #[.int .i64 a, .int .i64 b, .int .i64 c, .int .i64 bo, .int .i64 fr, .int .i64 tr, .int .i64 ag, .slice X ks.length cp], .agg #[.int .i64 job, .int .i64 x1, .int .i64 x2, .int .i64 x3, .int .i64 x4, .int .i64 x5, .int .i64 x6, .bool t1, .bool t2, .bool t3, .int .u8 1, .int .i64 tt, .int .i64 si], .int .u8 1, .int .i64 now] w (fun e w' => e = .returned (.tuple #[.agg #[.int .i64 job, .int .i64 x1, .int .i64 x2, .int .i64 x3, .int .i64 x4, .int .i64 x5, .int .i64 x6, .bool t1, .bool t2, .bool t3, .int .u8 2, .int .i64 tt, .int .i64 now], .int .u8 0, .bool false, .bool true]) ∧ Below w.heap.size w w') := by
  go_enter Try.func33, Try.ntmps33
  go_upto_region 1 with fail
  have kd : Blk (((w.alloc (.cells #[.int .i64 a, .int .i64 b, .int .i64 c, .int .i64 bo, .int .i64 fr, .int .i64 tr, .int .i64 ag, .slice X ks.length cp] 26)).alloc (.cells #[.int .i64 job, .int .i64 x1, .int .i64 x2, .int .i64 x3, .int .i64 x4, .int .i64 x5, .int .i64 x6, .bool t1, .bool t2, .bool t3, .int .u8 1, .int .i64 tt, .int .i64 si] 37)).alloc (.cells #[.int .i64 0, .int .i64 0, .int .i64 0, .int .i64 0, .int .i64 0, .int .i64 0, .int .i64 0, .bool false, .bool false, .bool false, .int .u8 0, .int .i64 0, .int .i64 0] 37)) (w.heap.size) 26 #[.int .i64 a, .int .i64 b, .int .i64 c, .int .i64 bo, .int .i64 fr, .int .i64 tr, .int .i64 ag, .slice X ks.length cp] := ((Blk.new w _ _).alloc _).alloc _
  have kp : Blk (((w.alloc (.cells #[.int .i64 a, .int .i64 b, .int .i64 c, .int .i64 bo, .int .i64 fr, .int .i64 tr, .int .i64 ag, .slice X ks.length cp] 26)).alloc (.cells #[.int .i64 job, .int .i64 x1, .int .i64 x2, .int .i64 x3, .int .i64 x4, .int .i64 x5, .int .i64 x6, .bool t1, .bool t2, .bool t3, .int .u8 1, .int .i64 tt, .int .i64 si] 37)).alloc (.cells #[.int .i64 0, .int .i64 0, .int .i64 0, .int .i64 0, .int .i64 0, .int .i64 0, .int .i64 0, .bool false, .bool false, .bool false, .int .u8 0, .int .i64 0, .int .i64 0] 37)) (w.heap.size + 1) 37 #[.int .i64 job, .int .i64 x1, .int .i64 x2, .int .i64 x3, .int .i64 x4, .int .i64 x5, .int .i64 x6, .bool t1, .bool t2, .bool t3, .int .u8 1, .int .i64 tt, .int .i64 si] := (blk1 w _ _).alloc _
  have kr : Blk (((w.alloc (.cells #[.int .i64 a, .int .i64 b, .int .i64 c, .int .i64 bo, .int .i64 fr, .int .i64 tr, .int .i64 ag, .slice X ks.length cp] 26)).alloc (.cells #[.int .i64 job, .int .i64 x1, .int .i64 x2, .int .i64 x3, .int .i64 x4, .int .i64 x5, .int .i64 x6, .bool t1, .bool t2, .bool t3, .int .u8 1, .int .i64 tt, .int .i64 si] 37)).alloc (.cells #[.int .i64 0, .int .i64 0, .int .i64 0, .int .i64 0, .int .i64 0, .int .i64 0, .int .i64 0, .bool false, .bool false, .bool false, .int .u8 0, .int .i64 0, .int .i64 0] 37)) (w.heap.size + 1 + 1) 37 #[.int .i64 0, .int .i64 0, .int .i64 0, .int .i64 0, .int .i64 0, .int .i64 0, .int .i64 0, .bool false, .bool false, .bool false, .int .u8 0, .int .i64 0, .int .i64 0] := blk2 w _ _
  have hb0 : Below w.heap.size w (((w.alloc (.cells #[.int .i64 a, .int .i64 b, .int .i64 c, .int .i64 bo, .int .i64 fr, .int .i64 tr, .int .i64 ag, .slice X ks.length cp] 26)).alloc (.cells #[.int .i64 job, .int .i64 x1, .int .i64 x2, .int .i64 x3, .int .i64 x4, .int .i64 x5, .int .i64 x6, .bool t1, .bool t2, .bool t3, .int .u8 1, .int .i64 tt, .int .i64 si] 37)).alloc (.cells #[.int .i64 0, .int .i64 0, .int .i64 0, .int .i64 0, .int .i64 0, .int .i64 0, .int .i64 0, .bool false, .bool false, .bool false, .int .u8 0, .int .i64 0, .int .i64 0] 37)) := below_alloc (below_alloc (below_alloc (Below.refl _ _)))
  generalize hW0 : (((w.alloc (.cells #[.int .i64 a, .int .i64 b, .int .i64 c, .int .i64 bo, .int .i64 fr, .int .i64 tr, .int .i64 ag, .slice X ks.length cp] 26)).alloc (.cells #[.int .i64 job, .int .i64 x1, .int .i64 x2, .int .i64 x3, .int .i64 x4, .int .i64 x5, .int .i64 x6, .bool t1, .bool t2, .bool t3, .int .u8 1, .int .i64 tt, .int .i64 si] 37)).alloc (.cells #[.int .i64 0, .int .i64 0, .int .i64 0, .int .i64 0, .int .i64 0, .int .i64 0, .int .i64 0, .bool false, .bool false, .bool false, .int .u8 0, .int .i64 0, .int .i64 0] 37)) = W0 at *
  clear hW0
  have p0 : W0.cell? ⟨w.heap.size + 1, 0, none⟩ = some (.int .i64 job) := kp.cell 0
  have q0 : W0.frozen? ⟨w.heap.size + 1, 0, none⟩ = false := kp.frozen 0
  have p1 : W0.cell? ⟨w.heap.size + 1, 1, none⟩ = some (.int .i64 x1) := kp.cell 1
  have q1 : W0.frozen? ⟨w.heap.size + 1, 1, none⟩ = false := kp.frozen 1
  have p2 : W0.cell? ⟨w.heap.size + 1, 2, none⟩ = some (.int .i64 x2) := kp.cell 2
  have q2 : W0.frozen? ⟨w.heap.size + 1, 2, none⟩ = false := kp.frozen 2
  have p3 : W0.cell? ⟨w.heap.size + 1, 3, none⟩ = some (.int .i64 x3) := kp.cell 3
  have q3 : W0.frozen? ⟨w.heap.size + 1, 3, none⟩ = false := kp.frozen 3
  have p4 : W0.cell? ⟨w.heap.size + 1, 4, none⟩ = some (.int .i64 x4) := kp.cell 4
  have q4 : W0.frozen? ⟨w.heap.size + 1, 4, none⟩ = false := kp.frozen 4
  have p5 : W0.cell? ⟨w.heap.size + 1, 5, none⟩ = some (.int .i64 x5) := kp.cell 5
  have q5 : W0.frozen? ⟨w.heap.size + 1, 5, none⟩ = false := kp.frozen 5
  have p6 : W0.cell? ⟨w.heap.size + 1, 6, none⟩ = some (.int .i64 x6) := kp.cell 6
  have q6 : W0.frozen? ⟨w.heap.size + 1, 6, none⟩ = false := kp.frozen 6
  have p7 : W0.cell? ⟨w.heap.size + 1, 7, none⟩ = some (.bool t1) := kp.cell 7
  have q7 : W0.frozen? ⟨w.heap.size + 1, 7, none⟩ = false := kp.frozen 7
  have p8 : W0.cell? ⟨w.heap.size + 1, 8, none⟩ = some (.bool t2) := kp.cell 8
  have q8 : W0.frozen? ⟨w.heap.size + 1, 8, none⟩ = false := kp.frozen 8
  have p9 : W0.cell? ⟨w.heap.size + 1, 9, none⟩ = some (.bool t3) := kp.cell 9
  have q9 : W0.frozen? ⟨w.heap.size + 1, 9, none⟩ = false := kp.frozen 9
  have p10 : W0.cell? ⟨w.heap.size + 1, 10, none⟩ = some (.int .u8 1) := kp.cell 10
  have q10 : W0.frozen? ⟨w.heap.size + 1, 10, none⟩ = false := kp.frozen 10
  have p11 : W0.cell? ⟨w.heap.size + 1, 11, none⟩ = some (.int .i64 tt) := kp.cell 11
  have q11 : W0.frozen? ⟨w.heap.size + 1, 11, none⟩ = false := kp.frozen 11
  have p12 : W0.cell? ⟨w.heap.size + 1, 12, none⟩ = some (.int .i64 si) := kp.cell 12
  have q12 : W0.frozen? ⟨w.heap.size + 1, 12, none⟩ = false := kp.frozen 12
  have m0 : W0.cell? ⟨w.heap.size + 1 + 1, 0, none⟩ = some (.int .i64 0) := kr.cell 0
  have n0 : W0.frozen? ⟨w.heap.size + 1 + 1, 0, none⟩ = false := kr.frozen 0
  have m1 : W0.cell? ⟨w.heap.size + 1 + 1, 1, none⟩ = some (.int .i64 0) := kr.cell 1
  have n1 : W0.frozen? ⟨w.heap.size + 1 + 1, 1, none⟩ = false := kr.frozen 1
  have m2 : W0.cell? ⟨w.heap.size + 1 + 1, 2, none⟩ = some (.int .i64 0) := kr.cell 2
  have n2 : W0.frozen? ⟨w.heap.size + 1 + 1, 2, none⟩ = false := kr.frozen 2
  have m3 : W0.cell? ⟨w.heap.size + 1 + 1, 3, none⟩ = some (.int .i64 0) := kr.cell 3
  have n3 : W0.frozen? ⟨w.heap.size + 1 + 1, 3, none⟩ = false := kr.frozen 3
  have m4 : W0.cell? ⟨w.heap.size + 1 + 1, 4, none⟩ = some (.int .i64 0) := kr.cell 4
  have n4 : W0.frozen? ⟨w.heap.size + 1 + 1, 4, none⟩ = false := kr.frozen 4
  have m5 : W0.cell? ⟨w.heap.size + 1 + 1, 5, none⟩ = some (.int .i64 0) := kr.cell 5
  have n5 : W0.frozen? ⟨w.heap.size + 1 + 1, 5, none⟩ = false := kr.frozen 5
  have m6 : W0.cell? ⟨w.heap.size + 1 + 1, 6, none⟩ = some (.int .i64 0) := kr.cell 6
  have n6 : W0.frozen? ⟨w.heap.size + 1 + 1, 6, none⟩ = false := kr.frozen 6
  have m7 : W0.cell? ⟨w.heap.size + 1 + 1, 7, none⟩ = some (.bool false) := kr.cell 7
  have n7 : W0.frozen? ⟨w.heap.size + 1 + 1, 7, none⟩ = false := kr.frozen 7
  have m8 : W0.cell? ⟨w.heap.size + 1 + 1, 8, none⟩ = some (.bool false) := kr.cell 8
  have n8 : W0.frozen? ⟨w.heap.size + 1 + 1, 8, none⟩ = false := kr.frozen 8
  have m9 : W0.cell? ⟨w.heap.size + 1 + 1, 9, none⟩ = some (.bool false) := kr.cell 9
  have n9 : W0.frozen? ⟨w.heap.size + 1 + 1, 9, none⟩ = false := kr.frozen 9
  have m10 : W0.cell? ⟨w.heap.size + 1 + 1, 10, none⟩ = some (.int .u8 0) := kr.cell 10
  have n10 : W0.frozen? ⟨w.heap.size + 1 + 1, 10, none⟩ = false := kr.frozen 10
  have m11 : W0.cell? ⟨w.heap.size + 1 + 1, 11, none⟩ = some (.int .i64 0) := kr.cell 11
  have n11 : W0.frozen? ⟨w.heap.size + 1 + 1, 11, none⟩ = false := kr.frozen 11
  have m12 : W0.cell? ⟨w.heap.size + 1 + 1, 12, none⟩ = some (.int .i64 0) := kr.cell 12
  have n12 : W0.frozen? ⟨w.heap.size + 1 + 1, 12, none⟩ = false := kr.frozen 12
  have hz1 : w.heap.size + 1 < W0.heap.size := kp.lt
  have hz2 : w.heap.size + 1 + 1 < W0.heap.size := kr.lt
  have KR := Lib.hid kr
  have HB0 := Lib.hid hb0
  clear kd kp kr hb0
  go_wp2_with fail
  have hs13 := store13 (w := w) (g := w.heap.size + 1 + 1) ((HB0.out.setCell (p := ⟨w.heap.size + 1, 10, none⟩) (by simp) _).setCell (p := ⟨w.heap.size + 1, 12, none⟩) (by simp) _) (by omega) ((KR.out.far (p := ⟨w.heap.size + 1, 10, none⟩) (by simp) (.int .u8 2)).far (p := ⟨w.heap.size + 1, 12, none⟩) (by simp) (.int .i64 now)) (.int .i64 job) (.int .i64 x1) (.int .i64 x2) (.int .i64 x3) (.int .i64 x4) (.int .i64 x5) (.int .i64 x6) (.bool t1) (.bool t2) (.bool t3) (.int .u8 2) (.int .i64 tt) (.int .i64 now)
  refine bodyPost_ret (v := .tuple #[.agg #[.int .i64 job, .int .i64 x1, .int .i64 x2, .int .i64 x3, .int .i64 x4, .int .i64 x5, .int .i64 x6, .bool t1, .bool t2, .bool t3, .int .u8 2, .int .i64 tt, .int .i64 now], .int .u8 0, .bool false, .bool true]) ?_ rfl ?_
  · exact res_turned _ _ (w.heap.size + 1 + 1) (.int .i64 job) (.int .i64 x1) (.int .i64 x2) (.int .i64 x3) (.int .i64 x4) (.int .i64 x5) (.int .i64 x6) (.bool t1) (.bool t2) (.bool t3) (.int .u8 2) (.int .i64 tt) (.int .i64 now) (.int .u8 0) (.bool false) (.bool true) rfl rfl rfl rfl hs13.2
  · exact ⟨rfl, hs13.1⟩
set_option maxRecDepth 100000 in
set_option maxHeartbeats 8000000 in
theorem tu_12e (a b c bo fr ag : Int) (X : Option Addr) (cp : Nat) (ks : List Cls) (job x1 x2 x3 x4 x5 x6 : Int) (t1 t2 t3 : Bool) (tt si : Int) (now : Int)  (w : World) :
    Calls Try.prog 33 #[.agg #[.int .i64 a, .int .i64 b, .int .i64 c, .int .i64 bo, .int .i64 fr, .int .i64 tt, .int .i64 ag, .slice X ks.length cp], .agg #[.int .i64 job, .int .i64 x1, .int .i64 x2, .int .i64 x3, .int .i64 x4, .int .i64 x5, .int .i64 x6, .bool t1, .bool t2, .bool t3, .int .u8 1, .int .i64 tt, .int .i64 si], .int .u8 2, .int .i64 now] w (fun e w' => e = .returned (.tuple #[.agg #[.int .i64 job, .int .i64 x1, .int .i64 x2, .int .i64 x3, .int .i64 x4, .int .i64 x5, .int .i64 x6, .bool t1, .bool t2, .bool t3, .int .u8 3, .int .i64 tt, .int .i64 now], .int .u8 6, .bool false, .bool true]) ∧ Below w.heap.size w w') := by
  go_enter Try.func33, Try.ntmps33
  go_upto_region 1 with fail
  have kd : Blk (((w.alloc (.cells #[.int .i64 a, .int .i64 b, .int .i64 c, .int .i64 bo, .int .i64 fr, .int .i64 tt, .int .i64 ag, .slice X ks.length cp] 26)).alloc (.cells #[.int .i64 job, .int .i64 x1, .int .i64 x2, .int .i64 x3, .int .i64 x4, .int .i64 x5, .int .i64 x6, .bool t1, .bool t2, .bool t3, .int .u8 1, .int .i64 tt, .int .i64 si] 37)).alloc (.cells #[.int .i64 0, .int .i64 0, .int .i64 0, .int .i64 0, .int .i64 0, .int .i64 0, .int .i64 0, .bool false, .bool false, .bool false, .int .u8 0, .int .i64 0, .int .i64 0] 37)) (w.heap.size) 26 #[.int .i64 a, .int .i64 b, .int .i64 c, .int .i64 bo, .int .i64 fr, .int .i64 tt, .int .i64 ag, .slice X ks.length cp] := ((Blk.new w _ _).alloc _).alloc _
  have kp : Blk (((w.alloc (.cells #[.int .i64 a, .int .i64 b, .int .i64 c, .int .i64 bo, .int .i64 fr, .int .i64 tt, .int .i64 ag, .slice X ks.length cp] 26)).alloc (.cells #[.int .i64 job, .int .i64 x1, .int .i64 x2, .int .i64 x3, .int .i64 x4, .int .i64 x5, .int .i64 x6, .bool t1, .bool t2, .bool t3, .int .u8 1, .int .i64 tt, .int .i64 si] 37)).alloc (.cells #[.int .i64 0, .int .i64 0, .int .i64 0, .int .i64 0, .int .i64 0, .int .i64 0, .int .i64 0, .bool false, .bool false, .bool false, .int .u8 0, .int .i64 0, .int .i64 0] 37)) (w.heap.size + 1) 37 #[.int .i64 job, .int .i64 x1, .int .i64 x2, .int .i64 x3, .int .i64 x4, .int .i64 x5, .int .i64 x6, .bool t1, .bool t2, .bool t3, .int .u8 1, .int .i64 tt, .int .i64 si] := (blk1 w _ _).alloc _
  have kr : Blk (((w.alloc (.cells #[.int .i64 a, .int .i64 b, .int .i64 c, .int .i64 bo, .int .i64 fr, .int .i64 tt, .int .i64 ag, .slice X ks.length cp] 26)).alloc (.cells #[.int .i64 job, .int .i64 x1, .int .i64 x2, .int .i64 x3, .int .i64 x4, .int .i64 x5, .int .i64 x6, .bool t1, .bool t2, .bool t3, .int .u8 1, .int .i64 tt, .int .i64 si] 37)).alloc (.cells #[.int .i64 0, .int .i64 0, .int .i64 0, .int .i64 0, .int .i64 0, .int .i64 0, .int .i64 0, .bool false, .bool false, .bool false, .int .u8 0, .int .i64 0, .int .i64 0] 37)) (w.heap.size + 1 + 1) 37 #[.int .i64 0, .int .i64 0, .int .i64 0, .int .i64 0, .int .i64 0, .int .i64 0, .int .i64 0, .bool false, .bool false, .bool false, .int .u8 0, .int .i64 0, .int .i64 0] := blk2 w _ _
  have hb0 : Below w.heap.size w (((w.alloc (.cells #[.int .i64 a, .int .i64 b, .int .i64 c, .int .i64 bo, .int .i64 fr, .int .i64 tt, .int .i64 ag, .slice X ks.length cp] 26)).alloc (.cells #[.int .i64 job, .int .i64 x1, .int .i64 x2, .int .i64 x3, .int .i64 x4, .int .i64 x5, .int .i64 x6, .bool t1, .bool t2, .bool t3, .int .u8 1, .int .i64 tt, .int .i64 si] 37)).alloc (.cells #[.int .i64 0, .int .i64 0, .int .i64 0, .int .i64 0, .int .i64 0, .int .i64 0, .int .i64 0, .bool false, .bool false, .bool false, .int .u8 0, .int .i64 0, .int .i64 0] 37)) := below_alloc (below_alloc (below_alloc (Below.refl _ _)))
  generalize hW0 : (((w.alloc (.cells #[.int .i64 a, .int .i64 b, .int .i64 c, .int .i64 bo, .int .i64 fr, .int .i64 tt, .int .i64 ag, .slice X ks.length cp] 26)).alloc (.cells #[.int .i64 job, .int .i64 x1, .int .i64 x2, .int .i64 x3, .int .i64 x4, .int .i64 x5, .int .i64 x6, .bool t1, .bool t2, .bool t3, .int .u8 1, .int .i64 tt, .int .i64 si] 37)).alloc (.cells #[.int .i64 0, .int .i64 0, .int .i64 0, .int .i64 0, .int .i64 0, .int .i64 0, .int .i64 0, .bool false, .bool false, .bool false, .int .u8 0, .int .i64 0, .int .i64 0] 37)) = W0 at *
  clear hW0
  have p0 : W0.cell? ⟨w.heap.size + 1, 0, none⟩ = some (.int .i64 job) := kp.cell 0
  have q0 : W0.frozen? ⟨w.heap.size + 1, 0, none⟩ = false := kp.frozen 0
  have p1 : W0.cell? ⟨w.heap.size + 1, 1, none⟩ = some (.int .i64 x1) := kp.cell 1
  have q1 : W0.frozen? ⟨w.heap.size + 1, 1, none⟩ = false := kp.frozen 1
  have p2 : W0.cell? ⟨w.heap.size + 1, 2, none⟩ = some (.int .i64 x2) := kp.cell 2
  have q2 : W0.frozen? ⟨w.heap.size + 1, 2, none⟩ = false := kp.frozen 2
  have p3 : W0.cell? ⟨w.heap.size + 1, 3, none⟩ = some (.int .i64 x3) := kp.cell 3
  have q3 : W0.frozen? ⟨w.heap.size + 1, 3, none⟩ = false := kp.frozen 3
  have p4 : W0.cell? ⟨w.heap.size + 1, 4, none⟩ = some (.int .i64 x4) := kp.cell 4
  have q4 : W0.frozen? ⟨w.heap.size + 1, 4, none⟩ = false := kp.frozen 4
  have p5 : W0.cell? ⟨w.heap.size + 1, 5, none⟩ = some (.int .i64 x5) := kp.cell 5
  have q5 : W0.frozen? ⟨w.heap.size + 1, 5, none⟩ = false := kp.frozen 5
  have p6 : W0.cell? ⟨w.heap.size + 1, 6, none⟩ = some (.int .i64 x6) := kp.cell 6
  have q6 : W0.frozen? ⟨w.heap.size + 1, 6, none⟩ = false := kp.frozen 6
  have p7 : W0.cell? ⟨w.heap.size + 1, 7, none⟩ = some (.bool t1) := kp.cell 7
  have q7 : W0.frozen? ⟨w.heap.size + 1, 7, none⟩ = false := kp.frozen 7
  have p8 : W0.cell? ⟨w.heap.size + 1, 8, none⟩ = some (.bool t2) := kp.cell 8
  have q8 : W0.frozen? ⟨w.heap.size + 1, 8, none⟩ = false := kp.frozen 8
  have p9 : W0.cell? ⟨w.heap.size + 1, 9, none⟩ = some (.bool t3) := kp.cell 9
  have q9 : W0.frozen? ⟨w.heap.size + 1, 9, none⟩ = false := kp.frozen 9
  have p10 : W0.cell? ⟨w.heap.size + 1, 10, none⟩ = some (.int .u8 1) := kp.cell 10
  have q10 : W0.frozen? ⟨w.heap.size + 1, 10, none⟩ = false := kp.frozen 10
  have p11 : W0.cell? ⟨w.heap.size + 1, 11, none⟩ = some (.int .i64 tt) := kp.cell 11
  have q11 : W0.frozen? ⟨w.heap.size + 1, 11, none⟩ = false := kp.frozen 11
  have p12 : W0.cell? ⟨w.heap.size + 1, 12, none⟩ = some (.int .i64 si) := kp.cell 12
  have q12 : W0.frozen? ⟨w.heap.size + 1, 12, none⟩ = false := kp.frozen 12
  have d5 : W0.cell? ⟨w.heap.size, 5, none⟩ = some (.int .i64 tt) := kd.cell 5
  have hz1 : w.heap.size + 1 < W0.heap.size := kp.lt
  have hz2 : w.heap.size + 1 + 1 < W0.heap.size := kr.lt
  have KR := Lib.hid kr
  have HB0 := Lib.hid hb0
  clear kd kp kr hb0
  go_wp2_with fail
  refine (freed_any job x1 x2 x3 x4 x5 x6 t1 t2 t3 1 tt si now _).mono ?_
  rintro e w1 ⟨rfl, hB1⟩
  have kr := KR.out.below hB1 hz2
  have hb1 := below_up HB0.out hB1
  have KR1 := Lib.hid kr
  have HB1 := Lib.hid hb1
  have hy2 : w.heap.size + 1 + 1 < w1.heap.size := kr.lt
  clear hB1 hb1
  have m0 : w1.cell? ⟨w.heap.size + 1 + 1, 0, none⟩ = some (.int .i64 0) := kr.cell 0
  have n0 : w1.frozen? ⟨w.heap.size + 1 + 1, 0, none⟩ = false := kr.frozen 0
  have m1 : w1.cell? ⟨w.heap.size + 1 + 1, 1, none⟩ = some (.int .i64 0) := kr.cell 1
  have n1 : w1.frozen? ⟨w.heap.size + 1 + 1, 1, none⟩ = false := kr.frozen 1
  have m2 : w1.cell? ⟨w.heap.size + 1 + 1, 2, none⟩ = some (.int .i64 0) := kr.cell 2
  have n2 : w1.frozen? ⟨w.heap.size + 1 + 1, 2, none⟩ = false := kr.frozen 2
  have m3 : w1.cell? ⟨w.heap.size + 1 + 1, 3, none⟩ = some (.int .i64 0) := kr.cell 3
  have n3 : w1.frozen? ⟨w.heap.size + 1 + 1, 3, none⟩ = false := kr.frozen 3
  have m4 : w1.cell? ⟨w.heap.size + 1 + 1, 4, none⟩ = some (.int .i64 0) := kr.cell 4
  have n4 : w1.frozen? ⟨w.heap.size + 1 + 1, 4, none⟩ = false := kr.frozen 4
  have m5 : w1.cell? ⟨w.heap.size + 1 + 1, 5, none⟩ = some (.int .i64 0) := kr.cell 5
  have n5 : w1.frozen? ⟨w.heap.size + 1 + 1, 5, none⟩ = false := kr.frozen 5
  have m6 : w1.cell? ⟨w.heap.size + 1 + 1, 6, none⟩ = some (.int .i64 0) := kr.cell 6
  have n6 : w1.frozen? ⟨w.heap.size + 1 + 1, 6, none⟩ = false := kr.frozen 6
  have m7 : w1.cell? ⟨w.heap.size + 1 + 1, 7, none⟩ = some (.bool false) := kr.cell 7
  have n7 : w1.frozen? ⟨w.heap.size + 1 + 1, 7, none⟩ = false := kr.frozen 7
  have m8 : w1.cell? ⟨w.heap.size + 1 + 1, 8, none⟩ = some (.bool false) := kr.cell 8
  have n8 : w1.frozen? ⟨w.heap.size + 1 + 1, 8, none⟩ = false := kr.frozen 8
  have m9 : w1.cell? ⟨w.heap.size + 1 + 1, 9, none⟩ = some (.bool false) := kr.cell 9
  have n9 : w1.frozen? ⟨w.heap.size + 1 + 1, 9, none⟩ = false := kr.frozen 9
  have m10 : w1.cell? ⟨w.heap.size + 1 + 1, 10, none⟩ = some (.int .u8 0) := kr.cell 10
  have n10 : w1.frozen? ⟨w.heap.size + 1 + 1, 10, none⟩ = false := kr.frozen 10
  have m11 : w1.cell? ⟨w.heap.size + 1 + 1, 11, none⟩ = some (.int .i64 0) := kr.cell 11
  have n11 : w1.frozen? ⟨w.heap.size + 1 + 1, 11, none⟩ = false := kr.frozen 11
  have m12 : w1.cell? ⟨w.heap.size + 1 + 1, 12, none⟩ = some (.int .i64 0) := kr.cell 12
  have n12 : w1.frozen? ⟨w.heap.size + 1 + 1, 12, none⟩ = false := kr.frozen 12
  clear kr
  go_wp2_with fail
  have hs13 := store13 (w := w) (g := w.heap.size + 1 + 1) HB1.out (by omega) KR1.out (.int .i64 job) (.int .i64 x1) (.int .i64 x2) (.int .i64 x3) (.int .i64 x4) (.int .i64 x5) (.int .i64 x6) (.bool t1) (.bool t2) (.bool t3) (.int .u8 3) (.int .i64 tt) (.int .i64 now)
  refine bodyPost_ret (v := .tuple #[.agg #[.int .i64 job, .int .i64 x1, .int .i64 x2, .int .i64 x3, .int .i64 x4, .int .i64 x5, .int .i64 x6, .bool t1, .bool t2, .bool t3, .int .u8 3, .int .i64 tt, .int .i64 now], .int .u8 6, .bool false, .bool true]) ?_ rfl ?_
  · exact res_turned _ _ (w.heap.size + 1 + 1) (.int .i64 job) (.int .i64 x1) (.int .i64 x2) (.int .i64 x3) (.int .i64 x4) (.int .i64 x5) (.int .i64 x6) (.bool t1) (.bool t2) (.bool t3) (.int .u8 3) (.int .i64 tt) (.int .i64 now) (.int .u8 6) (.bool false) (.bool true) rfl rfl rfl rfl hs13.2
  · exact ⟨rfl, hs13.1⟩
set_option maxRecDepth 100000 in
set_option maxHeartbeats 8000000 in
theorem tu_12n (a b c bo fr tr ag : Int) (X : Option Addr) (cp : Nat) (ks : List Cls) (job x1 x2 x3 x4 x5 x6 : Int) (t1 t2 t3 : Bool) (tt si : Int) (now : Int) (hn : tt ≠ tr) (h0 : 0 ≤ tt) (h5 : tt ≤ 5) (w : World) :
    Calls Try.prog 33 #[.agg #[.int .i64 a, .int .i64 b, .int .i64 c, .int .i64 bo, .int .i64 fr, .int .i64 tr, .int .i64 ag, .slice X ks.length cp], .agg #[.int .i64 job, .int .i64 x1, .int .i64 x2, .int .i64 x3, .int .i64 x4, .int .i64 x5, .int .i64 x6, .bool t1, .bool t2, .bool t3, .int .u8 1, .int .i64 tt, .int .i64 si], .int .u8 2, .int .i64 now] w (fun e w' => e = .returned (.tuple #[.agg #[.int .i64 job, .int .i64 x1, .int .i64 x2, .int .i64 x3, .int .i64 x4, .int .i64 x5, .int .i64 x6, .bool t1, .bool t2, .bool t3, .int .u8 1, .int .i64 (tt + 1), .int .i64 now], .int .u8 0, .bool false, .bool true]) ∧ Below w.heap.size w w') := by
  go_enter Try.func33, Try.ntmps33
  go_upto_region 1 with fail
  have kd : Blk (((w.alloc (.cells #[.int .i64 a, .int .i64 b, .int .i64 c, .int .i64 bo, .int .i64 fr, .int .i64 tr, .int .i64 ag, .slice X ks.length cp] 26)).alloc (.cells #[.int .i64 job, .int .i64 x1, .int .i64 x2, .int .i64 x3, .int .i64 x4, .int .i64 x5, .int .i64 x6, .bool t1, .bool t2, .bool t3, .int .u8 1, .int .i64 tt, .int .i64 si] 37)).alloc (.cells #[.int .i64 0, .int .i64 0, .int .i64 0, .int .i64 0, .int .i64 0, .int .i64 0, .int .i64 0, .bool false, .bool false, .bool false, .int .u8 0, .int .i64 0, .int .i64 0] 37)) (w.heap.size) 26 #[.int .i64 a, .int .i64 b, .int .i64 c, .int .i64 bo, .int .i64 fr, .int .i64 tr, .int .i64 ag, .slice X ks.length cp] := ((Blk.new w _ _).alloc _).alloc _
  have kp : Blk (((w.alloc (.cells #[.int .i64 a, .int .i64 b, .int .i64 c, .int .i64 bo, .int .i64 fr, .int .i64 tr, .int .i64 ag, .slice X ks.length cp] 26)).alloc (.cells #[.int .i64 job, .int .i64 x1, .int .i64 x2, .int .i64 x3, .int .i64 x4, .int .i64 x5, .int .i64 x6, .bool t1, .bool t2, .bool t3, .int .u8 1, .int .i64 tt, .int .i64 si] 37)).alloc (.cells #[.int .i64 0, .int .i64 0, .int .i64 0, .int .i64 0, .int .i64 0, .int .i64 0, .int .i64 0, .bool false, .bool false, .bool false, .int .u8 0, .int .i64 0, .int .i64 0] 37)) (w.heap.size + 1) 37 #[.int .i64 job, .int .i64 x1, .int .i64 x2, .int .i64 x3, .int .i64 x4, .int .i64 x5, .int .i64 x6, .bool t1, .bool t2, .bool t3, .int .u8 1, .int .i64 tt, .int .i64 si] := (blk1 w _ _).alloc _
  have kr : Blk (((w.alloc (.cells #[.int .i64 a, .int .i64 b, .int .i64 c, .int .i64 bo, .int .i64 fr, .int .i64 tr, .int .i64 ag, .slice X ks.length cp] 26)).alloc (.cells #[.int .i64 job, .int .i64 x1, .int .i64 x2, .int .i64 x3, .int .i64 x4, .int .i64 x5, .int .i64 x6, .bool t1, .bool t2, .bool t3, .int .u8 1, .int .i64 tt, .int .i64 si] 37)).alloc (.cells #[.int .i64 0, .int .i64 0, .int .i64 0, .int .i64 0, .int .i64 0, .int .i64 0, .int .i64 0, .bool false, .bool false, .bool false, .int .u8 0, .int .i64 0, .int .i64 0] 37)) (w.heap.size + 1 + 1) 37 #[.int .i64 0, .int .i64 0, .int .i64 0, .int .i64 0, .int .i64 0, .int .i64 0, .int .i64 0, .bool false, .bool false, .bool false, .int .u8 0, .int .i64 0, .int .i64 0] := blk2 w _ _
  have hb0 : Below w.heap.size w (((w.alloc (.cells #[.int .i64 a, .int .i64 b, .int .i64 c, .int .i64 bo, .int .i64 fr, .int .i64 tr, .int .i64 ag, .slice X ks.length cp] 26)).alloc (.cells #[.int .i64 job, .int .i64 x1, .int .i64 x2, .int .i64 x3, .int .i64 x4, .int .i64 x5, .int .i64 x6, .bool t1, .bool t2, .bool t3, .int .u8 1, .int .i64 tt, .int .i64 si] 37)).alloc (.cells #[.int .i64 0, .int .i64 0, .int .i64 0, .int .i64 0, .int .i64 0, .int .i64 0, .int .i64 0, .bool false, .bool false, .bool false, .int .u8 0, .int .i64 0, .int .i64 0] 37)) := below_alloc (below_alloc (below_alloc (Below.refl _ _)))
  generalize hW0 : (((w.alloc (.cells #[.int .i64 a, .int .i64 b, .int .i64 c, .int .i64 bo, .int .i64 fr, .int .i64 tr, .int .i64 ag, .slice X ks.length cp] 26)).alloc (.cells #[.int .i64 job, .int .i64 x1, .int .i64 x2, .int .i64 x3, .int .i64 x4, .int .i64 x5, .int .i64 x6, .bool t1, .bool t2, .bool t3, .int .u8 1, .int .i64 tt, .int .i64 si] 37)).alloc (.cells #[.int .i64 0, .int .i64 0, .int .i64 0, .int .i64 0, .int .i64 0, .int .i64 0, .int .i64 0, .bool false, .bool false, .bool false, .int .u8 0, .int .i64 0, .int .i64 0] 37)) = W0 at *
  clear hW0
  have p0 : W0.cell? ⟨w.heap.size + 1, 0, none⟩ = some (.int .i64 job) := kp.cell 0
  have q0 : W0.frozen? ⟨w.heap.size + 1, 0, none⟩ = false := kp.frozen 0
  have p1 : W0.cell? ⟨w.heap.size + 1, 1, none⟩ = some (.int .i64 x1) := kp.cell 1
  have q1 : W0.frozen? ⟨w.heap.size + 1, 1, none⟩ = false := kp.frozen 1
  have p2 : W0.cell? ⟨w.heap.size + 1, 2, none⟩ = some (.int .i64 x2) := kp.cell 2
  have q2 : W0.frozen? ⟨w.heap.size + 1, 2, none⟩ = false := kp.frozen 2
  have p3 : W0.cell? ⟨w.heap.size + 1, 3, none⟩ = some (.int .i64 x3) := kp.cell 3
  have q3 : W0.frozen? ⟨w.heap.size + 1, 3, none⟩ = false := kp.frozen 3
  have p4 : W0.cell? ⟨w.heap.size + 1, 4, none⟩ = some (.int .i64 x4) := kp.cell 4
  have q4 : W0.frozen? ⟨w.heap.size + 1, 4, none⟩ = false := kp.frozen 4
  have p5 : W0.cell? ⟨w.heap.size + 1, 5, none⟩ = some (.int .i64 x5) := kp.cell 5
  have q5 : W0.frozen? ⟨w.heap.size + 1, 5, none⟩ = false := kp.frozen 5
  have p6 : W0.cell? ⟨w.heap.size + 1, 6, none⟩ = some (.int .i64 x6) := kp.cell 6
  have q6 : W0.frozen? ⟨w.heap.size + 1, 6, none⟩ = false := kp.frozen 6
  have p7 : W0.cell? ⟨w.heap.size + 1, 7, none⟩ = some (.bool t1) := kp.cell 7
  have q7 : W0.frozen? ⟨w.heap.size + 1, 7, none⟩ = false := kp.frozen 7
  have p8 : W0.cell? ⟨w.heap.size + 1, 8, none⟩ = some (.bool t2) := kp.cell 8
  have q8 : W0.frozen? ⟨w.heap.size + 1, 8, none⟩ = false := kp.frozen 8
  have p9 : W0.cell? ⟨w.heap.size + 1, 9, none⟩ = some (.bool t3) := kp.cell 9
  have q9 : W0.frozen? ⟨w.heap.size + 1, 9, none⟩ = false := kp.frozen 9
  have p10 : W0.cell? ⟨w.heap.size + 1, 10, none⟩ = some (.int .u8 1) := kp.cell 10
  have q10 : W0.frozen? ⟨w.heap.size + 1, 10, none⟩ = false := kp.frozen 10
  have p11 : W0.cell? ⟨w.heap.size + 1, 11, none⟩ = some (.int .i64 tt) := kp.cell 11
  have q11 : W0.frozen? ⟨w.heap.size + 1, 11, none⟩ = false := kp.frozen 11
  have p12 : W0.cell? ⟨w.heap.size + 1, 12, none⟩ = some (.int .i64 si) := kp.cell 12
  have q12 : W0.frozen? ⟨w.heap.size + 1, 12, none⟩ = false := kp.frozen 12
  have m0 : W0.cell? ⟨w.heap.size + 1 + 1, 0, none⟩ = some (.int .i64 0) := kr.cell 0
  have n0 : W0.frozen? ⟨w.heap.size + 1 + 1, 0, none⟩ = false := kr.frozen 0
  have m1 : W0.cell? ⟨w.heap.size + 1 + 1, 1, none⟩ = some (.int .i64 0) := kr.cell 1
  have n1 : W0.frozen? ⟨w.heap.size + 1 + 1, 1, none⟩ = false := kr.frozen 1
  have m2 : W0.cell? ⟨w.heap.size + 1 + 1, 2, none⟩ = some (.int .i64 0) := kr.cell 2
  have n2 : W0.frozen? ⟨w.heap.size + 1 + 1, 2, none⟩ = false := kr.frozen 2
  have m3 : W0.cell? ⟨w.heap.size + 1 + 1, 3, none⟩ = some (.int .i64 0) := kr.cell 3
  have n3 : W0.frozen? ⟨w.heap.size + 1 + 1, 3, none⟩ = false := kr.frozen 3
  have m4 : W0.cell? ⟨w.heap.size + 1 + 1, 4, none⟩ = some (.int .i64 0) := kr.cell 4
  have n4 : W0.frozen? ⟨w.heap.size + 1 + 1, 4, none⟩ = false := kr.frozen 4
  have m5 : W0.cell? ⟨w.heap.size + 1 + 1, 5, none⟩ = some (.int .i64 0) := kr.cell 5
  have n5 : W0.frozen? ⟨w.heap.size + 1 + 1, 5, none⟩ = false := kr.frozen 5
  have m6 : W0.cell? ⟨w.heap.size + 1 + 1, 6, none⟩ = some (.int .i64 0) := kr.cell 6
  have n6 : W0.frozen? ⟨w.heap.size + 1 + 1, 6, none⟩ = false := kr.frozen 6
  have m7 : W0.cell? ⟨w.heap.size + 1 + 1, 7, none⟩ = some (.bool false) := kr.cell 7
  have n7 : W0.frozen? ⟨w.heap.size + 1 + 1, 7, none⟩ = false := kr.frozen 7
  have m8 : W0.cell? ⟨w.heap.size + 1 + 1, 8, none⟩ = some (.bool false) := kr.cell 8
  have n8 : W0.frozen? ⟨w.heap.size + 1 + 1, 8, none⟩ = false := kr.frozen 8
  have m9 : W0.cell? ⟨w.heap.size + 1 + 1, 9, none⟩ = some (.bool false) := kr.cell 9
  have n9 : W0.frozen? ⟨w.heap.size + 1 + 1, 9, none⟩ = false := kr.frozen 9
  have m10 : W0.cell? ⟨w.heap.size + 1 + 1, 10, none⟩ = some (.int .u8 0) := kr.cell 10
  have n10 : W0.frozen? ⟨w.heap.size + 1 + 1, 10, none⟩ = false := kr.frozen 10
  have m11 : W0.cell? ⟨w.heap.size + 1 + 1, 11, none⟩ = some (.int .i64 0) := kr.cell 11
  have n11 : W0.frozen? ⟨w.heap.size + 1 + 1, 11, none⟩ = false := kr.frozen 11
  have m12 : W0.cell? ⟨w.heap.size + 1 + 1, 12, none⟩ = some (.int .i64 0) := kr.cell 12
  have n12 : W0.frozen? ⟨w.heap.size + 1 + 1, 12, none⟩ = false := kr.frozen 12
  have d5 : W0.cell? ⟨w.heap.size, 5, none⟩ = some (.int .i64 tr) := kd.cell 5
  have hz1 : w.heap.size + 1 < W0.heap.size := kp.lt
  have hz2 : w.heap.size + 1 + 1 < W0.heap.size := kr.lt
  have KR := Lib.hid kr
  have HB0 := Lib.hid hb0
  clear kd kp kr hb0
  have e1 : (tt == tr) = false := by simpa using hn
  clear hn
  go_wp2_with fail
  have hs13 := store13 (w := w) (g := w.heap.size + 1 + 1) ((HB0.out.setCell (p := ⟨w.heap.size + 1, 11, none⟩) (by simp) _).setCell (p := ⟨w.heap.size + 1, 12, none⟩) (by simp) _) (by omega) ((KR.out.far (p := ⟨w.heap.size + 1, 11, none⟩) (by simp) (.int .i64 (tt + 1))).far (p := ⟨w.heap.size + 1, 12, none⟩) (by simp) (.int .i64 now)) (.int .i64 job) (.int .i64 x1) (.int .i64 x2) (.int .i64 x3) (.int .i64 x4) (.int .i64 x5) (.int .i64 x6) (.bool t1) (.bool t2) (.bool t3) (.int .u8 1) (.int .i64 (tt + 1)) (.int .i64 now)
  refine bodyPost_ret (v := .tuple #[.agg #[.int .i64 job, .int .i64 x1, .int .i64 x2, .int .i64 x3, .int .i64 x4, .int .i64 x5, .int .i64 x6, .bool t1, .bool t2, .bool t3, .int .u8 1, .int .i64 (tt + 1), .int .i64 now], .int .u8 0, .bool false, .bool true]) ?_ rfl ?_
  · exact res_turned _ _ (w.heap.size + 1 + 1) (.int .i64 job) (.int .i64 x1) (.int .i64 x2) (.int .i64 x3) (.int .i64 x4) (.int .i64 x5) (.int .i64 x6) (.bool t1) (.bool t2) (.bool t3) (.int .u8 1) (.int .i64 (tt + 1)) (.int .i64 now) (.int .u8 0) (.bool false) (.bool true) rfl rfl rfl rfl hs13.2
  · exact ⟨rfl, hs13.1⟩
set_option maxRecDepth 100000 in
set_option maxHeartbeats 8000000 in
theorem tu_18 (a b c bo fr tr ag : Int) (X : Option Addr) (cp : Nat) (ks : List Cls) (job x1 x2 x3 x4 x5 x6 : Int) (t1 t2 t3 : Bool) (tt si : Int) (now : Int)  (w : World) :
    Calls Try.prog 33 #[.agg #[.int .i64 a, .int .i64 b, .int .i64 c, .int .i64 bo, .int .i64 fr, .int .i64 tr, .int .i64 ag, .slice X ks.length cp], .agg #[.int .i64 job, .int .i64 x1, .int .i64 x2, .int .i64 x3, .int .i64 x4, .int .i64 x5, .int .i64 x6, .bool t1, .bool t2, .bool t3, .int .u8 1, .int .i64 tt, .int .i64 si], .int .u8 8, .int .i64 now] w (fun e w' => e = .returned (.tuple #[.agg #[.int .i64 0, .int .i64 0, .int .i64 0, .int .i64 0, .int .i64 0, .int .i64 0, .int .i64 0, .bool false, .bool false, .bool false, .int .u8 0, .int .i64 0, .int .i64 0], .int .u8 0, .bool false, .bool false]) ∧ Below w.heap.size w w') := by
  go_enter Try.func33, Try.ntmps33
  go_upto_region 1 with fail
  have kd : Blk (((w.alloc (.cells #[.int .i64 a, .int .i64 b, .int .i64 c, .int .i64 bo, .int .i64 fr, .int .i64 tr, .int .i64 ag, .slice X ks.length cp] 26)).alloc (.cells #[.int .i64 job, .int .i64 x1, .int .i64 x2, .int .i64 x3, .int .i64 x4, .int .i64 x5, .int .i64 x6, .bool t1, .bool t2, .bool t3, .int .u8 1, .int .i64 tt, .int .i64 si] 37)).alloc (.cells #[.int .i64 0, .int .i64 0, .int .i64 0, .int .i64 0, .int .i64 0, .int .i64 0, .int .i64 0, .bool false, .bool false, .bool false, .int .u8 0, .int .i64 0, .int .i64 0] 37)) (w.heap.size) 26 #[.int .i64 a, .int .i64 b, .int .i64 c, .int .i64 bo, .int .i64 fr, .int .i64 tr, .int .i64 ag, .slice X ks.length cp] := ((Blk.new w _ _).alloc _).alloc _
  have kp : Blk (((w.alloc (.cells #[.int .i64 a, .int .i64 b, .int .i64 c, .int .i64 bo, .int .i64 fr, .int .i64 tr, .int .i64 ag, .slice X ks.length cp] 26)).alloc (.cells #[.int .i64 job, .int .i64 x1, .int .i64 x2, .int .i64 x3, .int .i64 x4, .int .i64 x5, .int .i64 x6, .bool t1, .bool t2, .bool t3, .int .u8 1, .int .i64 tt, .int .i64 si] 37)).alloc (.cells #[.int .i64 0, .int .i64 0, .int .i64 0, .int .i64 0, .int .i64 0, .int .i64 0, .int .i64 0, .bool false, .bool false, .bool false, .int .u8 0, .int .i64 0, .int .i64 0] 37)) (w.heap.size + 1) 37 #[.int .i64 job, .int .i64 x1, .int .i64 x2, .int .i64 x3, .int .i64 x4, .int .i64 x5, .int .i64 x6, .bool t1, .bool t2, .bool t3, .int .u8 1, .int .i64 tt, .int .i64 si] := (blk1 w _ _).alloc _
  have kr : Blk (((w.alloc (.cells #[.int .i64 a, .int .i64 b, .int .i64 c, .int .i64 bo, .int .i64 fr, .int .i64 tr, .int .i64 ag, .slice X ks.length cp] 26)).alloc (.cells #[.int .i64 job, .int .i64 x1, .int .i64 x2, .int .i64 x3, .int .i64 x4, .int .i64 x5, .int .i64 x6, .bool t1, .bool t2, .bool t3, .int .u8 1, .int .i64 tt, .int .i64 si] 37)).alloc (.cells #[.int .i64 0, .int .i64 0, .int .i64 0, .int .i64 0, .int .i64 0, .int .i64 0, .int .i64 0, .bool false, .bool false, .bool false, .int .u8 0, .int .i64 0, .int .i64 0] 37)) (w.heap.size + 1 + 1) 37 #[.int .i64 0, .int .i64 0, .int .i64 0, .int .i64 0, .int .i64 0, .int .i64 0, .int .i64 0, .bool false, .bool false, .bool false, .int .u8 0, .int .i64 0, .int .i64 0] := blk2 w _ _
  have hb0 : Below w.heap.size w (((w.alloc (.cells #[.int .i64 a, .int .i64 b, .int .i64 c, .int .i64 bo, .int .i64 fr, .int .i64 tr, .int .i64 ag, .slice X ks.length cp] 26)).alloc (.cells #[.int .i64 job, .int .i64 x1, .int .i64 x2, .int .i64 x3, .int .i64 x4, .int .i64 x5, .int .i64 x6, .bool t1, .bool t2, .bool t3, .int .u8 1, .int .i64 tt, .int .i64 si] 37)).alloc (.cells #[.int .i64 0, .int .i64 0, .int .i64 0, .int .i64 0, .int .i64 0, .int .i64 0, .int .i64 0, .bool false, .bool false, .bool false, .int .u8 0, .int .i64 0, .int .i64 0] 37)) := below_alloc (below_alloc (below_alloc (Below.refl _ _)))
  generalize hW0 : (((w.alloc (.cells #[.int .i64 a, .int .i64 b, .int .i64 c, .int .i64 bo, .int .i64 fr, .int .i64 tr, .int .i64 ag, .slice X ks.length cp] 26)).alloc (.cells #[.int .i64 job, .int .i64 x1, .int .i64 x2, .int .i64 x3, .int .i64 x4, .int .i64 x5, .int .i64 x6, .bool t1, .bool t2, .bool t3, .int .u8 1, .int .i64 tt, .int .i64 si] 37)).alloc (.cells #[.int .i64 0, .int .i64 0, .int .i64 0, .int .i64 0, .int .i64 0, .int .i64 0, .int .i64 0, .bool false, .bool false, .bool false, .int .u8 0, .int .i64 0, .int .i64 0] 37)) = W0 at *
  clear hW0
  have p0 : W0.cell? ⟨w.heap.size + 1, 0, none⟩ = some (.int .i64 job) := kp.cell 0
  have q0 : W0.frozen? ⟨w.heap.size + 1, 0, none⟩ = false := kp.frozen 0
  have p1 : W0.cell? ⟨w.heap.size + 1, 1, none⟩ = some (.int .i64 x1) := kp.cell 1
  have q1 : W0.frozen? ⟨w.heap.size + 1, 1, none⟩ = false := kp.frozen 1
  have p2 : W0.cell? ⟨w.heap.size + 1, 2, none⟩ = some (.int .i64 x2) := kp.cell 2
  have q2 : W0.frozen? ⟨w.heap.size + 1, 2, none⟩ = false := kp.frozen 2
  have p3 : W0.cell? ⟨w.heap.size + 1, 3, none⟩ = some (.int .i64 x3) := kp.cell 3
  have q3 : W0.frozen? ⟨w.heap.size + 1, 3, none⟩ = false := kp.frozen 3
  have p4 : W0.cell? ⟨w.heap.size + 1, 4, none⟩ = some (.int .i64 x4) := kp.cell 4
  have q4 : W0.frozen? ⟨w.heap.size + 1, 4, none⟩ = false := kp.frozen 4
  have p5 : W0.cell? ⟨w.heap.size + 1, 5, none⟩ = some (.int .i64 x5) := kp.cell 5
  have q5 : W0.frozen? ⟨w.heap.size + 1, 5, none⟩ = false := kp.frozen 5
  have p6 : W0.cell? ⟨w.heap.size + 1, 6, none⟩ = some (.int .i64 x6) := kp.cell 6
  have q6 : W0.frozen? ⟨w.heap.size + 1, 6, none⟩ = false := kp.frozen 6
  have p7 : W0.cell? ⟨w.heap.size + 1, 7, none⟩ = some (.bool t1) := kp.cell 7
  have q7 : W0.frozen? ⟨w.heap.size + 1, 7, none⟩ = false := kp.frozen 7
  have p8 : W0.cell? ⟨w.heap.size + 1, 8, none⟩ = some (.bool t2) := kp.cell 8
  have q8 : W0.frozen? ⟨w.heap.size + 1, 8, none⟩ = false := kp.frozen 8
  have p9 : W0.cell? ⟨w.heap.size + 1, 9, none⟩ = some (.bool t3) := kp.cell 9
  have q9 : W0.frozen? ⟨w.heap.size + 1, 9, none⟩ = false := kp.frozen 9
  have p10 : W0.cell? ⟨w.heap.size + 1, 10, none⟩ = some (.int .u8 1) := kp.cell 10
  have q10 : W0.frozen? ⟨w.heap.size + 1, 10, none⟩ = false := kp.frozen 10
  have p11 : W0.cell? ⟨w.heap.size + 1, 11, none⟩ = some (.int .i64 tt) := kp.cell 11
  have q11 : W0.frozen? ⟨w.heap.size + 1, 11, none⟩ = false := kp.frozen 11
  have p12 : W0.cell? ⟨w.heap.size + 1, 12, none⟩ = some (.int .i64 si) := kp.cell 12
  have q12 : W0.frozen? ⟨w.heap.size + 1, 12, none⟩ = false := kp.frozen 12
  have m0 : W0.cell? ⟨w.heap.size + 1 + 1, 0, none⟩ = some (.int .i64 0) := kr.cell 0
  have n0 : W0.frozen? ⟨w.heap.size + 1 + 1, 0, none⟩ = false := kr.frozen 0
  have m1 : W0.cell? ⟨w.heap.size + 1 + 1, 1, none⟩ = some (.int .i64 0) := kr.cell 1
  have n1 : W0.frozen? ⟨w.heap.size + 1 + 1, 1, none⟩ = false := kr.frozen 1
  have m2 : W0.cell? ⟨w.heap.size + 1 + 1, 2, none⟩ = some (.int .i64 0) := kr.cell 2
  have n2 : W0.frozen? ⟨w.heap.size + 1 + 1, 2, none⟩ = false := kr.frozen 2
  have m3 : W0.cell? ⟨w.heap.size + 1 + 1, 3, none⟩ = some (.int .i64 0) := kr.cell 3
  have n3 : W0.frozen? ⟨w.heap.size + 1 + 1, 3, none⟩ = false := kr.frozen 3
  have m4 : W0.cell? ⟨w.heap.size + 1 + 1, 4, none⟩ = some (.int .i64 0) := kr.cell 4
  have n4 : W0.frozen? ⟨w.heap.size + 1 + 1, 4, none⟩ = false := kr.frozen 4
  have m5 : W0.cell? ⟨w.heap.size + 1 + 1, 5, none⟩ = some (.int .i64 0) := kr.cell 5
  have n5 : W0.frozen? ⟨w.heap.size + 1 + 1, 5, none⟩ = false := kr.frozen 5
  have m6 : W0.cell? ⟨w.heap.size + 1 + 1, 6, none⟩ = some (.int .i64 0) := kr.cell 6
  have n6 : W0.frozen? ⟨w.heap.size + 1 + 1, 6, none⟩ = false := kr.frozen 6
  have m7 : W0.cell? ⟨w.heap.size + 1 + 1, 7, none⟩ = some (.bool false) := kr.cell 7
  have n7 : W0.frozen? ⟨w.heap.size + 1 + 1, 7, none⟩ = false := kr.frozen 7
  have m8 : W0.cell? ⟨w.heap.size + 1 + 1, 8, none⟩ = some (.bool false) := kr.cell 8
  have n8 : W0.frozen? ⟨w.heap.size + 1 + 1, 8, none⟩ = false := kr.frozen 8
  have m9 : W0.cell? ⟨w.heap.size + 1 + 1, 9, none⟩ = some (.bool false) := kr.cell 9
  have n9 : W0.frozen? ⟨w.heap.size + 1 + 1, 9, none⟩ = false := kr.frozen 9
  have m10 : W0.cell? ⟨w.heap.size + 1 + 1, 10, none⟩ = some (.int .u8 0) := kr.cell 10
  have n10 : W0.frozen? ⟨w.heap.size + 1 + 1, 10, none⟩ = false := kr.frozen 10
  have m11 : W0.cell? ⟨w.heap.size + 1 + 1, 11, none⟩ = some (.int .i64 0) := kr.cell 11
  have n11 : W0.frozen? ⟨w.heap.size + 1 + 1, 11, none⟩ = false := kr.frozen 11
  have m12 : W0.cell? ⟨w.heap.size + 1 + 1, 12, none⟩ = some (.int .i64 0) := kr.cell 12
  have n12 : W0.frozen? ⟨w.heap.size + 1 + 1, 12, none⟩ = false := kr.frozen 12
  have hz1 : w.heap.size + 1 < W0.heap.size := kp.lt
  have hz2 : w.heap.size + 1 + 1 < W0.heap.size := kr.lt
  have KR := Lib.hid kr
  have HB0 := Lib.hid hb0
  clear kd kp kr hb0
  go_wp2_with fail
  have hs13 := store13 (w := w) (g := w.heap.size + 1 + 1) HB0.out (by omega) KR.out (.int .i64 0) (.int .i64 0) (.int .i64 0) (.int .i64 0) (.int .i64 0) (.int .i64 0) (.int .i64 0) (.bool false) (.bool false) (.bool false) (.int .u8 0) (.int .i64 0) (.int .i64 0)
  refine bodyPost_ret (v := .tuple #[.agg #[.int .i64 0, .int .i64 0, .int .i64 0, .int .i64 0, .int .i64 0, .int .i64 0, .int .i64 0, .bool false, .bool false, .bool false, .int .u8 0, .int .i64 0, .int .i64 0], .int .u8 0, .bool false, .bool false]) ?_ rfl ?_
  · exact res_turned _ _ (w.heap.size + 1 + 1) (.int .i64 0) (.int .i64 0) (.int .i64 0) (.int .i64 0) (.int .i64 0) (.int .i64 0) (.int .i64 0) (.bool false) (.bool false) (.bool false) (.int .u8 0) (.int .i64 0) (.int .i64 0) (.int .u8 0) (.bool false) (.bool false) rfl rfl rfl rfl hs13.2
  · exact ⟨rfl, hs13.1⟩
set_option maxRecDepth 100000 in
set_option maxHeartbeats 8000000 in
theorem tu_13 (a b c bo fr tr ag : Int) (X : Option Addr) (cp : Nat) (ks : List Cls) (job x1 x2 x3 x4 x5 x6 : Int) (t1 t2 t3 : Bool) (tt si : Int) (now : Int)  (w : World) :
    Calls Try.prog 33 #[.agg #[.int .i64 a, .int .i64 b, .int .i64 c, .int .i64 bo, .int .i64 fr, .int .i64 tr, .int .i64 ag, .slice X ks.length cp], .agg #[.int .i64 job, .int .i64 x1, .int .i64 x2, .int .i64 x3, .int .i64 x4, .int .i64 x5, .int .i64 x6, .bool t1, .bool t2, .bool t3, .int .u8 1, .int .i64 tt, .int .i64 si], .int .u8 3, .int .i64 now] w (fun e w' => e = .returned (.tuple #[.agg #[.int .i64 job, .int .i64 x1, .int .i64 x2, .int .i64 x3, .int .i64 x4, .int .i64 x5, .int .i64 x6, .bool t1, .bool t2, .bool t3, .int .u8 3, .int .i64 tt, .int .i64 now], .int .u8 3, .bool false, .bool false]) ∧ Below w.heap.size w w') := by
  go_enter Try.func33, Try.ntmps33
  go_upto_region 1 with fail
  have kd : Blk (((w.alloc (.cells #[.int .i64 a, .int .i64 b, .int .i64 c, .int .i64 bo, .int .i64 fr, .int .i64 tr, .int .i64 ag, .slice X ks.length cp] 26)).alloc (.cells #[.int .i64 job, .int .i64 x1, .int .i64 x2, .int .i64 x3, .int .i64 x4, .int .i64 x5, .int .i64 x6, .bool t1, .bool t2, .bool t3, .int .u8 1, .int .i64 tt, .int .i64 si] 37)).alloc (.cells #[.int .i64 0, .int .i64 0, .int .i64 0, .int .i64 0, .int .i64 0, .int .i64 0, .int .i64 0, .bool false, .bool false, .bool false, .int .u8 0, .int .i64 0, .int .i64 0] 37)) (w.heap.size) 26 #[.int .i64 a, .int .i64 b, .int .i64 c, .int .i64 bo, .int .i64 fr, .int .i64 tr, .int .i64 ag, .slice X ks.length cp] := ((Blk.new w _ _).alloc _).alloc _
  have kp : Blk (((w.alloc (.cells #[.int .i64 a, .int .i64 b, .int .i64 c, .int .i64 bo, .int .i64 fr, .int .i64 tr, .int .i64 ag, .slice X ks.length cp] 26)).alloc (.cells #[.int .i64 job, .int .i64 x1, .int .i64 x2, .int .i64 x3, .int .i64 x4, .int .i64 x5, .int .i64 x6, .bool t1, .bool t2, .bool t3, .int .u8 1, .int .i64 tt, .int .i64 si] 37)).alloc (.cells #[.int .i64 0, .int .i64 0, .int .i64 0, .int .i64 0, .int .i64 0, .int .i64 0, .int .i64 0, .bool false, .bool false, .bool false, .int .u8 0, .int .i64 0, .int .i64 0] 37)) (w.heap.size + 1) 37 #[.int .i64 job, .int .i64 x1, .int .i64 x2, .int .i64 x3, .int .i64 x4, .int .i64 x5, .int .i64 x6, .bool t1, .bool t2, .bool t3, .int .u8 1, .int .i64 tt, .int .i64 si] := (blk1 w _ _).alloc _
  have kr : Blk (((w.alloc (.cells #[.int .i64 a, .int .i64 b, .int .i64 c, .int .i64 bo, .int .i64 fr, .int .i64 tr, .int .i64 ag, .slice X ks.length cp] 26)).alloc (.cells #[.int .i64 job, .int .i64 x1, .int .i64 x2, .int .i64 x3, .int .i64 x4, .int .i64 x5, .int .i64 x6, .bool t1, .bool t2, .bool t3, .int .u8 1, .int .i64 tt, .int .i64 si] 37)).alloc (.cells #[.int .i64 0, .int .i64 0, .int .i64 0, .int .i64 0, .int .i64 0, .int .i64 0, .int .i64 0, .bool false, .bool false, .bool false, .int .u8 0, .int .i64 0, .int .i64 0] 37)) (w.heap.size + 1 + 1) 37 #[.int .i64 0, .int .i64 0, .int .i64 0, .int .i64 0, .int .i64 0, .int .i64 0, .int .i64 0, .bool false, .bool false, .bool false, .int .u8 0, .int .i64 0, .int .i64 0] := blk2 w _ _
  have hb0 : Below w.heap.size w (((w.alloc (.cells #[.int .i64 a, .int .i64 b, .int .i64 c, .int .i64 bo, .int .i64 fr, .int .i64 tr, .int .i64 ag, .slice X ks.length cp] 26)).alloc (.cells #[.int .i64 job, .int .i64 x1, .int .i64 x2, .int .i64 x3, .int .i64 x4, .int .i64 x5, .int .i64 x6, .bool t1, .bool t2, .bool t3, .int .u8 1, .int .i64 tt, .int .i64 si] 37)).alloc (.cells #[.int .i64 0, .int .i64 0, .int .i64 0, .int .i64 0, .int .i64 0, .int .i64 0, .int .i64 0, .bool false, .bool false, .bool false, .int .u8 0, .int .i64 0, .int .i64 0] 37)) := below_alloc (below_alloc (below_alloc (Below.refl _ _)))
  generalize hW0 : (((w.alloc (.cells #[.int .i64 a, .int .i64 b, .int .i64 c, .int .i64 bo, .int .i64 fr, .int .i64 tr, .int .i64 ag, .slice X ks.length cp] 26)).alloc (.cells #[.int .i64 job, .int .i64 x1, .int .i64 x2, .int .i64 x3, .int .i64 x4, .int .i64 x5, .int .i64 x6, .bool t1, .bool t2, .bool t3, .int .u8 1, .int .i64 tt, .int .i64 si] 37)).alloc (.cells #[.int .i64 0, .int .i64 0, .int .i64 0, .int .i64 0, .int .i64 0, .int .i64 0, .int .i64 0, .bool false, .bool false, .bool false, .int .u8 0, .int .i64 0, .int .i64 0] 37)) = W0 at *
  clear hW0
  have p0 : W0.cell? ⟨w.heap.size + 1, 0, none⟩ = some (.int .i64 job) := kp.cell 0
  have q0 : W0.frozen? ⟨w.heap.size + 1, 0, none⟩ = false := kp.frozen 0
  have p1 : W0.cell? ⟨w.heap.size + 1, 1, none⟩ = some (.int .i64 x1) := kp.cell 1
  have q1 : W0.frozen? ⟨w.heap.size + 1, 1, none⟩ = false := kp.frozen 1
  have p2 : W0.cell? ⟨w.heap.size + 1, 2, none⟩ = some (.int .i64 x2) := kp.cell 2
  have q2 : W0.frozen? ⟨w.heap.size + 1, 2, none⟩ = false := kp.frozen 2
  have p3 : W0.cell? ⟨w.heap.size + 1, 3, none⟩ = some (.int .i64 x3) := kp.cell 3
  have q3 : W0.frozen? ⟨w.heap.size + 1, 3, none⟩ = false := kp.frozen 3
  have p4 : W0.cell? ⟨w.heap.size + 1, 4, none⟩ = some (.int .i64 x4) := kp.cell 4
  have q4 : W0.frozen? ⟨w.heap.size + 1, 4, none⟩ = false := kp.frozen 4
  have p5 : W0.cell? ⟨w.heap.size + 1, 5, none⟩ = some (.int .i64 x5) := kp.cell 5
  have q5 : W0.frozen? ⟨w.heap.size + 1, 5, none⟩ = false := kp.frozen 5
  have p6 : W0.cell? ⟨w.heap.size + 1, 6, none⟩ = some (.int .i64 x6) := kp.cell 6
  have q6 : W0.frozen? ⟨w.heap.size + 1, 6, none⟩ = false := kp.frozen 6
  have p7 : W0.cell? ⟨w.heap.size + 1, 7, none⟩ = some (.bool t1) := kp.cell 7
  have q7 : W0.frozen? ⟨w.heap.size + 1, 7, none⟩ = false := kp.frozen 7
  have p8 : W0.cell? ⟨w.heap.size + 1, 8, none⟩ = some (.bool t2) := kp.cell 8
  have q8 : W0.frozen? ⟨w.heap.size + 1, 8, none⟩ = false := kp.frozen 8
  have p9 : W0.cell? ⟨w.heap.size + 1, 9, none⟩ = some (.bool t3) := kp.cell 9
  have q9 : W0.frozen? ⟨w.heap.size + 1, 9, none⟩ = false := kp.frozen 9
  have p10 : W0.cell? ⟨w.heap.size + 1, 10, none⟩ = some (.int .u8 1) := kp.cell 10
  have q10 : W0.frozen? ⟨w.heap.size + 1, 10, none⟩ = false := kp.frozen 10
  have p11 : W0.cell? ⟨w.heap.size + 1, 11, none⟩ = some (.int .i64 tt) := kp.cell 11
  have q11 : W0.frozen? ⟨w.heap.size + 1, 11, none⟩ = false := kp.frozen 11
  have p12 : W0.cell? ⟨w.heap.size + 1, 12, none⟩ = some (.int .i64 si) := kp.cell 12
  have q12 : W0.frozen? ⟨w.heap.size + 1, 12, none⟩ = false := kp.frozen 12
  have hz1 : w.heap.size + 1 < W0.heap.size := kp.lt
  have hz2 : w.heap.size + 1 + 1 < W0.heap.size := kr.lt
  have KR := Lib.hid kr
  have HB0 := Lib.hid hb0
  clear kd kp kr hb0
  go_wp2_with fail
  refine (freed_any job x1 x2 x3 x4 x5 x6 t1 t2 t3 1 tt si now _).mono ?_
  rintro e w1 ⟨rfl, hB1⟩
  have kr := KR.out.below hB1 hz2
  have hb1 := below_up HB0.out hB1
  have KR1 := Lib.hid kr
  have HB1 := Lib.hid hb1
  have hy2 : w.heap.size + 1 + 1 < w1.heap.size := kr.lt
  clear hB1 hb1
  have m0 : w1.cell? ⟨w.heap.size + 1 + 1, 0, none⟩ = some (.int .i64 0) := kr.cell 0
  have n0 : w1.frozen? ⟨w.heap.size + 1 + 1, 0, none⟩ = false := kr.frozen 0
  have m1 : w1.cell? ⟨w.heap.size + 1 + 1, 1, none⟩ = some (.int .i64 0) := kr.cell 1
  have n1 : w1.frozen? ⟨w.heap.size + 1 + 1, 1, none⟩ = false := kr.frozen 1
  have m2 : w1.cell? ⟨w.heap.size + 1 + 1, 2, none⟩ = some (.int .i64 0) := kr.cell 2
  have n2 : w1.frozen? ⟨w.heap.size + 1 + 1, 2, none⟩ = false := kr.frozen 2
  have m3 : w1.cell? ⟨w.heap.size + 1 + 1, 3, none⟩ = some (.int .i64 0) := kr.cell 3
  have n3 : w1.frozen? ⟨w.heap.size + 1 + 1, 3, none⟩ = false := kr.frozen 3
  have m4 : w1.cell? ⟨w.heap.size + 1 + 1, 4, none⟩ = some (.int .i64 0) := kr.cell 4
  have n4 : w1.frozen? ⟨w.heap.size + 1 + 1, 4, none⟩ = false := kr.frozen 4
  have m5 : w1.cell? ⟨w.heap.size + 1 + 1, 5, none⟩ = some (.int .i64 0) := kr.cell 5
  have n5 : w1.frozen? ⟨w.heap.size + 1 + 1, 5, none⟩ = false := kr.frozen 5
  have m6 : w1.cell? ⟨w.heap.size + 1 + 1, 6, none⟩ = some (.int .i64 0) := kr.cell 6
  have n6 : w1.frozen? ⟨w.heap.size + 1 + 1, 6, none⟩ = false := kr.frozen 6
  have m7 : w1.cell? ⟨w.heap.size + 1 + 1, 7, none⟩ = some (.bool false) := kr.cell 7
  have n7 : w1.frozen? ⟨w.heap.size + 1 + 1, 7, none⟩ = false := kr.frozen 7
  have m8 : w1.cell? ⟨w.heap.size + 1 + 1, 8, none⟩ = some (.bool false) := kr.cell 8
  have n8 : w1.frozen? ⟨w.heap.size + 1 + 1, 8, none⟩ = false := kr.frozen 8
  have m9 : w1.cell? ⟨w.heap.size + 1 + 1, 9, none⟩ = some (.bool false) := kr.cell 9
  have n9 : w1.frozen? ⟨w.heap.size + 1 + 1, 9, none⟩ = false := kr.frozen 9
  have m10 : w1.cell? ⟨w.heap.size + 1 + 1, 10, none⟩ = some (.int .u8 0) := kr.cell 10
  have n10 : w1.frozen? ⟨w.heap.size + 1 + 1, 10, none⟩ = false := kr.frozen 10
  have m11 : w1.cell? ⟨w.heap.size + 1 + 1, 11, none⟩ = some (.int .i64 0) := kr.cell 11
  have n11 : w1.frozen? ⟨w.heap.size + 1 + 1, 11, none⟩ = false := kr.frozen 11
  have m12 : w1.cell? ⟨w.heap.size + 1 + 1, 12, none⟩ = some (.int .i64 0) := kr.cell 12
  have n12 : w1.frozen? ⟨w.heap.size + 1 + 1, 12, none⟩ = false := kr.frozen 12
  clear kr
  go_wp2_with fail
  have hs13 := store13 (w := w) (g := w.heap.size + 1 + 1) HB1.out (by omega) KR1.out (.int .i64 job) (.int .i64 x1) (.int .i64 x2) (.int .i64 x3) (.int .i64 x4) (.int .i64 x5) (.int .i64 x6) (.bool t1) (.bool t2) (.bool t3) (.int .u8 3) (.int .i64 tt) (.int .i64 now)
  refine bodyPost_ret (v := .tuple #[.agg #[.int .i64 job, .int .i64 x1, .int .i64 x2, .int .i64 x3, .int .i64 x4, .int .i64 x5, .int .i64 x6, .bool t1, .bool t2, .bool t3, .int .u8 3, .int .i64 tt, .int .i64 now], .int .u8 3, .bool false, .bool false]) ?_ rfl ?_
  · exact res_turned _ _ (w.heap.size + 1 + 1) (.int .i64 job) (.int .i64 x1) (.int .i64 x2) (.int .i64 x3) (.int .i64 x4) (.int .i64 x5) (.int .i64 x6) (.bool t1) (.bool t2) (.bool t3) (.int .u8 3) (.int .i64 tt) (.int .i64 now) (.int .u8 3) (.bool false) (.bool false) rfl rfl rfl rfl hs13.2
  · exact ⟨rfl, hs13.1⟩
set_option maxRecDepth 100000 in
set_option maxHeartbeats 8000000 in
theorem tu_14 (a b c bo fr tr ag : Int) (X : Option Addr) (cp : Nat) (ks : List Cls) (job x1 x2 x3 x4 x5 x6 : Int) (t1 t2 t3 : Bool) (tt si : Int) (now : Int)  (w : World) :
    Calls Try.prog 33 #[.agg #[.int .i64 a, .int .i64 b, .int .i64 c, .int .i64 bo, .int .i64 fr, .int .i64 tr, .int .i64 ag, .slice X ks.length cp], .agg #[.int .i64 job, .int .i64 x1, .int .i64 x2, .int .i64 x3, .int .i64 x4, .int .i64 x5, .int .i64 x6, .bool t1, .bool t2, .bool t3, .int .u8 1, .int .i64 tt, .int .i64 si], .int .u8 4, .int .i64 now] w (fun e w' => e = .returned (.tuple #[.agg #[.int .i64 job, .int .i64 x1, .int .i64 x2, .int .i64 x3, .int .i64 x4, .int .i64 x5, .int .i64 x6, .bool t1, .bool t2, .bool t3, .int .u8 3, .int .i64 tt, .int .i64 now], .int .u8 6, .bool false, .bool false]) ∧ Below w.heap.size w w') := by
  go_enter Try.func33, Try.ntmps33
  go_upto_region 1 with fail
  have kd : Blk (((w.alloc (.cells #[.int .i64 a, .int .i64 b, .int .i64 c, .int .i64 bo, .int .i64 fr, .int .i64 tr, .int .i64 ag, .slice X ks.length cp] 26)).alloc (.cells #[.int .i64 job, .int .i64 x1, .int .i64 x2, .int .i64 x3, .int .i64 x4, .int .i64 x5, .int .i64 x6, .bool t1, .bool t2, .bool t3, .int .u8 1, .int .i64 tt, .int .i64 si] 37)).alloc (.cells #[.int .i64 0, .int .i64 0, .int .i64 0, .int .i64 0, .int .i64 0, .int .i64 0, .int .i64 0, .bool false, .bool false, .bool false, .int .u8 0, .int .i64 0, .int .i64 0] 37)) (w.heap.size) 26 #[.int .i64 a, .int .i64 b, .int .i64 c, .int .i64 bo, .int .i64 fr, .int .i64 tr, .int .i64 ag, .slice X ks.length cp] := ((Blk.new w _ _).alloc _).alloc _
  have kp : Blk (((w.alloc (.cells #[.int .i64 a, .int .i64 b, .int .i64 c, .int .i64 bo, .int .i64 fr, .int .i64 tr, .int .i64 ag, .slice X ks.length cp] 26)).alloc (.cells #[.int .i64 job, .int .i64 x1, .int .i64 x2, .int .i64 x3, .int .i64 x4, .int .i64 x5, .int .i64 x6, .bool t1, .bool t2, .bool t3, .int .u8 1, .int .i64 tt, .int .i64 si] 37)).alloc (.cells #[.int .i64 0, .int .i64 0, .int .i64 0, .int .i64 0, .int .i64 0, .int .i64 0, .int .i64 0, .bool false, .bool false, .bool false, .int .u8 0, .int .i64 0, .int .i64 0] 37)) (w.heap.size + 1) 37 #[.int .i64 job, .int .i64 x1, .int .i64 x2, .int .i64 x3, .int .i64 x4, .int .i64 x5, .int .i64 x6, .bool t1, .bool t2, .bool t3, .int .u8 1, .int .i64 tt, .int .i64 si] := (blk1 w _ _).alloc _
  have kr : Blk (((w.alloc (.cells #[.int .i64 a, .int .i64 b, .int .i64 c, .int .i64 bo, .int .i64 fr, .int .i64 tr, .int .i64 ag, .slice X ks.length cp] 26)).alloc (.cells #[.int .i64 job, .int .i64 x1, .int .i64 x2, .int .i64 x3, .int .i64 x4, .int .i64 x5, .int .i64 x6, .bool t1, .bool t2, .bool t3, .int .u8 1, .int .i64 tt, .int .i64 si] 37)).alloc (.cells #[.int .i64 0, .int .i64 0, .int .i64 0, .int .i64 0, .int .i64 0, .int .i64 0, .int .i64 0, .bool false, .bool false, .bool false, .int .u8 0, .int .i64 0, .int .i64 0] 37)) (w.heap.size + 1 + 1) 37 #[.int .i64 0, .int .i64 0, .int .i64 0, .int .i64 0, .int .i64 0, .int .i64 0, .int .i64 0, .bool false, .bool false, .bool false, .int .u8 0, .int .i64 0, .int .i64 0] := blk2 w _ _
  have hb0 : Below w.heap.size w (((w.alloc (.cells #[.int .i64 a, .int .i64 b, .int .i64 c, .int .i64 bo, .int .i64 fr, .int .i64 tr, .int .i64 ag, .slice X ks.length cp] 26)).alloc (.cells #[.int .i64 job, .int .i64 x1, .int .i64 x2, .int .i64 x3, .int .i64 x4, .int .i64 x5, .int .i64 x6, .bool t1, .bool t2, .bool t3, .int .u8 1, .int .i64 tt, .int .i64 si] 37)).alloc (.cells #[.int .i64 0, .int .i64 0, .int .i64 0, .int .i64 0, .int .i64 0, .int .i64 0, .int .i64 0, .bool false, .bool false, .bool false, .int .u8 0, .int .i64 0, .int .i64 0] 37)) := below_alloc (below_alloc (below_alloc (Below.refl _ _)))
  generalize hW0 : (((w.alloc (.cells #[.int .i64 a, .int .i64 b, .int .i64 c, .int .i64 bo, .int .i64 fr, .int .i64 tr, .int .i64 ag, .slice X ks.length cp] 26)).alloc (.cells #[.int .i64 job, .int .i64 x1, .int .i64 x2, .int .i64 x3, .int .i64 x4, .int .i64 x5, .int .i64 x6, .bool t1, .bool t2, .bool t3, .int .u8 1, .int .i64 tt, .int .i64 si] 37)).alloc (.cells #[.int .i64 0, .int .i64 0, .int .i64 0, .int .i64 0, .int .i64 0, .int .i64 0, .int .i64 0, .bool false, .bool false, .bool false, .int .u8 0, .int .i64 0, .int .i64 0] 37)) = W0 at *
  clear hW0
  have p0 : W0.cell? ⟨w.heap.size + 1, 0, none⟩ = some (.int .i64 job) := kp.cell 0
  have q0 : W0.frozen? ⟨w.heap.size + 1, 0, none⟩ = false := kp.frozen 0
  have p1 : W0.cell? ⟨w.heap.size + 1, 1, none⟩ = some (.int .i64 x1) := kp.cell 1
  have q1 : W0.frozen? ⟨w.heap.size + 1, 1, none⟩ = false := kp.frozen 1
  have p2 : W0.cell? ⟨w.heap.size + 1, 2, none⟩ = some (.int .i64 x2) := kp.cell 2
  have q2 : W0.frozen? ⟨w.heap.size + 1, 2, none⟩ = false := kp.frozen 2
  have p3 : W0.cell? ⟨w.heap.size + 1, 3, none⟩ = some (.int .i64 x3) := kp.cell 3
  have q3 : W0.frozen? ⟨w.heap.size + 1, 3, none⟩ = false := kp.frozen 3
  have p4 : W0.cell? ⟨w.heap.size + 1, 4, none⟩ = some (.int .i64 x4) := kp.cell 4
  have q4 : W0.frozen? ⟨w.heap.size + 1, 4, none⟩ = false := kp.frozen 4
  have p5 : W0.cell? ⟨w.heap.size + 1, 5, none⟩ = some (.int .i64 x5) := kp.cell 5
  have q5 : W0.frozen? ⟨w.heap.size + 1, 5, none⟩ = false := kp.frozen 5
  have p6 : W0.cell? ⟨w.heap.size + 1, 6, none⟩ = some (.int .i64 x6) := kp.cell 6
  have q6 : W0.frozen? ⟨w.heap.size + 1, 6, none⟩ = false := kp.frozen 6
  have p7 : W0.cell? ⟨w.heap.size + 1, 7, none⟩ = some (.bool t1) := kp.cell 7
  have q7 : W0.frozen? ⟨w.heap.size + 1, 7, none⟩ = false := kp.frozen 7
  have p8 : W0.cell? ⟨w.heap.size + 1, 8, none⟩ = some (.bool t2) := kp.cell 8
  have q8 : W0.frozen? ⟨w.heap.size + 1, 8, none⟩ = false := kp.frozen 8
  have p9 : W0.cell? ⟨w.heap.size + 1, 9, none⟩ = some (.bool t3) := kp.cell 9
  have q9 : W0.frozen? ⟨w.heap.size + 1, 9, none⟩ = false := kp.frozen 9
  have p10 : W0.cell? ⟨w.heap.size + 1, 10, none⟩ = some (.int .u8 1) := kp.cell 10
  have q10 : W0.frozen? ⟨w.heap.size + 1, 10, none⟩ = false := kp.frozen 10
  have p11 : W0.cell? ⟨w.heap.size + 1, 11, none⟩ = some (.int .i64 tt) := kp.cell 11
  have q11 : W0.frozen? ⟨w.heap.size + 1, 11, none⟩ = false := kp.frozen 11
  have p12 : W0.cell? ⟨w.heap.size + 1, 12, none⟩ = some (.int .i64 si) := kp.cell 12
  have q12 : W0.frozen? ⟨w.heap.size + 1, 12, none⟩ = false := kp.frozen 12
  have hz1 : w.heap.size + 1 < W0.heap.size := kp.lt
  have hz2 : w.heap.size + 1 + 1 < W0.heap.size := kr.lt
  have KR := Lib.hid kr
  have HB0 := Lib.hid hb0
  clear kd kp kr hb0
  go_wp2_with fail
  refine (freed_any job x1 x2 x3 x4 x5 x6 t1 t2 t3 1 tt si now _).mono ?_
  rintro e w1 ⟨rfl, hB1⟩
  have kr := KR.out.below hB1 hz2
  have hb1 := below_up HB0.out hB1
  have KR1 := Lib.hid kr
  have HB1 := Lib.hid hb1
  have hy2 : w.heap.size + 1 + 1 < w1.heap.size := kr.lt
  clear hB1 hb1
  have m0 : w1.cell? ⟨w.heap.size + 1 + 1, 0, none⟩ = some (.int .i64 0) := kr.cell 0
  have n0 : w1.frozen? ⟨w.heap.size + 1 + 1, 0, none⟩ = false := kr.frozen 0
  have m1 : w1.cell? ⟨w.heap.size + 1 + 1, 1, none⟩ = some (.int .i64 0) := kr.cell 1
  have n1 : w1.frozen? ⟨w.heap.size + 1 + 1, 1, none⟩ = false := kr.frozen 1
  have m2 : w1.cell? ⟨w.heap.size + 1 + 1, 2, none⟩ = some (.int .i64 0) := kr.cell 2
  have n2 : w1.frozen? ⟨w.heap.size + 1 + 1, 2, none⟩ = false := kr.frozen 2
  have m3 : w1.cell? ⟨w.heap.size + 1 + 1, 3, none⟩ = some (.int .i64 0) := kr.cell 3
  have n3 : w1.frozen? ⟨w.heap.size + 1 + 1, 3, none⟩ = false := kr.frozen 3
  have m4 : w1.cell? ⟨w.heap.size + 1 + 1, 4, none⟩ = some (.int .i64 0) := kr.cell 4
  have n4 : w1.frozen? ⟨w.heap.size + 1 + 1, 4, none⟩ = false := kr.frozen 4
  have m5 : w1.cell? ⟨w.heap.size + 1 + 1, 5, none⟩ = some (.int .i64 0) := kr.cell 5
  have n5 : w1.frozen? ⟨w.heap.size + 1 + 1, 5, none⟩ = false := kr.frozen 5
  have m6 : w1.cell? ⟨w.heap.size + 1 + 1, 6, none⟩ = some (.int .i64 0) := kr.cell 6
  have n6 : w1.frozen? ⟨w.heap.size + 1 + 1, 6, none⟩ = false := kr.frozen 6
  have m7 : w1.cell? ⟨w.heap.size + 1 + 1, 7, none⟩ = some (.bool false) := kr.cell 7
  have n7 : w1.frozen? ⟨w.heap.size + 1 + 1, 7, none⟩ = false := kr.frozen 7
  have m8 : w1.cell? ⟨w.heap.size + 1 + 1, 8, none⟩ = some (.bool false) := kr.cell 8
  have n8 : w1.frozen? ⟨w.heap.size + 1 + 1, 8, none⟩ = false := kr.frozen 8
  have m9 : w1.cell? ⟨w.heap.size + 1 + 1, 9, none⟩ = some (.bool false) := kr.cell 9
  have n9 : w1.frozen? ⟨w.heap.size + 1 + 1, 9, none⟩ = false := kr.frozen 9
  have m10 : w1.cell? ⟨w.heap.size + 1 + 1, 10, none⟩ = some (.int .u8 0) := kr.cell 10
  have n10 : w1.frozen? ⟨w.heap.size + 1 + 1, 10, none⟩ = false := kr.frozen 10
  have m11 : w1.cell? ⟨w.heap.size + 1 + 1, 11, none⟩ = some (.int .i64 0) := kr.cell 11
  have n11 : w1.frozen? ⟨w.heap.size + 1 + 1, 11, none⟩ = false := kr.frozen 11
  have m12 : w1.cell? ⟨w.heap.size + 1 + 1, 12, none⟩ = some (.int .i64 0) := kr.cell 12
  have n12 : w1.frozen? ⟨w.heap.size + 1 + 1, 12, none⟩ = false := kr.frozen 12
  clear kr
  go_wp2_with fail
  have hs13 := store13 (w := w) (g := w.heap.size + 1 + 1) HB1.out (by omega) KR1.out (.int .i64 job) (.int .i64 x1) (.int .i64 x2) (.int .i64 x3) (.int .i64 x4) (.int .i64 x5) (.int .i64 x6) (.bool t1) (.bool t2) (.bool t3) (.int .u8 3) (.int .i64 tt) (.int .i64 now)
  refine bodyPost_ret (v := .tuple #[.agg #[.int .i64 job, .int .i64 x1, .int .i64 x2, .int .i64 x3, .int .i64 x4, .int .i64 x5, .int .i64 x6, .bool t1, .bool t2, .bool t3, .int .u8 3, .int .i64 tt, .int .i64 now], .int .u8 6, .bool false, .bool false]) ?_ rfl ?_
  · exact res_turned _ _ (w.heap.size + 1 + 1) (.int .i64 job) (.int .i64 x1) (.int .i64 x2) (.int .i64 x3) (.int .i64 x4) (.int .i64 x5) (.int .i64 x6) (.bool t1) (.bool t2) (.bool t3) (.int .u8 3) (.int .i64 tt) (.int .i64 now) (.int .u8 6) (.bool false) (.bool false) rfl rfl rfl rfl hs13.2
  · exact ⟨rfl, hs13.1⟩
set_option maxRecDepth 100000 in
set_option maxHeartbeats 8000000 in
theorem tu_15 (a b c bo fr tr ag : Int) (X : Option Addr) (cp : Nat) (ks : List Cls) (job x1 x2 x3 x4 x5 x6 : Int) (t1 t2 t3 : Bool) (tt si : Int) (now : Int)  (w : World) :
    Calls Try.prog 33 #[.agg #[.int .i64 a, .int .i64 b, .int .i64 c, .int .i64 bo, .int .i64 fr, .int .i64 tr, .int .i64 ag, .slice X ks.length cp], .agg #[.int .i64 job, .int .i64 x1, .int .i64 x2, .int .i64 x3, .int .i64 x4, .int .i64 x5, .int .i64 x6, .bool t1, .bool t2, .bool t3, .int .u8 1, .int .i64 tt, .int .i64 si], .int .u8 5, .int .i64 now] w (fun e w' => e = .returned (.tuple #[.agg #[.int .i64 job, .int .i64 x1, .int .i64 x2, .int .i64 x3, .int .i64 x4, .int .i64 x5, .int .i64 x6, .bool t1, .bool t2, .bool t3, .int .u8 3, .int .i64 tt, .int .i64 now], .int .u8 4, .bool false, .bool false]) ∧ Below w.heap.size w w') := by
  go_enter Try.func33, Try.ntmps33
  go_upto_region 1 with fail
  have kd : Blk (((w.alloc (.cells #[.int .i64 a, .int .i64 b, .int .i64 c, .int .i64 bo, .int .i64 fr, .int .i64 tr, .int .i64 ag, .slice X ks.length cp] 26)).alloc (.cells #[.int .i64 job, .int .i64 x1, .int .i64 x2, .int .i64 x3, .int .i64 x4, .int .i64 x5, .int .i64 x6, .bool t1, .bool t2, .bool t3, .int .u8 1, .int .i64 tt, .int .i64 si] 37)).alloc (.cells #[.int .i64 0, .int .i64 0, .int .i64 0, .int .i64 0, .int .i64 0, .int .i64 0, .int .i64 0, .bool false, .bool false, .bool false, .int .u8 0, .int .i64 0, .int .i64 0] 37)) (w.heap.size) 26 #[.int .i64 a, .int .i64 b, .int .i64 c, .int .i64 bo, .int .i64 fr, .int .i64 tr, .int .i64 ag, .slice X ks.length cp] := ((Blk.new w _ _).alloc _).alloc _
  have kp : Blk (((w.alloc (.cells #[.int .i64 a, .int .i64 b, .int .i64 c, .int .i64 bo, .int .i64 fr, .int .i64 tr, .int .i64 ag, .slice X ks.length cp] 26)).alloc (.cells #[.int .i64 job, .int .i64 x1, .int .i64 x2, .int .i64 x3, .int .i64 x4, .int .i64 x5, .int .i64 x6, .bool t1, .bool t2, .bool t3, .int .u8 1, .int .i64 tt, .int .i64 si] 37)).alloc (.cells #[.int .i64 0, .int .i64 0, .int .i64 0, .int .i64 0, .int .i64 0, .int .i64 0, .int .i64 0, .bool false, .bool false, .bool false, .int .u8 0, .int .i64 0, .int .i64 0] 37)) (w.heap.size + 1) 37 #[.int .i64 job, .int .i64 x1, .int .i64 x2, .int .i64 x3, .int .i64 x4, .int .i64 x5, .int .i64 x6, .bool t1, .bool t2, .bool t3, .int .u8 1, .int .i64 tt, .int .i64 si] := (blk1 w _ _).alloc _
  have kr : Blk (((w.alloc (.cells #[.int .i64 a, .int .i64 b, .int .i64 c, .int .i64 bo, .int .i64 fr, .int .i64 tr, .int .i64 ag, .slice X ks.length cp] 26)).alloc (.cells #[.int .i64 job, .int .i64 x1, .int .i64 x2, .int .i64 x3, .int .i64 x4, .int .i64 x5, .int .i64 x6, .bool t1, .bool t2, .bool t3, .int .u8 1, .int .i64 tt, .int .i64 si] 37)).alloc (.cells #[.int .i64 0, .int .i64 0, .int .i64 0, .int .i64 0, .int .i64 0, .int .i64 0, .int .i64 0, .bool false, .bool false, .bool false, .int .u8 0, .int .i64 0, .int .i64 0] 37)) (w.heap.size + 1 + 1) 37 #[.int .i64 0, .int .i64 0, .int .i64 0, .int .i64 0, .int .i64 0, .int .i64 0, .int .i64 0, .bool false, .bool false, .bool false, .int .u8 0, .int .i64 0, .int .i64 0] := blk2 w _ _
  have hb0 : Below w.heap.size w (((w.alloc (.cells #[.int .i64 a, .int .i64 b, .int .i64 c, .int .i64 bo, .int .i64 fr, .int .i64 tr, .int .i64 ag, .slice X ks.length cp] 26)).alloc (.cells #[.int .i64 job, .int .i64 x1, .int .i64 x2, .int .i64 x3, .int .i64 x4, .int .i64 x5, .int .i64 x6, .bool t1, .bool t2, .bool t3, .int .u8 1, .int .i64 tt, .int .i64 si] 37)).alloc (.cells #[.int .i64 0, .int .i64 0, .int .i64 0, .int .i64 0, .int .i64 0, .int .i64 0, .int .i64 0, .bool false, .bool false, .bool false, .int .u8 0, .int .i64 0, .int .i64 0] 37)) := below_alloc (below_alloc (below_alloc (Below.refl _ _)))
  generalize hW0 : (((w.alloc (.cells #[.int .i64 a, .int .i64 b, .int .i64 c, .int .i64 bo, .int .i64 fr, .int .i64 tr, .int .i64 ag, .slice X ks.length cp] 26)).alloc (.cells #[.int .i64 job, .int .i64 x1, .int .i64 x2, .int .i64 x3, .int .i64 x4, .int .i64 x5, .int .i64 x6, .bool t1, .bool t2, .bool t3, .int .u8 1, .int .i64 tt, .int .i64 si] 37)).alloc (.cells #[.int .i64 0, .int .i64 0, .int .i64 0, .int .i64 0, .int .i64 0, .int .i64 0, .int .i64 0, .bool false, .bool false, .bool false, .int .u8 0, .int .i64 0, .int .i64 0] 37)) = W0 at *
  clear hW0
  have p0 : W0.cell? ⟨w.heap.size + 1, 0, none⟩ = some (.int .i64 job) := kp.cell 0
  have q0 : W0.frozen? ⟨w.heap.size + 1, 0, none⟩ = false := kp.frozen 0
  have p1 : W0.cell? ⟨w.heap.size + 1, 1, none⟩ = some (.int .i64 x1) := kp.cell 1
  have q1 : W0.frozen? ⟨w.heap.size + 1, 1, none⟩ = false := kp.frozen 1
  have p2 : W0.cell? ⟨w.heap.size + 1, 2, none⟩ = some (.int .i64 x2) := kp.cell 2
  have q2 : W0.frozen? ⟨w.heap.size + 1, 2, none⟩ = false := kp.frozen 2
  have p3 : W0.cell? ⟨w.heap.size + 1, 3, none⟩ = some (.int .i64 x3) := kp.cell 3
  have q3 : W0.frozen? ⟨w.heap.size + 1, 3, none⟩ = false := kp.frozen 3
  have p4 : W0.cell? ⟨w.heap.size + 1, 4, none⟩ = some (.int .i64 x4) := kp.cell 4
  have q4 : W0.frozen? ⟨w.heap.size + 1, 4, none⟩ = false := kp.frozen 4
  have p5 : W0.cell? ⟨w.heap.size + 1, 5, none⟩ = some (.int .i64 x5) := kp.cell 5
  have q5 : W0.frozen? ⟨w.heap.size + 1, 5, none⟩ = false := kp.frozen 5
  have p6 : W0.cell? ⟨w.heap.size + 1, 6, none⟩ = some (.int .i64 x6) := kp.cell 6
  have q6 : W0.frozen? ⟨w.heap.size + 1, 6, none⟩ = false := kp.frozen 6
  have p7 : W0.cell? ⟨w.heap.size + 1, 7, none⟩ = some (.bool t1) := kp.cell 7
  have q7 : W0.frozen? ⟨w.heap.size + 1, 7, none⟩ = false := kp.frozen 7
  have p8 : W0.cell? ⟨w.heap.size + 1, 8, none⟩ = some (.bool t2) := kp.cell 8
  have q8 : W0.frozen? ⟨w.heap.size + 1, 8, none⟩ = false := kp.frozen 8
  have p9 : W0.cell? ⟨w.heap.size + 1, 9, none⟩ = some (.bool t3) := kp.cell 9
  have q9 : W0.frozen? ⟨w.heap.size + 1, 9, none⟩ = false := kp.frozen 9
  have p10 : W0.cell? ⟨w.heap.size + 1, 10, none⟩ = some (.int .u8 1) := kp.cell 10
  have q10 : W0.frozen? ⟨w.heap.size + 1, 10, none⟩ = false := kp.frozen 10
  have p11 : W0.cell? ⟨w.heap.size + 1, 11, none⟩ = some (.int .i64 tt) := kp.cell 11
  have q11 : W0.frozen? ⟨w.heap.size + 1, 11, none⟩ = false := kp.frozen 11
  have p12 : W0.cell? ⟨w.heap.size + 1, 12, none⟩ = some (.int .i64 si) := kp.cell 12
  have q12 : W0.frozen? ⟨w.heap.size + 1, 12, none⟩ = false := kp.frozen 12
  have hz1 : w.heap.size + 1 < W0.heap.size := kp.lt
  have hz2 : w.heap.size + 1 + 1 < W0.heap.size := kr.lt
  have KR := Lib.hid kr
  have HB0 := Lib.hid hb0
  clear kd kp kr hb0
  go_wp2_with fail
  refine (freed_any job x1 x2 x3 x4 x5 x6 t1 t2 t3 1 tt si now _).mono ?_
  rintro e w1 ⟨rfl, hB1⟩
  have kr := KR.out.below hB1 hz2
  have hb1 := below_up HB0.out hB1
  have KR1 := Lib.hid kr
  have HB1 := Lib.hid hb1
  have hy2 : w.heap.size + 1 + 1 < w1.heap.size := kr.lt
  clear hB1 hb1
  have m0 : w1.cell? ⟨w.heap.size + 1 + 1, 0, none⟩ = some (.int .i64 0) := kr.cell 0
  have n0 : w1.frozen? ⟨w.heap.size + 1 + 1, 0, none⟩ = false := kr.frozen 0
  have m1 : w1.cell? ⟨w.heap.size + 1 + 1, 1, none⟩ = some (.int .i64 0) := kr.cell 1
  have n1 : w1.frozen? ⟨w.heap.size + 1 + 1, 1, none⟩ = false := kr.frozen 1
  have m2 : w1.cell? ⟨w.heap.size + 1 + 1, 2, none⟩ = some (.int .i64 0) := kr.cell 2
  have n2 : w1.frozen? ⟨w.heap.size + 1 + 1, 2, none⟩ = false := kr.frozen 2
  have m3 : w1.cell? ⟨w.heap.size + 1 + 1, 3, none⟩ = some (.int .i64 0) := kr.cell 3
  have n3 : w1.frozen? ⟨w.heap.size + 1 + 1, 3, none⟩ = false := kr.frozen 3
  have m4 : w1.cell? ⟨w.heap.size + 1 + 1, 4, none⟩ = some (.int .i64 0) := kr.cell 4
  have n4 : w1.frozen? ⟨w.heap.size + 1 + 1, 4, none⟩ = false := kr.frozen 4
  have m5 : w1.cell? ⟨w.heap.size + 1 + 1, 5, none⟩ = some (.int .i64 0) := kr.cell 5
  have n5 : w1.frozen? ⟨w.heap.size + 1 + 1, 5, none⟩ = false := kr.frozen 5
  have m6 : w1.cell? ⟨w.heap.size + 1 + 1, 6, none⟩ = some (.int .i64 0) := kr.cell 6
  have n6 : w1.frozen? ⟨w.heap.size + 1 + 1, 6, none⟩ = false := kr.frozen 6
  have m7 : w1.cell? ⟨w.heap.size + 1 + 1, 7, none⟩ = some (.bool false) := kr.cell 7
  have n7 : w1.frozen? ⟨w.heap.size + 1 + 1, 7, none⟩ = false := kr.frozen 7
  have m8 : w1.cell? ⟨w.heap.size + 1 + 1, 8, none⟩ = some (.bool false) := kr.cell 8
  have n8 : w1.frozen? ⟨w.heap.size + 1 + 1, 8, none⟩ = false := kr.frozen 8
  have m9 : w1.cell? ⟨w.heap.size + 1 + 1, 9, none⟩ = some (.bool false) := kr.cell 9
  have n9 : w1.frozen? ⟨w.heap.size + 1 + 1, 9, none⟩ = false := kr.frozen 9
  have m10 : w1.cell? ⟨w.heap.size + 1 + 1, 10, none⟩ = some (.int .u8 0) := kr.cell 10
  have n10 : w1.frozen? ⟨w.heap.size + 1 + 1, 10, none⟩ = false := kr.frozen 10
  have m11 : w1.cell? ⟨w.heap.size + 1 + 1, 11, none⟩ = some (.int .i64 0) := kr.cell 11
  have n11 : w1.frozen? ⟨w.heap.size + 1 + 1, 11, none⟩ = false := kr.frozen 11
  have m12 : w1.cell? ⟨w.heap.size + 1 + 1, 12, none⟩ = some (.int .i64 0) := kr.cell 12
  have n12 : w1.frozen? ⟨w.heap.size + 1 + 1, 12, none⟩ = false := kr.frozen 12
  clear kr
  go_wp2_with fail
  have hs13 := store13 (w := w) (g := w.heap.size + 1 + 1) HB1.out (by omega) KR1.out (.int .i64 job) (.int .i64 x1) (.int .i64 x2) (.int .i64 x3) (.int .i64 x4) (.int .i64 x5) (.int .i64 x6) (.bool t1) (.bool t2) (.bool t3) (.int .u8 3) (.int .i64 tt) (.int .i64 now)
  refine bodyPost_ret (v := .tuple #[.agg #[.int .i64 job, .int .i64 x1, .int .i64 x2, .int .i64 x3, .int .i64 x4, .int .i64 x5, .int .i64 x6, .bool t1, .bool t2, .bool t3, .int .u8 3, .int .i64 tt, .int .i64 now], .int .u8 4, .bool false, .bool false]) ?_ rfl ?_
  · exact res_turned _ _ (w.heap.size + 1 + 1) (.int .i64 job) (.int .i64 x1) (.int .i64 x2) (.int .i64 x3) (.int .i64 x4) (.int .i64 x5) (.int .i64 x6) (.bool t1) (.bool t2) (.bool t3) (.int .u8 3) (.int .i64 tt) (.int .i64 now) (.int .u8 4) (.bool false) (.bool false) rfl rfl rfl rfl hs13.2
  · exact ⟨rfl, hs13.1⟩
set_option maxRecDepth 100000 in
set_option maxHeartbeats 8000000 in
theorem tu_26 (a b c bo fr tr ag : Int) (X : Option Addr) (cp : Nat) (ks : List Cls) (job x1 x2 x3 x4 x5 x6 : Int) (t1 t2 t3 : Bool) (tt si : Int) (now : Int)  (w : World) :
    Calls Try.prog 33 #[.agg #[.int .i64 a, .int .i64 b, .int .i64 c, .int .i64 bo, .int .i64 fr, .int .i64 tr, .int .i64 ag, .slice X ks.length cp], .agg #[.int .i64 job, .int .i64 x1, .int .i64 x2, .int .i64 x3, .int .i64 x4, .int .i64 x5, .int .i64 x6, .bool t1, .bool t2, .bool t3, .int .u8 2, .int .i64 tt, .int .i64 si], .int .u8 6, .int .i64 now] w (fun e w' => e = .returned (.tuple #[.agg #[.int .i64 job, .int .i64 x1, .int .i64 x2, .int .i64 x3, .int .i64 x4, .int .i64 x5, .int .i64 x6, .bool t1, .bool t2, .bool t3, .int .u8 3, .int .i64 tt, .int .i64 now], .int .u8 5, .bool false, .bool true]) ∧ Below w.heap.size w w') := by
  go_enter Try.func33, Try.ntmps33
  go_upto_region 1 with fail
  have kd : Blk (((w.alloc (.cells #[.int .i64 a, .int .i64 b, .int .i64 c, .int .i64 bo, .int .i64 fr, .int .i64 tr, .int .i64 ag, .slice X ks.length cp] 26)).alloc (.cells #[.int .i64 job, .int .i64 x1, .int .i64 x2, .int .i64 x3, .int .i64 x4, .int .i64 x5, .int .i64 x6, .bool t1, .bool t2, .bool t3, .int .u8 2, .int .i64 tt, .int .i64 si] 37)).alloc (.cells #[.int .i64 0, .int .i64 0, .int .i64 0, .int .i64 0, .int .i64 0, .int .i64 0, .int .i64 0, .bool false, .bool false, .bool false, .int .u8 0, .int .i64 0, .int .i64 0] 37)) (w.heap.size) 26 #[.int .i64 a, .int .i64 b, .int .i64 c, .int .i64 bo, .int .i64 fr, .int .i64 tr, .int .i64 ag, .slice X ks.length cp] := ((Blk.new w _ _).alloc _).alloc _
  have kp : Blk (((w.alloc (.cells #[.int .i64 a, .int .i64 b, .int .i64 c, .int .i64 bo, .int .i64 fr, .int .i64 tr, .int .i64 ag, .slice X ks.length cp] 26)).alloc (.cells #[.int .i64 job, .int .i64 x1, .int .i64 x2, .int .i64 x3, .int .i64 x4, .int .i64 x5, .int .i64 x6, .bool t1, .bool t2, .bool t3, .int .u8 2, .int .i64 tt, .int .i64 si] 37)).alloc (.cells #[.int .i64 0, .int .i64 0, .int .i64 0, .int .i64 0, .int .i64 0, .int .i64 0, .int .i64 0, .bool false, .bool false, .bool false, .int .u8 0, .int .i64 0, .int .i64 0] 37)) (w.heap.size + 1) 37 #[.int .i64 job, .int .i64 x1, .int .i64 x2, .int .i64 x3, .int .i64 x4, .int .i64 x5, .int .i64 x6, .bool t1, .bool t2, .bool t3, .int .u8 2, .int .i64 tt, .int .i64 si] := (blk1 w _ _).alloc _
  have kr : Blk (((w.alloc (.cells #[.int .i64 a, .int .i64 b, .int .i64 c, .int .i64 bo, .int .i64 fr, .int .i64 tr, .int .i64 ag, .slice X ks.length cp] 26)).alloc (.cells #[.int .i64 job, .int .i64 x1, .int .i64 x2, .int .i64 x3, .int .i64 x4, .int .i64 x5, .int .i64 x6, .bool t1, .bool t2, .bool t3, .int .u8 2, .int .i64 tt, .int .i64 si] 37)).alloc (.cells #[.int .i64 0, .int .i64 0, .int .i64 0, .int .i64 0, .int .i64 0, .int .i64 0, .int .i64 0, .bool false, .bool false, .bool false, .int .u8 0, .int .i64 0, .int .i64 0] 37)) (w.heap.size + 1 + 1) 37 #[.int .i64 0, .int .i64 0, .int .i64 0, .int .i64 0, .int .i64 0, .int .i64 0, .int .i64 0, .bool false, .bool false, .bool false, .int .u8 0, .int .i64 0, .int .i64 0] := blk2 w _ _
  have hb0 : Below w.heap.size w (((w.alloc (.cells #[.int .i64 a, .int .i64 b, .int .i64 c, .int .i64 bo, .int .i64 fr, .int .i64 tr, .int .i64 ag, .slice X ks.length cp] 26)).alloc (.cells #[.int .i64 job, .int .i64 x1, .int .i64 x2, .int .i64 x3, .int .i64 x4, .int .i64 x5, .int .i64 x6, .bool t1, .bool t2, .bool t3, .int .u8 2, .int .i64 tt, .int .i64 si] 37)).alloc (.cells #[.int .i64 0, .int .i64 0, .int .i64 0, .int .i64 0, .int .i64 0, .int .i64 0, .int .i64 0, .bool false, .bool false, .bool false, .int .u8 0, .int .i64 0, .int .i64 0] 37)) := below_alloc (below_alloc (below_alloc (Below.refl _ _)))
  generalize hW0 : (((w.alloc (.cells #[.int .i64 a, .int .i64 b, .int .i64 c, .int .i64 bo, .int .i64 fr, .int .i64 tr, .int .i64 ag, .slice X ks.length cp] 26)).alloc (.cells #[.int .i64 job, .int .i64 x1, .int .i64 x2, .int .i64 x3, .int .i64 x4, .int .i64 x5, .int .i64 x6, .bool t1, .bool t2, .bool t3, .int .u8 2, .int .i64 tt, .int .i64 si] 37)).alloc (.cells #[.int .i64 0, .int .i64 0, .int .i64 0, .int .i64 0, .int .i64 0, .int .i64 0, .int .i64 0, .bool false, .bool false, .bool false, .int .u8 0, .int .i64 0, .int .i64 0] 37)) = W0 at *
  clear hW0
  have p0 : W0.cell? ⟨w.heap.size + 1, 0, none⟩ = some (.int .i64 job) := kp.cell 0
  have q0 : W0.frozen? ⟨w.heap.size + 1, 0, none⟩ = false := kp.frozen 0
  have p1 : W0.cell? ⟨w.heap.size + 1, 1, none⟩ = some (.int .i64 x1) := kp.cell 1
  have q1 : W0.frozen? ⟨w.heap.size + 1, 1, none⟩ = false := kp.frozen 1
  have p2 : W0.cell? ⟨w.heap.size + 1, 2, none⟩ = some (.int .i64 x2) := kp.cell 2
  have q2 : W0.frozen? ⟨w.heap.size + 1, 2, none⟩ = false := kp.frozen 2
  have p3 : W0.cell? ⟨w.heap.size + 1, 3, none⟩ = some (.int .i64 x3) := kp.cell 3
  have q3 : W0.frozen? ⟨w.heap.size + 1, 3, none⟩ = false := kp.frozen 3
  have p4 : W0.cell? ⟨w.heap.size + 1, 4, none⟩ = some (.int .i64 x4) := kp.cell 4
  have q4 : W0.frozen? ⟨w.heap.size + 1, 4, none⟩ = false := kp.frozen 4
  have p5 : W0.cell? ⟨w.heap.size + 1, 5, none⟩ = some (.int .i64 x5) := kp.cell 5
  have q5 : W0.frozen? ⟨w.heap.size + 1, 5, none⟩ = false := kp.frozen 5
  have p6 : W0.cell? ⟨w.heap.size + 1, 6, none⟩ = some (.int .i64 x6) := kp.cell 6
  have q6 : W0.frozen? ⟨w.heap.size + 1, 6, none⟩ = false := kp.frozen 6
  have p7 : W0.cell? ⟨w.heap.size + 1, 7, none⟩ = some (.bool t1) := kp.cell 7
  have q7 : W0.frozen? ⟨w.heap.size + 1, 7, none⟩ = false := kp.frozen 7
  have p8 : W0.cell? ⟨w.heap.size + 1, 8, none⟩ = some (.bool t2) := kp.cell 8
  have q8 : W0.frozen? ⟨w.heap.size + 1, 8, none⟩ = false := kp.frozen 8
  have p9 : W0.cell? ⟨w.heap.size + 1, 9, none⟩ = some (.bool t3) := kp.cell 9
  have q9 : W0.frozen? ⟨w.heap.size + 1, 9, none⟩ = false := kp.frozen 9
  have p10 : W0.cell? ⟨w.heap.size + 1, 10, none⟩ = some (.int .u8 2) := kp.cell 10
  have q10 : W0.frozen? ⟨w.heap.size + 1, 10, none⟩ = false := kp.frozen 10
  have p11 : W0.cell? ⟨w.heap.size + 1, 11, none⟩ = some (.int .i64 tt) := kp.cell 11
  have q11 : W0.frozen? ⟨w.heap.size + 1, 11, none⟩ = false := kp.frozen 11
  have p12 : W0.cell? ⟨w.heap.size + 1, 12, none⟩ = some (.int .i64 si) := kp.cell 12
  have q12 : W0.frozen? ⟨w.heap.size + 1, 12, none⟩ = false := kp.frozen 12
  have hz1 : w.heap.size + 1 < W0.heap.size := kp.lt
  have hz2 : w.heap.size + 1 + 1 < W0.heap.size := kr.lt
  have KR := Lib.hid kr
  have HB0 := Lib.hid hb0
  clear kd kp kr hb0
  go_wp2_with fail
  refine (freed_any job x1 x2 x3 x4 x5 x6 t1 t2 t3 2 tt si now _).mono ?_
  rintro e w1 ⟨rfl, hB1⟩
  have kr := KR.out.below hB1 hz2
  have hb1 := below_up HB0.out hB1
  have KR1 := Lib.hid kr
  have HB1 := Lib.hid hb1
  have hy2 : w.heap.size + 1 + 1 < w1.heap.size := kr.lt
  clear hB1 hb1
  have m0 : w1.cell? ⟨w.heap.size + 1 + 1, 0, none⟩ = some (.int .i64 0) := kr.cell 0
  have n0 : w1.frozen? ⟨w.heap.size + 1 + 1, 0, none⟩ = false := kr.frozen 0
  have m1 : w1.cell? ⟨w.heap.size + 1 + 1, 1, none⟩ = some (.int .i64 0) := kr.cell 1
  have n1 : w1.frozen? ⟨w.heap.size + 1 + 1, 1, none⟩ = false := kr.frozen 1
  have m2 : w1.cell? ⟨w.heap.size + 1 + 1, 2, none⟩ = some (.int .i64 0) := kr.cell 2
  have n2 : w1.frozen? ⟨w.heap.size + 1 + 1, 2, none⟩ = false := kr.frozen 2
  have m3 : w1.cell? ⟨w.heap.size + 1 + 1, 3, none⟩ = some (.int .i64 0) := kr.cell 3
  have n3 : w1.frozen? ⟨w.heap.size + 1 + 1, 3, none⟩ = false := kr.frozen 3
  have m4 : w1.cell? ⟨w.heap.size + 1 + 1, 4, none⟩ = some (.int .i64 0) := kr.cell 4
  have n4 : w1.frozen? ⟨w.heap.size + 1 + 1, 4, none⟩ = false := kr.frozen 4
  have m5 : w1.cell? ⟨w.heap.size + 1 + 1, 5, none⟩ = some (.int .i64 0) := kr.cell 5
  have n5 : w1.frozen? ⟨w.heap.size + 1 + 1, 5, none⟩ = false := kr.frozen 5
  have m6 : w1.cell? ⟨w.heap.size + 1 + 1, 6, none⟩ = some (.int .i64 0) := kr.cell 6
  have n6 : w1.frozen? ⟨w.heap.size + 1 + 1, 6, none⟩ = false := kr.frozen 6
  have m7 : w1.cell? ⟨w.heap.size + 1 + 1, 7, none⟩ = some (.bool false) := kr.cell 7
  have n7 : w1.frozen? ⟨w.heap.size + 1 + 1, 7, none⟩ = false := kr.frozen 7
  have m8 : w1.cell? ⟨w.heap.size + 1 + 1, 8, none⟩ = some (.bool false) := kr.cell 8
  have n8 : w1.frozen? ⟨w.heap.size + 1 + 1, 8, none⟩ = false := kr.frozen 8
  have m9 : w1.cell? ⟨w.heap.size + 1 + 1, 9, none⟩ = some (.bool false) := kr.cell 9
  have n9 : w1.frozen? ⟨w.heap.size + 1 + 1, 9, none⟩ = false := kr.frozen 9
  have m10 : w1.cell? ⟨w.heap.size + 1 + 1, 10, none⟩ = some (.int .u8 0) := kr.cell 10
  have n10 : w1.frozen? ⟨w.heap.size + 1 + 1, 10, none⟩ = false := kr.frozen 10
  have m11 : w1.cell? ⟨w.heap.size + 1 + 1, 11, none⟩ = some (.int .i64 0) := kr.cell 11
  have n11 : w1.frozen? ⟨w.heap.size + 1 + 1, 11, none⟩ = false := kr.frozen 11
  have m12 : w1.cell? ⟨w.heap.size + 1 + 1, 12, none⟩ = some (.int .i64 0) := kr.cell 12
  have n12 : w1.frozen? ⟨w.heap.size + 1 + 1, 12, none⟩ = false := kr.frozen 12
  clear kr
  go_wp2_with fail
  have hs13 := store13 (w := w) (g := w.heap.size + 1 + 1) HB1.out (by omega) KR1.out (.int .i64 job) (.int .i64 x1) (.int .i64 x2) (.int .i64 x3) (.int .i64 x4) (.int .i64 x5) (.int .i64 x6) (.bool t1) (.bool t2) (.bool t3) (.int .u8 3) (.int .i64 tt) (.int .i64 now)
  refine bodyPost_ret (v := .tuple #[.agg #[.int .i64 job, .int .i64 x1, .int .i64 x2, .int .i64 x3, .int .i64 x4, .int .i64 x5, .int .i64 x6, .bool t1, .bool t2, .bool t3, .int .u8 3, .int .i64 tt, .int .i64 now], .int .u8 5, .bool false, .bool true]) ?_ rfl ?_
  · exact res_turned _ _ (w.heap.size + 1 + 1) (.int .i64 job) (.int .i64 x1) (.int .i64 x2) (.int .i64 x3) (.int .i64 x4) (.int .i64 x5) (.int .i64 x6) (.bool t1) (.bool t2) (.bool t3) (.int .u8 3) (.int .i64 tt) (.int .i64 now) (.int .u8 5) (.bool false) (.bool true) rfl rfl rfl rfl hs13.2
  · exact ⟨rfl, hs13.1⟩
set_option maxRecDepth 100000 in
set_option maxHeartbeats 8000000 in
theorem tu_27 (a b c bo fr tr ag : Int) (X : Option Addr) (cp : Nat) (ks : List Cls) (job x1 x2 x3 x4 x5 x6 : Int) (t1 t2 t3 : Bool) (tt si : Int) (now : Int)  (w : World) :
    Calls Try.prog 33 #[.agg #[.int .i64 a, .int .i64 b, .int .i64 c, .int .i64 bo, .int .i64 fr, .int .i64 tr, .int .i64 ag, .slice X ks.length cp], .agg #[.int .i64 job, .int .i64 x1, .int .i64 x2, .int .i64 x3, .int .i64 x4, .int .i64 x5, .int .i64 x6, .bool t1, .bool t2, .bool t3, .int .u8 2, .int .i64 tt, .int .i64 si], .int .u8 7, .int .i64 now] w (fun e w' => e = .returned (.tuple #[.agg #[.int .i64 job, .int .i64 x1, .int .i64 x2, .int .i64 x3, .int .i64 x4, .int .i64 x5, .int .i64 x6, .bool t1, .bool t2, .bool t3, .int .u8 3, .int .i64 tt, .int .i64 now], .int .u8 6, .bool false, .bool true]) ∧ Below w.heap.size w w') := by
  go_enter Try.func33, Try.ntmps33
  go_upto_region 1 with fail
  have kd : Blk (((w.alloc (.cells #[.int .i64 a, .int .i64 b, .int .i64 c, .int .i64 bo, .int .i64 fr, .int .i64 tr, .int .i64 ag, .slice X ks.length cp] 26)).alloc (.cells #[.int .i64 job, .int .i64 x1, .int .i64 x2, .int .i64 x3, .int .i64 x4, .int .i64 x5, .int .i64 x6, .bool t1, .bool t2, .bool t3, .int .u8 2, .int .i64 tt, .int .i64 si] 37)).alloc (.cells #[.int .i64 0, .int .i64 0, .int .i64 0, .int .i64 0, .int .i64 0, .int .i64 0, .int .i64 0, .bool false, .bool false, .bool false, .int .u8 0, .int .i64 0, .int .i64 0] 37)) (w.heap.size) 26 #[.int .i64 a, .int .i64 b, .int .i64 c, .int .i64 bo, .int .i64 fr, .int .i64 tr, .int .i64 ag, .slice X ks.length cp] := ((Blk.new w _ _).alloc _).alloc _
  have kp : Blk (((w.alloc (.cells #[.int .i64 a, .int .i64 b, .int .i64 c, .int .i64 bo, .int .i64 fr, .int .i64 tr, .int .i64 ag, .slice X ks.length cp] 26)).alloc (.cells #[.int .i64 job, .int .i64 x1, .int .i64 x2, .int .i64 x3, .int .i64 x4, .int .i64 x5, .int .i64 x6, .bool t1, .bool t2, .bool t3, .int .u8 2, .int .i64 tt, .int .i64 si] 37)).alloc (.cells #[.int .i64 0, .int .i64 0, .int .i64 0, .int .i64 0, .int .i64 0, .int .i64 0, .int .i64 0, .bool false, .bool false, .bool false, .int .u8 0, .int .i64 0, .int .i64 0] 37)) (w.heap.size + 1) 37 #[.int .i64 job, .int .i64 x1, .int .i64 x2, .int .i64 x3, .int .i64 x4, .int .i64 x5, .int .i64 x6, .bool t1, .bool t2, .bool t3, .int .u8 2, .int .i64 tt, .int .i64 si] := (blk1 w _ _).alloc _
  have kr : Blk (((w.alloc (.cells #[.int .i64 a, .int .i64 b, .int .i64 c, .int .i64 bo, .int .i64 fr, .int .i64 tr, .int .i64 ag, .slice X ks.length cp] 26)).alloc (.cells #[.int .i64 job, .int .i64 x1, .int .i64 x2, .int .i64 x3, .int .i64 x4, .int .i64 x5, .int .i64 x6, .bool t1, .bool t2, .bool t3, .int .u8 2, .int .i64 tt, .int .i64 si] 37)).alloc (.cells #[.int .i64 0, .int .i64 0, .int .i64 0, .int .i64 0, .int .i64 0, .int .i64 0, .int .i64 0, .bool false, .bool false, .bool false, .int .u8 0, .int .i64 0, .int .i64 0] 37)) (w.heap.size + 1 + 1) 37 #[.int .i64 0, .int .i64 0, .int .i64 0, .int .i64 0, .int .i64 0, .int .i64 0, .int .i64 0, .bool false, .bool false, .bool false, .int .u8 0, .int .i64 0, .int .i64 0] := blk2 w _ _
  have hb0 : Below w.heap.size w (((w.alloc (.cells #[.int .i64 a, .int .i64 b, .int .i64 c, .int .i64 bo, .int .i64 fr, .int .i64 tr, .int .i64 ag, .slice X ks.length cp] 26)).alloc (.cells #[.int .i64 job, .int .i64 x1, .int .i64 x2, .int .i64 x3, .int .i64 x4, .int .i64 x5, .int .i64 x6, .bool t1, .bool t2, .bool t3, .int .u8 2, .int .i64 tt, .int .i64 si] 37)).alloc (.cells #[.int .i64 0, .int .i64 0, .int .i64 0, .int .i64 0, .int .i64 0, .int .i64 0, .int .i64 0, .bool false, .bool false, .bool false, .int .u8 0, .int .i64 0, .int .i64 0] 37)) := below_alloc (below_alloc (below_alloc (Below.refl _ _)))
  generalize hW0 : (((w.alloc (.cells #[.int .i64 a, .int .i64 b, .int .i64 c, .int .i64 bo, .int .i64 fr, .int .i64 tr, .int .i64 ag, .slice X ks.length cp] 26)).alloc (.cells #[.int .i64 job, .int .i64 x1, .int .i64 x2, .int .i64 x3, .int .i64 x4, .int .i64 x5, .int .i64 x6, .bool t1, .bool t2, .bool t3, .int .u8 2, .int .i64 tt, .int .i64 si] 37)).alloc (.cells #[.int .i64 0, .int .i64 0, .int .i64 0, .int .i64 0, .int .i64 0, .int .i64 0, .int .i64 0, .bool false, .bool false, .bool false, .int .u8 0, .int .i64 0, .int .i64 0] 37)) = W0 at *
  clear hW0
  have p0 : W0.cell? ⟨w.heap.size + 1, 0, none⟩ = some (.int .i64 job) := kp.cell 0
  have q0 : W0.frozen? ⟨w.heap.size + 1, 0, none⟩ = false := kp.frozen 0
  have p1 : W0.cell? ⟨w.heap.size + 1, 1, none⟩ = some (.int .i64 x1) := kp.cell 1
  have q1 : W0.frozen? ⟨w.heap.size + 1, 1, none⟩ = false := kp.frozen 1
  have p2 : W0.cell? ⟨w.heap.size + 1, 2, none⟩ = some (.int .i64 x2) := kp.cell 2
  have q2 : W0.frozen? ⟨w.heap.size + 1, 2, none⟩ = false := kp.frozen 2
  have p3 : W0.cell? ⟨w.heap.size + 1, 3, none⟩ = some (.int .i64 x3) := kp.cell 3
  have q3 : W0.frozen? ⟨w.heap.size + 1, 3, none⟩ = false := kp.frozen 3
  have p4 : W0.cell? ⟨w.heap.size + 1, 4, none⟩ = some (.int .i64 x4) := kp.cell 4
  have q4 : W0.frozen? ⟨w.heap.size + 1, 4, none⟩ = false := kp.frozen 4
  have p5 : W0.cell? ⟨w.heap.size + 1, 5, none⟩ = some (.int .i64 x5) := kp.cell 5
  have q5 : W0.frozen? ⟨w.heap.size + 1, 5, none⟩ = false := kp.frozen 5
  have p6 : W0.cell? ⟨w.heap.size + 1, 6, none⟩ = some (.int .i64 x6) := kp.cell 6
  have q6 : W0.frozen? ⟨w.heap.size + 1, 6, none⟩ = false := kp.frozen 6
  have p7 : W0.cell? ⟨w.heap.size + 1, 7, none⟩ = some (.bool t1) := kp.cell 7
  have q7 : W0.frozen? ⟨w.heap.size + 1, 7, none⟩ = false := kp.frozen 7
  have p8 : W0.cell? ⟨w.heap.size + 1, 8, none⟩ = some (.bool t2) := kp.cell 8
  have q8 : W0.frozen? ⟨w.heap.size + 1, 8, none⟩ = false := kp.frozen 8
  have p9 : W0.cell? ⟨w.heap.size + 1, 9, none⟩ = some (.bool t3) := kp.cell 9
  have q9 : W0.frozen? ⟨w.heap.size + 1, 9, none⟩ = false := kp.frozen 9
  have p10 : W0.cell? ⟨w.heap.size + 1, 10, none⟩ = some (.int .u8 2) := kp.cell 10
  have q10 : W0.frozen? ⟨w.heap.size + 1, 10, none⟩ = false := kp.frozen 10
  have p11 : W0.cell? ⟨w.heap.size + 1, 11, none⟩ = some (.int .i64 tt) := kp.cell 11
  have q11 : W0.frozen? ⟨w.heap.size + 1, 11, none⟩ = false := kp.frozen 11
  have p12 : W0.cell? ⟨w.heap.size + 1, 12, none⟩ = some (.int .i64 si) := kp.cell 12
  have q12 : W0.frozen? ⟨w.heap.size + 1, 12, none⟩ = false := kp.frozen 12
  have hz1 : w.heap.size + 1 < W0.heap.size := kp.lt
  have hz2 : w.heap.size + 1 + 1 < W0.heap.size := kr.lt
  have KR := Lib.hid kr
  have HB0 := Lib.hid hb0
  clear kd kp kr hb0
  go_wp2_with fail
  refine (freed_any job x1 x2 x3 x4 x5 x6 t1 t2 t3 2 tt si now _).mono ?_
  rintro e w1 ⟨rfl, hB1⟩
  have kr := KR.out.below hB1 hz2
  have hb1 := below_up HB0.out hB1
  have KR1 := Lib.hid kr
  have HB1 := Lib.hid hb1
  have hy2 : w.heap.size + 1 + 1 < w1.heap.size := kr.lt
  clear hB1 hb1
  have m0 : w1.cell? ⟨w.heap.size + 1 + 1, 0, none⟩ = some (.int .i64 0) := kr.cell 0
  have n0 : w1.frozen? ⟨w.heap.size + 1 + 1, 0, none⟩ = false := kr.frozen 0
  have m1 : w1.cell? ⟨w.heap.size + 1 + 1, 1, none⟩ = some (.int .i64 0) := kr.cell 1
  have n1 : w1.frozen? ⟨w.heap.size + 1 + 1, 1, none⟩ = false := kr.frozen 1
  have m2 : w1.cell? ⟨w.heap.size + 1 + 1, 2, none⟩ = some (.int .i64 0) := kr.cell 2
  have n2 : w1.frozen? ⟨w.heap.size + 1 + 1, 2, none⟩ = false := kr.frozen 2
  have m3 : w1.cell? ⟨w.heap.size + 1 + 1, 3, none⟩ = some (.int .i64 0) := kr.cell 3
  have n3 : w1.frozen? ⟨w.heap.size + 1 + 1, 3, none⟩ = false := kr.frozen 3
  have m4 : w1.cell? ⟨w.heap.size + 1 + 1, 4, none⟩ = some (.int .i64 0) := kr.cell 4
  have n4 : w1.frozen? ⟨w.heap.size + 1 + 1, 4, none⟩ = false := kr.frozen 4
  have m5 : w1.cell? ⟨w.heap.size + 1 + 1, 5, none⟩ = some (.int .i64 0) := kr.cell 5
  have n5 : w1.frozen? ⟨w.heap.size + 1 + 1, 5, none⟩ = false := kr.frozen 5
  have m6 : w1.cell? ⟨w.heap.size + 1 + 1, 6, none⟩ = some (.int .i64 0) := kr.cell 6
  have n6 : w1.frozen? ⟨w.heap.size + 1 + 1, 6, none⟩ = false := kr.frozen 6
  have m7 : w1.cell? ⟨w.heap.size + 1 + 1, 7, none⟩ = some (.bool false) := kr.cell 7
  have n7 : w1.frozen? ⟨w.heap.size + 1 + 1, 7, none⟩ = false := kr.frozen 7
  have m8 : w1.cell? ⟨w.heap.size + 1 + 1, 8, none⟩ = some (.bool false) := kr.cell 8
  have n8 : w1.frozen? ⟨w.heap.size + 1 + 1, 8, none⟩ = false := kr.frozen 8
  have m9 : w1.cell? ⟨w.heap.size + 1 + 1, 9, none⟩ = some (.bool false) := kr.cell 9
  have n9 : w1.frozen? ⟨w.heap.size + 1 + 1, 9, none⟩ = false := kr.frozen 9
  have m10 : w1.cell? ⟨w.heap.size + 1 + 1, 10, none⟩ = some (.int .u8 0) := kr.cell 10
  have n10 : w1.frozen? ⟨w.heap.size + 1 + 1, 10, none⟩ = false := kr.frozen 10
  have m11 : w1.cell? ⟨w.heap.size + 1 + 1, 11, none⟩ = some (.int .i64 0) := kr.cell 11
  have n11 : w1.frozen? ⟨w.heap.size + 1 + 1, 11, none⟩ = false := kr.frozen 11
  have m12 : w1.cell? ⟨w.heap.size + 1 + 1, 12, none⟩ = some (.int .i64 0) := kr.cell 12
  have n12 : w1.frozen? ⟨w.heap.size + 1 + 1, 12, none⟩ = false := kr.frozen 12
  clear kr
  go_wp2_with fail
  have hs13 := store13 (w := w) (g := w.heap.size + 1 + 1) HB1.out (by omega) KR1.out (.int .i64 job) (.int .i64 x1) (.int .i64 x2) (.int .i64 x3) (.int .i64 x4) (.int .i64 x5) (.int .i64 x6) (.bool t1) (.bool t2) (.bool t3) (.int .u8 3) (.int .i64 tt) (.int .i64 now)
  refine bodyPost_ret (v := .tuple #[.agg #[.int .i64 job, .int .i64 x1, .int .i64 x2, .int .i64 x3, .int .i64 x4, .int .i64 x5, .int .i64 x6, .bool t1, .bool t2, .bool t3, .int .u8 3, .int .i64 tt, .int .i64 now], .int .u8 6, .bool false, .bool true]) ?_ rfl ?_
  · exact res_turned _ _ (w.heap.size + 1 + 1) (.int .i64 job) (.int .i64 x1) (.int .i64 x2) (.int .i64 x3) (.int .i64 x4) (.int .i64 x5) (.int .i64 x6) (.bool t1) (.bool t2) (.bool t3) (.int .u8 3) (.int .i64 tt) (.int .i64 now) (.int .u8 6) (.bool false) (.bool true) rfl rfl rfl rfl hs13.2
  · exact ⟨rfl, hs13.1⟩
set_option maxRecDepth 100000 in
set_option maxHeartbeats 8000000 in
theorem tu_21 (a b c bo fr tr ag : Int) (X : Option Addr) (cp : Nat) (ks : List Cls) (job x1 x2 x3 x4 x5 x6 : Int) (t1 t2 t3 : Bool) (tt si : Int) (now : Int)  (w : World) :
    Calls Try.prog 33 #[.agg #[.int .i64 a, .int .i64 b, .int .i64 c, .int .i64 bo, .int .i64 fr, .int .i64 tr, .int .i64 ag, .slice X ks.length cp], .agg #[.int .i64 job, .int .i64 x1, .int .i64 x2, .int .i64 x3, .int .i64 x4, .int .i64 x5, .int .i64 x6, .bool t1, .bool t2, .bool t3, .int .u8 2, .int .i64 tt, .int .i64 si], .int .u8 1, .int .i64 now] w (fun e w' => e = .returned (.tuple #[.agg #[.int .i64 job, .int .i64 x1, .int .i64 x2, .int .i64 x3, .int .i64 x4, .int .i64 x5, .int .i64 x6, .bool t1, .bool t2, .bool t3, .int .u8 2, .int .i64 tt, .int .i64 now], .int .u8 0, .bool false, .bool false]) ∧ Below w.heap.size w w') := by
  go_enter Try.func33, Try.ntmps33
  go_upto_region 1 with fail
  have kd : Blk (((w.alloc (.cells #[.int .i64 a, .int .i64 b, .int .i64 c, .int .i64 bo, .int .i64 fr, .int .i64 tr, .int .i64 ag, .slice X ks.length cp] 26)).alloc (.cells #[.int .i64 job, .int .i64 x1, .int .i64 x2, .int .i64 x3, .int .i64 x4, .int .i64 x5, .int .i64 x6, .bool t1, .bool t2, .bool t3, .int .u8 2, .int .i64 tt, .int .i64 si] 37)).alloc (.cells #[.int .i64 0, .int .i64 0, .int .i64 0, .int .i64 0, .int .i64 0, .int .i64 0, .int .i64 0, .bool false, .bool false, .bool false, .int .u8 0, .int .i64 0, .int .i64 0] 37)) (w.heap.size) 26 #[.int .i64 a, .int .i64 b, .int .i64 c, .int .i64 bo, .int .i64 fr, .int .i64 tr, .int .i64 ag, .slice X ks.length cp] := ((Blk.new w _ _).alloc _).alloc _
  have kp : Blk (((w.alloc (.cells #[.int .i64 a, .int .i64 b, .int .i64 c, .int .i64 bo, .int .i64 fr, .int .i64 tr, .int .i64 ag, .slice X ks.length cp] 26)).alloc (.cells #[.int .i64 job, .int .i64 x1, .int .i64 x2, .int .i64 x3, .int .i64 x4, .int .i64 x5, .int .i64 x6, .bool t1, .bool t2, .bool t3, .int .u8 2, .int .i64 tt, .int .i64 si] 37)).alloc (.cells #[.int .i64 0, .int .i64 0, .int .i64 0, .int .i64 0, .int .i64 0, .int .i64 0, .int .i64 0, .bool false, .bool false, .bool false, .int .u8 0, .int .i64 0, .int .i64 0] 37)) (w.heap.size + 1) 37 #[.int .i64 job, .int .i64 x1, .int .i64 x2, .int .i64 x3, .int .i64 x4, .int .i64 x5, .int .i64 x6, .bool t1, .bool t2, .bool t3, .int .u8 2, .int .i64 tt, .int .i64 si] := (blk1 w _ _).alloc _
  have kr : Blk (((w.alloc (.cells #[.int .i64 a, .int .i64 b, .int .i64 c, .int .i64 bo, .int .i64 fr, .int .i64 tr, .int .i64 ag, .slice X ks.length cp] 26)).alloc (.cells #[.int .i64 job, .int .i64 x1, .int .i64 x2, .int .i64 x3, .int .i64 x4, .int .i64 x5, .int .i64 x6, .bool t1, .bool t2, .bool t3, .int .u8 2, .int .i64 tt, .int .i64 si] 37)).alloc (.cells #[.int .i64 0, .int .i64 0, .int .i64 0, .int .i64 0, .int .i64 0, .int .i64 0, .int .i64 0, .bool false, .bool false, .bool false, .int .u8 0, .int .i64 0, .int .i64 0] 37)) (w.heap.size + 1 + 1) 37 #[.int .i64 0, .int .i64 0, .int .i64 0, .int .i64 0, .int .i64 0, .int .i64 0, .int .i64 0, .bool false, .bool false, .bool false, .int .u8 0, .int .i64 0, .int .i64 0] := blk2 w _ _
  have hb0 : Below w.heap.size w (((w.alloc (.cells #[.int .i64 a, .int .i64 b, .int .i64 c, .int .i64 bo, .int .i64 fr, .int .i64 tr, .int .i64 ag, .slice X ks.length cp] 26)).alloc (.cells #[.int .i64 job, .int .i64 x1, .int .i64 x2, .int .i64 x3, .int .i64 x4, .int .i64 x5, .int .i64 x6, .bool t1, .bool t2, .bool t3, .int .u8 2, .int .i64 tt, .int .i64 si] 37)).alloc (.cells #[.int .i64 0, .int .i64 0, .int .i64 0, .int .i64 0, .int .i64 0, .int .i64 0, .int .i64 0, .bool false, .bool false, .bool false, .int .u8 0, .int .i64 0, .int .i64 0] 37)) := below_alloc (below_alloc (below_alloc (Below.refl _ _)))
  generalize hW0 : (((w.alloc (.cells #[.int .i64 a, .int .i64 b, .int .i64 c, .int .i64 bo, .int .i64 fr, .int .i64 tr, .int .i64 ag, .slice X ks.length cp] 26)).alloc (.cells #[.int .i64 job, .int .i64 x1, .int .i64 x2, .int .i64 x3, .int .i64 x4, .int .i64 x5, .int .i64 x6, .bool t1, .bool t2, .bool t3, .int .u8 2, .int .i64 tt, .int .i64 si] 37)).alloc (.cells #[.int .i64 0, .int .i64 0, .int .i64 0, .int .i64 0, .int .i64 0, .int .i64 0, .int .i64 0, .bool false, .bool false, .bool false, .int .u8 0, .int .i64 0, .int .i64 0] 37)) = W0 at *
  clear hW0
  have p0 : W0.cell? ⟨w.heap.size + 1, 0, none⟩ = some (.int .i64 job) := kp.cell 0
  have q0 : W0.frozen? ⟨w.heap.size + 1, 0, none⟩ = false := kp.frozen 0
  have p1 : W0.cell? ⟨w.heap.size + 1, 1, none⟩ = some (.int .i64 x1) := kp.cell 1
  have q1 : W0.frozen? ⟨w.heap.size + 1, 1, none⟩ = false := kp.frozen 1
  have p2 : W0.cell? ⟨w.heap.size + 1, 2, none⟩ = some (.int .i64 x2) := kp.cell 2
  have q2 : W0.frozen? ⟨w.heap.size + 1, 2, none⟩ = false := kp.frozen 2
  have p3 : W0.cell? ⟨w.heap.size + 1, 3, none⟩ = some (.int .i64 x3) := kp.cell 3
  have q3 : W0.frozen? ⟨w.heap.size + 1, 3, none⟩ = false := kp.frozen 3
  have p4 : W0.cell? ⟨w.heap.size + 1, 4, none⟩ = some (.int .i64 x4) := kp.cell 4
  have q4 : W0.frozen? ⟨w.heap.size + 1, 4, none⟩ = false := kp.frozen 4
  have p5 : W0.cell? ⟨w.heap.size + 1, 5, none⟩ = some (.int .i64 x5) := kp.cell 5
  have q5 : W0.frozen? ⟨w.heap.size + 1, 5, none⟩ = false := kp.frozen 5
  have p6 : W0.cell? ⟨w.heap.size + 1, 6, none⟩ = some (.int .i64 x6) := kp.cell 6
  have q6 : W0.frozen? ⟨w.heap.size + 1, 6, none⟩ = false := kp.frozen 6
  have p7 : W0.cell? ⟨w.heap.size + 1, 7, none⟩ = some (.bool t1) := kp.cell 7
  have q7 : W0.frozen? ⟨w.heap.size + 1, 7, none⟩ = false := kp.frozen 7
  have p8 : W0.cell? ⟨w.heap.size + 1, 8, none⟩ = some (.bool t2) := kp.cell 8
  have q8 : W0.frozen? ⟨w.heap.size + 1, 8, none⟩ = false := kp.frozen 8
  have p9 : W0.cell? ⟨w.heap.size + 1, 9, none⟩ = some (.bool t3) := kp.cell 9
  have q9 : W0.frozen? ⟨w.heap.size + 1, 9, none⟩ = false := kp.frozen 9
  have p10 : W0.cell? ⟨w.heap.size + 1, 10, none⟩ = some (.int .u8 2) := kp.cell 10
  have q10 : W0.frozen? ⟨w.heap.size + 1, 10, none⟩ = false := kp.frozen 10
  have p11 : W0.cell? ⟨w.heap.size + 1, 11, none⟩ = some (.int .i64 tt) := kp.cell 11
  have q11 : W0.frozen? ⟨w.heap.size + 1, 11, none⟩ = false := kp.frozen 11
  have p12 : W0.cell? ⟨w.heap.size + 1, 12, none⟩ = some (.int .i64 si) := kp.cell 12
  have q12 : W0.frozen? ⟨w.heap.size + 1, 12, none⟩ = false := kp.frozen 12
  have m0 : W0.cell? ⟨w.heap.size + 1 + 1, 0, none⟩ = some (.int .i64 0) := kr.cell 0
  have n0 : W0.frozen? ⟨w.heap.size + 1 + 1, 0, none⟩ = false := kr.frozen 0
  have m1 : W0.cell? ⟨w.heap.size + 1 + 1, 1, none⟩ = some (.int .i64 0) := kr.cell 1
  have n1 : W0.frozen? ⟨w.heap.size + 1 + 1, 1, none⟩ = false := kr.frozen 1
  have m2 : W0.cell? ⟨w.heap.size + 1 + 1, 2, none⟩ = some (.int .i64 0) := kr.cell 2
  have n2 : W0.frozen? ⟨w.heap.size + 1 + 1, 2, none⟩ = false := kr.frozen 2
  have m3 : W0.cell? ⟨w.heap.size + 1 + 1, 3, none⟩ = some (.int .i64 0) := kr.cell 3
  have n3 : W0.frozen? ⟨w.heap.size + 1 + 1, 3, none⟩ = false := kr.frozen 3
  have m4 : W0.cell? ⟨w.heap.size + 1 + 1, 4, none⟩ = some (.int .i64 0) := kr.cell 4
  have n4 : W0.frozen? ⟨w.heap.size + 1 + 1, 4, none⟩ = false := kr.frozen 4
  have m5 : W0.cell? ⟨w.heap.size + 1 + 1, 5, none⟩ = some (.int .i64 0) := kr.cell 5
  have n5 : W0.frozen? ⟨w.heap.size + 1 + 1, 5, none⟩ = false := kr.frozen 5
  have m6 : W0.cell? ⟨w.heap.size + 1 + 1, 6, none⟩ = some (.int .i64 0) := kr.cell 6
  have n6 : W0.frozen? ⟨w.heap.size + 1 + 1, 6, none⟩ = false := kr.frozen 6
  have m7 : W0.cell? ⟨w.heap.size + 1 + 1, 7, none⟩ = some (.bool false) := kr.cell 7
  have n7 : W0.frozen? ⟨w.heap.size + 1 + 1, 7, none⟩ = false := kr.frozen 7
  have m8 : W0.cell? ⟨w.heap.size + 1 + 1, 8, none⟩ = some (.bool false) := kr.cell 8
  have n8 : W0.frozen? ⟨w.heap.size + 1 + 1, 8, none⟩ = false := kr.frozen 8
  have m9 : W0.cell? ⟨w.heap.size + 1 + 1, 9, none⟩ = some (.bool false) := kr.cell 9
  have n9 : W0.frozen? ⟨w.heap.size + 1 + 1, 9, none⟩ = false := kr.frozen 9
  have m10 : W0.cell? ⟨w.heap.size + 1 + 1, 10, none⟩ = some (.int .u8 0) := kr.cell 10
  have n10 : W0.frozen? ⟨w.heap.size + 1 + 1, 10, none⟩ = false := kr.frozen 10
  have m11 : W0.cell? ⟨w.heap.size + 1 + 1, 11, none⟩ = some (.int .i64 0) := kr.cell 11
  have n11 : W0.frozen? ⟨w.heap.size + 1 + 1, 11, none⟩ = false := kr.frozen 11
  have m12 : W0.cell? ⟨w.heap.size + 1 + 1, 12, none⟩ = some (.int .i64 0) := kr.cell 12
  have n12 : W0.frozen? ⟨w.heap.size + 1 + 1, 12, none⟩ = false := kr.frozen 12
  have hz1 : w.heap.size + 1 < W0.heap.size := kp.lt
  have hz2 : w.heap.size + 1 + 1 < W0.heap.size := kr.lt
  have KR := Lib.hid kr
  have HB0 := Lib.hid hb0
  clear kd kp kr hb0
  go_wp2_with fail
  have hs13 := store13 (w := w) (g := w.heap.size + 1 + 1) ((HB0.out.setCell (p := ⟨w.heap.size + 1, 10, none⟩) (by simp) _).setCell (p := ⟨w.heap.size + 1, 12, none⟩) (by simp) _) (by omega) ((KR.out.far (p := ⟨w.heap.size + 1, 10, none⟩) (by simp) (.int .u8 2)).far (p := ⟨w.heap.size + 1, 12, none⟩) (by simp) (.int .i64 now)) (.int .i64 job) (.int .i64 x1) (.int .i64 x2) (.int .i64 x3) (.int .i64 x4) (.int .i64 x5) (.int .i64 x6) (.bool t1) (.bool t2) (.bool t3) (.int .u8 2) (.int .i64 tt) (.int .i64 now)
  refine bodyPost_ret (v := .tuple #[.agg #[.int .i64 job, .int .i64 x1, .int .i64 x2, .int .i64 x3, .int .i64 x4, .int .i64 x5, .int .i64 x6, .bool t1, .bool t2, .bool t3, .int .u8 2, .int .i64 tt, .int .i64 now], .int .u8 0, .bool false, .bool false]) ?_ rfl ?_
  · exact res_turned _ _ (w.heap.size + 1 + 1) (.int .i64 job) (.int .i64 x1) (.int .i64 x2) (.int .i64 x3) (.int .i64 x4) (.int .i64 x5) (.int .i64 x6) (.bool t1) (.bool t2) (.bool t3) (.int .u8 2) (.int .i64 tt) (.int .i64 now) (.int .u8 0) (.bool false) (.bool false) rfl rfl rfl rfl hs13.2
  · exact ⟨rfl, hs13.1⟩
set_option maxRecDepth 100000 in
set_option maxHeartbeats 8000000 in
theorem tu_22e (a b c bo fr ag : Int) (X : Option Addr) (cp : Nat) (ks : List Cls) (job x1 x2 x3 x4 x5 x6 : Int) (t1 t2 t3 : Bool) (tt si : Int) (now : Int)  (w : World) :
    Calls Try.prog 33 #[.agg #[.int .i64 a, .int .i64 b, .int .i64 c, .int .i64 bo, .int .i64 fr, .int .i64 tt, .int .i64 ag, .slice X ks.length cp], .agg #[.int .i64 job, .int .i64 x1, .int .i64 x2, .int .i64 x3, .int .i64 x4, .int .i64 x5, .int .i64 x6, .bool t1, .bool t2, .bool t3, .int .u8 2, .int .i64 tt, .int .i64 si], .int .u8 2, .int .i64 now] w (fun e w' => e = .returned (.tuple #[.agg #[.int .i64 job, .int .i64 x1, .int .i64 x2, .int .i64 x3, .int .i64 x4, .int .i64 x5, .int .i64 x6, .bool t1, .bool t2, .bool t3, .int .u8 3, .int .i64 tt, .int .i64 now], .int .u8 6, .bool false, .bool false]) ∧ Below w.heap.size w w') := by
  go_enter Try.func33, Try.ntmps33
  go_upto_region 1 with fail
  have kd : Blk (((w.alloc (.cells #[.int .i64 a, .int .i64 b, .int .i64 c, .int .i64 bo, .int .i64 fr, .int .i64 tt, .int .i64 ag, .slice X ks.length cp] 26)).alloc (.cells #[.int .i64 job, .int .i64 x1, .int .i64 x2, .int .i64 x3, .int .i64 x4, .int .i64 x5, .int .i64 x6, .bool t1, .bool t2, .bool t3, .int .u8 2, .int .i64 tt, .int .i64 si] 37)).alloc (.cells #[.int .i64 0, .int .i64 0, .int .i64 0, .int .i64 0, .int .i64 0, .int .i64 0, .int .i64 0, .bool false, .bool false, .bool false, .int .u8 0, .int .i64 0, .int .i64 0] 37)) (w.heap.size) 26 #[.int .i64 a, .int .i64 b, .int .i64 c, .int .i64 bo, .int .i64 fr, .int .i64 tt, .int .i64 ag, .slice X ks.length cp] := ((Blk.new w _ _).alloc _).alloc _
  have kp : Blk (((w.alloc (.cells #[.int .i64 a, .int .i64 b, .int .i64 c, .int .i64 bo, .int .i64 fr, .int .i64 tt, .int .i64 ag, .slice X ks.length cp] 26)).alloc (.cells #[.int .i64 job, .int .i64 x1, .int .i64 x2, .int .i64 x3, .int .i64 x4, .int .i64 x5, .int .i64 x6, .bool t1, .bool t2, .bool t3, .int .u8 2, .int .i64 tt, .int .i64 si] 37)).alloc (.cells #[.int .i64 0, .int .i64 0, .int .i64 0, .int .i64 0, .int .i64 0, .int .i64 0, .int .i64 0, .bool false, .bool false, .bool false, .int .u8 0, .int .i64 0, .int .i64 0] 37)) (w.heap.size + 1) 37 #[.int .i64 job, .int .i64 x1, .int .i64 x2, .int .i64 x3, .int .i64 x4, .int .i64 x5, .int .i64 x6, .bool t1, .bool t2, .bool t3, .int .u8 2, .int .i64 tt, .int .i64 si] := (blk1 w _ _).alloc _
  have kr : Blk (((w.alloc (.cells #[.int .i64 a, .int .i64 b, .int .i64 c, .int .i64 bo, .int .i64 fr, .int .i64 tt, .int .i64 ag, .slice X ks.length cp] 26)).alloc (.cells #[.int .i64 job, .int .i64 x1, .int .i64 x2, .int .i64 x3, .int .i64 x4, .int .i64 x5, .int .i64 x6, .bool t1, .bool t2, .bool t3, .int .u8 2, .int .i64 tt, .int .i64 si] 37)).alloc (.cells #[.int .i64 0, .int .i64 0, .int .i64 0, .int .i64 0, .int .i64 0, .int .i64 0, .int .i64 0, .bool false, .bool false, .bool false, .int .u8 0, .int .i64 0, .int .i64 0] 37)) (w.heap.size + 1 + 1) 37 #[.int .i64 0, .int .i64 0, .int .i64 0, .int .i64 0, .int .i64 0, .int .i64 0, .int .i64 0, .bool false, .bool false, .bool false, .int .u8 0, .int .i64 0, .int .i64 0] := blk2 w _ _
  have hb0 : Below w.heap.size w (((w.alloc (.cells #[.int .i64 a, .int .i64 b, .int .i64 c, .int .i64 bo, .int .i64 fr, .int .i64 tt, .int .i64 ag, .slice X ks.length cp] 26)).alloc (.cells #[.int .i64 job, .int .i64 x1, .int .i64 x2, .int .i64 x3, .int .i64 x4, .int .i64 x5, .int .i64 x6, .bool t1, .bool t2, .bool t3, .int .u8 2, .int .i64 tt, .int .i64 si] 37)).alloc (.cells #[.int .i64 0, .int .i64 0, .int .i64 0, .int .i64 0, .int .i64 0, .int .i64 0, .int .i64 0, .bool false, .bool false, .bool false, .int .u8 0, .int .i64 0, .int .i64 0] 37)) := below_alloc (below_alloc (below_alloc (Below.refl _ _)))
  generalize hW0 : (((w.alloc (.cells #[.int .i64 a, .int .i64 b, .int .i64 c, .int .i64 bo, .int .i64 fr, .int .i64 tt, .int .i64 ag, .slice X ks.length cp] 26)).alloc (.cells #[.int .i64 job, .int .i64 x1, .int .i64 x2, .int .i64 x3, .int .i64 x4, .int .i64 x5, .int .i64 x6, .bool t1, .bool t2, .bool t3, .int .u8 2, .int .i64 tt, .int .i64 si] 37)).alloc (.cells #[.int .i64 0, .int .i64 0, .int .i64 0, .int .i64 0, .int .i64 0, .int .i64 0, .int .i64 0, .bool false, .bool false, .bool false, .int .u8 0, .int .i64 0, .int .i64 0] 37)) = W0 at *
  clear hW0
  have p0 : W0.cell? ⟨w.heap.size + 1, 0, none⟩ = some (.int .i64 job) := kp.cell 0
  have q0 : W0.frozen? ⟨w.heap.size + 1, 0, none⟩ = false := kp.frozen 0
  have p1 : W0.cell? ⟨w.heap.size + 1, 1, none⟩ = some (.int .i64 x1) := kp.cell 1
  have q1 : W0.frozen? ⟨w.heap.size + 1, 1, none⟩ = false := kp.frozen 1
  have p2 : W0.cell? ⟨w.heap.size + 1, 2, none⟩ = some (.int .i64 x2) := kp.cell 2
  have q2 : W0.frozen? ⟨w.heap.size + 1, 2, none⟩ = false := kp.frozen 2
  have p3 : W0.cell? ⟨w.heap.size + 1, 3, none⟩ = some (.int .i64 x3) := kp.cell 3
  have q3 : W0.frozen? ⟨w.heap.size + 1, 3, none⟩ = false := kp.frozen 3
  have p4 : W0.cell? ⟨w.heap.size + 1, 4, none⟩ = some (.int .i64 x4) := kp.cell 4
  have q4 : W0.frozen? ⟨w.heap.size + 1, 4, none⟩ = false := kp.frozen 4
  have p5 : W0.cell? ⟨w.heap.size + 1, 5, none⟩ = some (.int .i64 x5) := kp.cell 5
  have q5 : W0.frozen? ⟨w.heap.size + 1, 5, none⟩ = false := kp.frozen 5
  have p6 : W0.cell? ⟨w.heap.size + 1, 6, none⟩ = some (.int .i64 x6) := kp.cell 6
  have q6 : W0.frozen? ⟨w.heap.size + 1, 6, none⟩ = false := kp.frozen 6
  have p7 : W0.cell? ⟨w.heap.size + 1, 7, none⟩ = some (.bool t1) := kp.cell 7
  have q7 : W0.frozen? ⟨w.heap.size + 1, 7, none⟩ = false := kp.frozen 7
  have p8 : W0.cell? ⟨w.heap.size + 1, 8, none⟩ = some (.bool t2) := kp.cell 8
  have q8 : W0.frozen? ⟨w.heap.size + 1, 8, none⟩ = false := kp.frozen 8
  have p9 : W0.cell? ⟨w.heap.size + 1, 9, none⟩ = some (.bool t3) := kp.cell 9
  have q9 : W0.frozen? ⟨w.heap.size + 1, 9, none⟩ = false := kp.frozen 9
  have p10 : W0.cell? ⟨w.heap.size + 1, 10, none⟩ = some (.int .u8 2) := kp.cell 10
  have q10 : W0.frozen? ⟨w.heap.size + 1, 10, none⟩ = false := kp.frozen 10
  have p11 : W0.cell? ⟨w.heap.size + 1, 11, none⟩ = some (.int .i64 tt) := kp.cell 11
  have q11 : W0.frozen? ⟨w.heap.size + 1, 11, none⟩ = false := kp.frozen 11
  have p12 : W0.cell? ⟨w.heap.size + 1, 12, none⟩ = some (.int .i64 si) := kp.cell 12
  have q12 : W0.frozen? ⟨w.heap.size + 1, 12, none⟩ = false := kp.frozen 12
  have d5 : W0.cell? ⟨w.heap.size, 5, none⟩ = some (.int .i64 tt) := kd.cell 5
  have hz1 : w.heap.size + 1 < W0.heap.size := kp.lt
  have hz2 : w.heap.size + 1 + 1 < W0.heap.size := kr.lt
  have KR := Lib.hid kr
  have HB0 := Lib.hid hb0
  clear kd kp kr hb0
  go_wp2_with fail
  refine (freed_any job x1 x2 x3 x4 x5 x6 t1 t2 t3 2 tt si now _).mono ?_
  rintro e w1 ⟨rfl, hB1⟩
  have kr := KR.out.below hB1 hz2
  have hb1 := below_up HB0.out hB1
  have KR1 := Lib.hid kr
  have HB1 := Lib.hid hb1
  have hy2 : w.heap.size + 1 + 1 < w1.heap.size := kr.lt
  clear hB1 hb1
  have m0 : w1.cell? ⟨w.heap.size + 1 + 1, 0, none⟩ = some (.int .i64 0) := kr.cell 0
  have n0 : w1.frozen? ⟨w.heap.size + 1 + 1, 0, none⟩ = false := kr.frozen 0
  have m1 : w1.cell? ⟨w.heap.size + 1 + 1, 1, none⟩ = some (.int .i64 0) := kr.cell 1
  have n1 : w1.frozen? ⟨w.heap.size + 1 + 1, 1, none⟩ = false := kr.frozen 1
  have m2 : w1.cell? ⟨w.heap.size + 1 + 1, 2, none⟩ = some (.int .i64 0) := kr.cell 2
  have n2 : w1.frozen? ⟨w.heap.size + 1 + 1, 2, none⟩ = false := kr.frozen 2
  have m3 : w1.cell? ⟨w.heap.size + 1 + 1, 3, none⟩ = some (.int .i64 0) := kr.cell 3
  have n3 : w1.frozen? ⟨w.heap.size + 1 + 1, 3, none⟩ = false := kr.frozen 3
  have m4 : w1.cell? ⟨w.heap.size + 1 + 1, 4, none⟩ = some (.int .i64 0) := kr.cell 4
  have n4 : w1.frozen? ⟨w.heap.size + 1 + 1, 4, none⟩ = false := kr.frozen 4
  have m5 : w1.cell? ⟨w.heap.size + 1 + 1, 5, none⟩ = some (.int .i64 0) := kr.cell 5
  have n5 : w1.frozen? ⟨w.heap.size + 1 + 1, 5, none⟩ = false := kr.frozen 5
  have m6 : w1.cell? ⟨w.heap.size + 1 + 1, 6, none⟩ = some (.int .i64 0) := kr.cell 6
  have n6 : w1.frozen? ⟨w.heap.size + 1 + 1, 6, none⟩ = false := kr.frozen 6
  have m7 : w1.cell? ⟨w.heap.size + 1 + 1, 7, none⟩ = some (.bool false) := kr.cell 7
  have n7 : w1.frozen? ⟨w.heap.size + 1 + 1, 7, none⟩ = false := kr.frozen 7
  have m8 : w1.cell? ⟨w.heap.size + 1 + 1, 8, none⟩ = some (.bool false) := kr.cell 8
  have n8 : w1.frozen? ⟨w.heap.size + 1 + 1, 8, none⟩ = false := kr.frozen 8
  have m9 : w1.cell? ⟨w.heap.size + 1 + 1, 9, none⟩ = some (.bool false) := kr.cell 9
  have n9 : w1.frozen? ⟨w.heap.size + 1 + 1, 9, none⟩ = false := kr.frozen 9
  have m10 : w1.cell? ⟨w.heap.size + 1 + 1, 10, none⟩ = some (.int .u8 0) := kr.cell 10
  have n10 : w1.frozen? ⟨w.heap.size + 1 + 1, 10, none⟩ = false := kr.frozen 10
  have m11 : w1.cell? ⟨w.heap.size + 1 + 1, 11, none⟩ = some (.int .i64 0) := kr.cell 11
  have n11 : w1.frozen? ⟨w.heap.size + 1 + 1, 11, none⟩ = false := kr.frozen 11
  have m12 : w1.cell? ⟨w.heap.size + 1 + 1, 12, none⟩ = some (.int .i64 0) := kr.cell 12
  have n12 : w1.frozen? ⟨w.heap.size + 1 + 1, 12, none⟩ = false := kr.frozen 12
  clear kr
  go_wp2_with fail
  have hs13 := store13 (w := w) (g := w.heap.size + 1 + 1) HB1.out (by omega) KR1.out (.int .i64 job) (.int .i64 x1) (.int .i64 x2) (.int .i64 x3) (.int .i64 x4) (.int .i64 x5) (.int .i64 x6) (.bool t1) (.bool t2) (.bool t3) (.int .u8 3) (.int .i64 tt) (.int .i64 now)
  refine bodyPost_ret (v := .tuple #[.agg #[.int .i64 job, .int .i64 x1, .int .i64 x2, .int .i64 x3, .int .i64 x4, .int .i64 x5, .int .i64 x6, .bool t1, .bool t2, .bool t3, .int .u8 3, .int .i64 tt, .int .i64 now], .int .u8 6, .bool false, .bool false]) ?_ rfl ?_
  · exact res_turned _ _ (w.heap.size + 1 + 1) (.int .i64 job) (.int .i64 x1) (.int .i64 x2) (.int .i64 x3) (.int .i64 x4) (.int .i64 x5) (.int .i64 x6) (.bool t1) (.bool t2) (.bool t3) (.int .u8 3) (.int .i64 tt) (.int .i64 now) (.int .u8 6) (.bool false) (.bool false) rfl rfl rfl rfl hs13.2
  · exact ⟨rfl, hs13.1⟩
set_option maxRecDepth 100000 in
set_option maxHeartbeats 8000000 in
theorem tu_22n (a b c bo fr tr ag : Int) (X : Option Addr) (cp : Nat) (ks : List Cls) (job x1 x2 x3 x4 x5 x6 : Int) (t1 t2 t3 : Bool) (tt si : Int) (now : Int) (hn : tt ≠ tr) (h0 : 0 ≤ tt) (h5 : tt ≤ 5) (w : World) :
    Calls Try.prog 33 #[.agg #[.int .i64 a, .int .i64 b, .int .i64 c, .int .i64 bo, .int .i64 fr, .int .i64 tr, .int .i64 ag, .slice X ks.length cp], .agg #[.int .i64 job, .int .i64 x1, .int .i64 x2, .int .i64 x3, .int .i64 x4, .int .i64 x5, .int .i64 x6, .bool t1, .bool t2, .bool t3, .int .u8 2, .int .i64 tt, .int .i64 si], .int .u8 2, .int .i64 now] w (fun e w' => e = .returned (.tuple #[.agg #[.int .i64 job, .int .i64 x1, .int .i64 x2, .int .i64 x3, .int .i64 x4, .int .i64 x5, .int .i64 x6, .bool t1, .bool t2, .bool t3, .int .u8 2, .int .i64 (tt + 1), .int .i64 now], .int .u8 0, .bool false, .bool false]) ∧ Below w.heap.size w w') := by
  go_enter Try.func33, Try.ntmps33
  go_upto_region 1 with fail
  have kd : Blk (((w.alloc (.cells #[.int .i64 a, .int .i64 b, .int .i64 c, .int .i64 bo, .int .i64 fr, .int .i64 tr, .int .i64 ag, .slice X ks.length cp] 26)).alloc (.cells #[.int .i64 job, .int .i64 x1, .int .i64 x2, .int .i64 x3, .int .i64 x4, .int .i64 x5, .int .i64 x6, .bool t1, .bool t2, .bool t3, .int .u8 2, .int .i64 tt, .int .i64 si] 37)).alloc (.cells #[.int .i64 0, .int .i64 0, .int .i64 0, .int .i64 0, .int .i64 0, .int .i64 0, .int .i64 0, .bool false, .bool false, .bool false, .int .u8 0, .int .i64 0, .int .i64 0] 37)) (w.heap.size) 26 #[.int .i64 a, .int .i64 b, .int .i64 c, .int .i64 bo, .int .i64 fr, .int .i64 tr, .int .i64 ag, .slice X ks.length cp] := ((Blk.new w _ _).alloc _).alloc _
  have kp : Blk (((w.alloc (.cells #[.int .i64 a, .int .i64 b, .int .i64 c, .int .i64 bo, .int .i64 fr, .int .i64 tr, .int .i64 ag, .slice X ks.length cp] 26)).alloc (.cells #[.int .i64 job, .int .i64 x1, .int .i64 x2, .int .i64 x3, .int .i64 x4, .int .i64 x5, .int .i64 x6, .bool t1, .bool t2, .bool t3, .int .u8 2, .int .i64 tt, .int .i64 si] 37)).alloc (.cells #[.int .i64 0, .int .i64 0, .int .i64 0, .int .i64 0, .int .i64 0, .int .i64 0, .int .i64 0, .bool false, .bool false, .bool false, .int .u8 0, .int .i64 0, .int .i64 0] 37)) (w.heap.size + 1) 37 #[.int .i64 job, .int .i64 x1, .int .i64 x2, .int .i64 x3, .int .i64 x4, .int .i64 x5, .int .i64 x6, .bool t1, .bool t2, .bool t3, .int .u8 2, .int .i64 tt, .int .i64 si] := (blk1 w _ _).alloc _
  have kr : Blk (((w.alloc (.cells #[.int .i64 a, .int .i64 b, .int .i64 c, .int .i64 bo, .int .i64 fr, .int .i64 tr, .int .i64 ag, .slice X ks.length cp] 26)).alloc (.cells #[.int .i64 job, .int .i64 x1, .int .i64 x2, .int .i64 x3, .int .i64 x4, .int .i64 x5, .int .i64 x6, .bool t1, .bool t2, .bool t3, .int .u8 2, .int .i64 tt, .int .i64 si] 37)).alloc (.cells #[.int .i64 0, .int .i64 0, .int .i64 0, .int .i64 0, .int .i64 0, .int .i64 0, .int .i64 0, .bool false, .bool false, .bool false, .int .u8 0, .int .i64 0, .int .i64 0] 37)) (w.heap.size + 1 + 1) 37 #[.int .i64 0, .int .i64 0, .int .i64 0, .int .i64 0, .int .i64 0, .int .i64 0, .int .i64 0, .bool false, .bool false, .bool false, .int .u8 0, .int .i64 0, .int .i64 0] := blk2 w _ _
  have hb0 : Below w.heap.size w (((w.alloc (.cells #[.int .i64 a, .int .i64 b, .int .i64 c, .int .i64 bo, .int .i64 fr, .int .i64 tr, .int .i64 ag, .slice X ks.length cp] 26)).alloc (.cells #[.int .i64 job, .int .i64 x1, .int .i64 x2, .int .i64 x3, .int .i64 x4, .int .i64 x5, .int .i64 x6, .bool t1, .bool t2, .bool t3, .int .u8 2, .int .i64 tt, .int .i64 si] 37)).alloc (.cells #[.int .i64 0, .int .i64 0, .int .i64 0, .int .i64 0, .int .i64 0, .int .i64 0, .int .i64 0, .bool false, .bool false, .bool false, .int .u8 0, .int .i64 0, .int .i64 0] 37)) := below_alloc (below_alloc (below_alloc (Below.refl _ _)))
  generalize hW0 : (((w.alloc (.cells #[.int .i64 a, .int .i64 b, .int .i64 c, .int .i64 bo, .int .i64 fr, .int .i64 tr, .int .i64 ag, .slice X ks.length cp] 26)).alloc (.cells #[.int .i64 job, .int .i64 x1, .int .i64 x2, .int .i64 x3, .int .i64 x4, .int .i64 x5, .int .i64 x6, .bool t1, .bool t2, .bool t3, .int .u8 2, .int .i64 tt, .int .i64 si] 37)).alloc (.cells #[.int .i64 0, .int .i64 0, .int .i64 0, .int .i64 0, .int .i64 0, .int .i64 0, .int .i64 0, .bool false, .bool false, .bool false, .int .u8 0, .int .i64 0, .int .i64 0] 37)) = W0 at *
  clear hW0
  have p0 : W0.cell? ⟨w.heap.size + 1, 0, none⟩ = some (.int .i64 job) := kp.cell 0
  have q0 : W0.frozen? ⟨w.heap.size + 1, 0, none⟩ = false := kp.frozen 0
  have p1 : W0.cell? ⟨w.heap.size + 1, 1, none⟩ = some (.int .i64 x1) := kp.cell 1
  have q1 : W0.frozen? ⟨w.heap.size + 1, 1, none⟩ = false := kp.frozen 1
  have p2 : W0.cell? ⟨w.heap.size + 1, 2, none⟩ = some (.int .i64 x2) := kp.cell 2
  have q2 : W0.frozen? ⟨w.heap.size + 1, 2, none⟩ = false := kp.frozen 2
  have p3 : W0.cell? ⟨w.heap.size + 1, 3, none⟩ = some (.int .i64 x3) := kp.cell 3
  have q3 : W0.frozen? ⟨w.heap.size + 1, 3, none⟩ = false := kp.frozen 3
  have p4 : W0.cell? ⟨w.heap.size + 1, 4, none⟩ = some (.int .i64 x4) := kp.cell 4
  have q4 : W0.frozen? ⟨w.heap.size + 1, 4, none⟩ = false := kp.frozen 4
  have p5 : W0.cell? ⟨w.heap.size + 1, 5, none⟩ = some (.int .i64 x5) := kp.cell 5
  have q5 : W0.frozen? ⟨w.heap.size + 1, 5, none⟩ = false := kp.frozen 5
  have p6 : W0.cell? ⟨w.heap.size + 1, 6, none⟩ = some (.int .i64 x6) := kp.cell 6
  have q6 : W0.frozen? ⟨w.heap.size + 1, 6, none⟩ = false := kp.frozen 6
  have p7 : W0.cell? ⟨w.heap.size + 1, 7, none⟩ = some (.bool t1) := kp.cell 7
  have q7 : W0.frozen? ⟨w.heap.size + 1, 7, none⟩ = false := kp.frozen 7
  have p8 : W0.cell? ⟨w.heap.size + 1, 8, none⟩ = some (.bool t2) := kp.cell 8
  have q8 : W0.frozen? ⟨w.heap.size + 1, 8, none⟩ = false := kp.frozen 8
  have p9 : W0.cell? ⟨w.heap.size + 1, 9, none⟩ = some (.bool t3) := kp.cell 9
  have q9 : W0.frozen? ⟨w.heap.size + 1, 9, none⟩ = false := kp.frozen 9
  have p10 : W0.cell? ⟨w.heap.size + 1, 10, none⟩ = some (.int .u8 2) := kp.cell 10
  have q10 : W0.frozen? ⟨w.heap.size + 1, 10, none⟩ = false := kp.frozen 10
  have p11 : W0.cell? ⟨w.heap.size + 1, 11, none⟩ = some (.int .i64 tt) := kp.cell 11
  have q11 : W0.frozen? ⟨w.heap.size + 1, 11, none⟩ = false := kp.frozen 11
  have p12 : W0.cell? ⟨w.heap.size + 1, 12, none⟩ = some (.int .i64 si) := kp.cell 12
  have q12 : W0.frozen? ⟨w.heap.size + 1, 12, none⟩ = false := kp.frozen 12
  have m0 : W0.cell? ⟨w.heap.size + 1 + 1, 0, none⟩ = some (.int .i64 0) := kr.cell 0
  have n0 : W0.frozen? ⟨w.heap.size + 1 + 1, 0, none⟩ = false := kr.frozen 0
  have m1 : W0.cell? ⟨w.heap.size + 1 + 1, 1, none⟩ = some (.int .i64 0) := kr.cell 1
  have n1 : W0.frozen? ⟨w.heap.size + 1 + 1, 1, none⟩ = false := kr.frozen 1
  have m2 : W0.cell? ⟨w.heap.size + 1 + 1, 2, none⟩ = some (.int .i64 0) := kr.cell 2
  have n2 : W0.frozen? ⟨w.heap.size + 1 + 1, 2, none⟩ = false := kr.frozen 2
  have m3 : W0.cell? ⟨w.heap.size + 1 + 1, 3, none⟩ = some (.int .i64 0) := kr.cell 3
  have n3 : W0.frozen? ⟨w.heap.size + 1 + 1, 3, none⟩ = false := kr.frozen 3
  have m4 : W0.cell? ⟨w.heap.size + 1 + 1, 4, none⟩ = some (.int .i64 0) := kr.cell 4
  have n4 : W0.frozen? ⟨w.heap.size + 1 + 1, 4, none⟩ = false := kr.frozen 4
  have m5 : W0.cell? ⟨w.heap.size + 1 + 1, 5, none⟩ = some (.int .i64 0) := kr.cell 5
  have n5 : W0.frozen? ⟨w.heap.size + 1 + 1, 5, none⟩ = false := kr.frozen 5
  have m6 : W0.cell? ⟨w.heap.size + 1 + 1, 6, none⟩ = some (.int .i64 0) := kr.cell 6
  have n6 : W0.frozen? ⟨w.heap.size + 1 + 1, 6, none⟩ = false := kr.frozen 6
  have m7 : W0.cell? ⟨w.heap.size + 1 + 1, 7, none⟩ = some (.bool false) := kr.cell 7
  have n7 : W0.frozen? ⟨w.heap.size + 1 + 1, 7, none⟩ = false := kr.frozen 7
  have m8 : W0.cell? ⟨w.heap.size + 1 + 1, 8, none⟩ = some (.bool false) := kr.cell 8
  have n8 : W0.frozen? ⟨w.heap.size + 1 + 1, 8, none⟩ = false := kr.frozen 8
  have m9 : W0.cell? ⟨w.heap.size + 1 + 1, 9, none⟩ = some (.bool false) := kr.cell 9
  have n9 : W0.frozen? ⟨w.heap.size + 1 + 1, 9, none⟩ = false := kr.frozen 9
  have m10 : W0.cell? ⟨w.heap.size + 1 + 1, 10, none⟩ = some (.int .u8 0) := kr.cell 10
  have n10 : W0.frozen? ⟨w.heap.size + 1 + 1, 10, none⟩ = false := kr.frozen 10
  have m11 : W0.cell? ⟨w.heap.size + 1 + 1, 11, none⟩ = some (.int .i64 0) := kr.cell 11
  have n11 : W0.frozen? ⟨w.heap.size + 1 + 1, 11, none⟩ = false := kr.frozen 11
  have m12 : W0.cell? ⟨w.heap.size + 1 + 1, 12, none⟩ = some (.int .i64 0) := kr.cell 12
  have n12 : W0.frozen? ⟨w.heap.size + 1 + 1, 12, none⟩ = false := kr.frozen 12
  have d5 : W0.cell? ⟨w.heap.size, 5, none⟩ = some (.int .i64 tr) := kd.cell 5
  have hz1 : w.heap.size + 1 < W0.heap.size := kp.lt
  have hz2 : w.heap.size + 1 + 1 < W0.heap.size := kr.lt
  have KR := Lib.hid kr
  have HB0 := Lib.hid hb0
  clear kd kp kr hb0
  have e1 : (tt == tr) = false := by simpa using hn
  clear hn
  go_wp2_with fail
  have hs13 := store13 (w := w) (g := w.heap.size + 1 + 1) ((HB0.out.setCell (p := ⟨w.heap.size + 1, 11, none⟩) (by simp) _).setCell (p := ⟨w.heap.size + 1, 12, none⟩) (by simp) _) (by omega) ((KR.out.far (p := ⟨w.heap.size + 1, 11, none⟩) (by simp) (.int .i64 (tt + 1))).far (p := ⟨w.heap.size + 1, 12, none⟩) (by simp) (.int .i64 now)) (.int .i64 job) (.int .i64 x1) (.int .i64 x2) (.int .i64 x3) (.int .i64 x4) (.int .i64 x5) (.int .i64 x6) (.bool t1) (.bool t2) (.bool t3) (.int .u8 2) (.int .i64 (tt + 1)) (.int .i64 now)
  refine bodyPost_ret (v := .tuple #[.agg #[.int .i64 job, .int .i64 x1, .int .i64 x2, .int .i64 x3, .int .i64 x4, .int .i64 x5, .int .i64 x6, .bool t1, .bool t2, .bool t3, .int .u8 2, .int .i64 (tt + 1), .int .i64 now], .int .u8 0, .bool false, .bool false]) ?_ rfl ?_
  · exact res_turned _ _ (w.heap.size + 1 + 1) (.int .i64 job) (.int .i64 x1) (.int .i64 x2) (.int .i64 x3) (.int .i64 x4) (.int .i64 x5) (.int .i64 x6) (.bool t1) (.bool t2) (.bool t3) (.int .u8 2) (.int .i64 (tt + 1)) (.int .i64 now) (.int .u8 0) (.bool false) (.bool false) rfl rfl rfl rfl hs13.2
  · exact ⟨rfl, hs13.1⟩
set_option maxRecDepth 100000 in
set_option maxHeartbeats 8000000 in
theorem tu_28 (a b c bo fr tr ag : Int) (X : Option Addr) (cp : Nat) (ks : List Cls) (job x1 x2 x3 x4 x5 x6 : Int) (t1 t2 t3 : Bool) (tt si : Int) (now : Int)  (w : World) :
    Calls Try.prog 33 #[.agg #[.int .i64 a, .int .i64 b, .int .i64 c, .int .i64 bo, .int .i64 fr, .int .i64 tr, .int .i64 ag, .slice X ks.length cp], .agg #[.int .i64 job, .int .i64 x1, .int .i64 x2, .int .i64 x3, .int .i64 x4, .int .i64 x5, .int .i64 x6, .bool t1, .bool t2, .bool t3, .int .u8 2, .int .i64 tt, .int .i64 si], .int .u8 8, .int .i64 now] w (fun e w' => e = .returned (.tuple #[.agg #[.int .i64 0, .int .i64 0, .int .i64 0, .int .i64 0, .int .i64 0, .int .i64 0, .int .i64 0, .bool false, .bool false, .bool false, .int .u8 0, .int .i64 0, .int .i64 0], .int .u8 0, .bool false, .bool false]) ∧ Below w.heap.size w w') := by
  go_enter Try.func33, Try.ntmps33
  go_upto_region 1 with fail
  have kd : Blk (((w.alloc (.cells #[.int .i64 a, .int .i64 b, .int .i64 c, .int .i64 bo, .int .i64 fr, .int .i64 tr, .int .i64 ag, .slice X ks.length cp] 26)).alloc (.cells #[.int .i64 job, .int .i64 x1, .int .i64 x2, .int .i64 x3, .int .i64 x4, .int .i64 x5, .int .i64 x6, .bool t1, .bool t2, .bool t3, .int .u8 2, .int .i64 tt, .int .i64 si] 37)).alloc (.cells #[.int .i64 0, .int .i64 0, .int .i64 0, .int .i64 0, .int .i64 0, .int .i64 0, .int .i64 0, .bool false, .bool false, .bool false, .int .u8 0, .int .i64 0, .int .i64 0] 37)) (w.heap.size) 26 #[.int .i64 a, .int .i64 b, .int .i64 c, .int .i64 bo, .int .i64 fr, .int .i64 tr, .int .i64 ag, .slice X ks.length cp] := ((Blk.new w _ _).alloc _).alloc _
  have kp : Blk (((w.alloc (.cells #[.int .i64 a, .int .i64 b, .int .i64 c, .int .i64 bo, .int .i64 fr, .int .i64 tr, .int .i64 ag, .slice X ks.length cp] 26)).alloc (.cells #[.int .i64 job, .int .i64 x1, .int .i64 x2, .int .i64 x3, .int .i64 x4, .int .i64 x5, .int .i64 x6, .bool t1, .bool t2, .bool t3, .int .u8 2, .int .i64 tt, .int .i64 si] 37)).alloc (.cells #[.int .i64 0, .int .i64 0, .int .i64 0, .int .i64 0, .int .i64 0, .int .i64 0, .int .i64 0, .bool false, .bool false, .bool false, .int .u8 0, .int .i64 0, .int .i64 0] 37)) (w.heap.size + 1) 37 #[.int .i64 job, .int .i64 x1, .int .i64 x2, .int .i64 x3, .int .i64 x4, .int .i64 x5, .int .i64 x6, .bool t1, .bool t2, .bool t3, .int .u8 2, .int .i64 tt, .int .i64 si] := (blk1 w _ _).alloc _
  have kr : Blk (((w.alloc (.cells #[.int .i64 a, .int .i64 b, .int .i64 c, .int .i64 bo, .int .i64 fr, .int .i64 tr, .int .i64 ag, .slice X ks.length cp] 26)).alloc (.cells #[.int .i64 job, .int .i64 x1, .int .i64 x2, .int .i64 x3, .int .i64 x4, .int .i64 x5, .int .i64 x6, .bool t1, .bool t2, .bool t3, .int .u8 2, .int .i64 tt, .int .i64 si] 37)).alloc (.cells #[.int .i64 0, .int .i64 0, .int .i64 0, .int .i64 0, .int .i64 0, .int .i64 0, .int .i64 0, .bool false, .bool false, .bool false, .int .u8 0, .int .i64 0, .int .i64 0] 37)) (w.heap.size + 1 + 1) 37 #[.int .i64 0, .int .i64 0, .int .i64 0, .int .i64 0, .int .i64 0, .int .i64 0, .int .i64 0, .bool false, .bool false, .bool false, .int .u8 0, .int .i64 0, .int .i64 0] := blk2 w _ _
  have hb0 : Below w.heap.size w (((w.alloc (.cells #[.int .i64 a, .int .i64 b, .int .i64 c, .int .i64 bo, .int .i64 fr, .int .i64 tr, .int .i64 ag, .slice X ks.length cp] 26)).alloc (.cells #[.int .i64 job, .int .i64 x1, .int .i64 x2, .int .i64 x3, .int .i64 x4, .int .i64 x5, .int .i64 x6, .bool t1, .bool t2, .bool t3, .int .u8 2, .int .i64 tt, .int .i64 si] 37)).alloc (.cells #[.int .i64 0, .int .i64 0, .int .i64 0, .int .i64 0, .int .i64 0, .int .i64 0, .int .i64 0, .bool false, .bool false, .bool false, .int .u8 0, .int .i64 0, .int .i64 0] 37)) := below_alloc (below_alloc (below_alloc (Below.refl _ _)))
  generalize hW0 : (((w.alloc (.cells #[.int .i64 a, .int .i64 b, .int .i64 c, .int .i64 bo, .int .i64 fr, .int .i64 tr, .int .i64 ag, .slice X ks.length cp] 26)).alloc (.cells #[.int .i64 job, .int .i64 x1, .int .i64 x2, .int .i64 x3, .int .i64 x4, .int .i64 x5, .int .i64 x6, .bool t1, .bool t2, .bool t3, .int .u8 2, .int .i64 tt, .int .i64 si] 37)).alloc (.cells #[.int .i64 0, .int .i64 0, .int .i64 0, .int .i64 0, .int .i64 0, .int .i64 0, .int .i64 0, .bool false, .bool false, .bool false, .int .u8 0, .int .i64 0, .int .i64 0] 37)) = W0 at *
  clear hW0
  have p0 : W0.cell? ⟨w.heap.size + 1, 0, none⟩ = some (.int .i64 job) := kp.cell 0
  have q0 : W0.frozen? ⟨w.heap.size + 1, 0, none⟩ = false := kp.frozen 0
  have p1 : W0.cell? ⟨w.heap.size + 1, 1, none⟩ = some (.int .i64 x1) := kp.cell 1
  have q1 : W0.frozen? ⟨w.heap.size + 1, 1, none⟩ = false := kp.frozen 1
  have p2 : W0.cell? ⟨w.heap.size + 1, 2, none⟩ = some (.int .i64 x2) := kp.cell 2
  have q2 : W0.frozen? ⟨w.heap.size + 1, 2, none⟩ = false := kp.frozen 2
  have p3 : W0.cell? ⟨w.heap.size + 1, 3, none⟩ = some (.int .i64 x3) := kp.cell 3
  have q3 : W0.frozen? ⟨w.heap.size + 1, 3, none⟩ = false := kp.frozen 3
  have p4 : W0.cell? ⟨w.heap.size + 1, 4, none⟩ = some (.int .i64 x4) := kp.cell 4
  have q4 : W0.frozen? ⟨w.heap.size + 1, 4, none⟩ = false := kp.frozen 4
  have p5 : W0.cell? ⟨w.heap.size + 1, 5, none⟩ = some (.int .i64 x5) := kp.cell 5
  have q5 : W0.frozen? ⟨w.heap.size + 1, 5, none⟩ = false := kp.frozen 5
  have p6 : W0.cell? ⟨w.heap.size + 1, 6, none⟩ = some (.int .i64 x6) := kp.cell 6
  have q6 : W0.frozen? ⟨w.heap.size + 1, 6, none⟩ = false := kp.frozen 6
  have p7 : W0.cell? ⟨w.heap.size + 1, 7, none⟩ = some (.bool t1) := kp.cell 7
  have q7 : W0.frozen? ⟨w.heap.size + 1, 7, none⟩ = false := kp.frozen 7
  have p8 : W0.cell? ⟨w.heap.size + 1, 8, none⟩ = some (.bool t2) := kp.cell 8
  have q8 : W0.frozen? ⟨w.heap.size + 1, 8, none⟩ = false := kp.frozen 8
  have p9 : W0.cell? ⟨w.heap.size + 1, 9, none⟩ = some (.bool t3) := kp.cell 9
  have q9 : W0.frozen? ⟨w.heap.size + 1, 9, none⟩ = false := kp.frozen 9
  have p10 : W0.cell? ⟨w.heap.size + 1, 10, none⟩ = some (.int .u8 2) := kp.cell 10
  have q10 : W0.frozen? ⟨w.heap.size + 1, 10, none⟩ = false := kp.frozen 10
  have p11 : W0.cell? ⟨w.heap.size + 1, 11, none⟩ = some (.int .i64 tt) := kp.cell 11
  have q11 : W0.frozen? ⟨w.heap.size + 1, 11, none⟩ = false := kp.frozen 11
  have p12 : W0.cell? ⟨w.heap.size + 1, 12, none⟩ = some (.int .i64 si) := kp.cell 12
  have q12 : W0.frozen? ⟨w.heap.size + 1, 12, none⟩ = false := kp.frozen 12
  have m0 : W0.cell? ⟨w.heap.size + 1 + 1, 0, none⟩ = some (.int .i64 0) := kr.cell 0
  have n0 : W0.frozen? ⟨w.heap.size + 1 + 1, 0, none⟩ = false := kr.frozen 0
  have m1 : W0.cell? ⟨w.heap.size + 1 + 1, 1, none⟩ = some (.int .i64 0) := kr.cell 1
  have n1 : W0.frozen? ⟨w.heap.size + 1 + 1, 1, none⟩ = false := kr.frozen 1
  have m2 : W0.cell? ⟨w.heap.size + 1 + 1, 2, none⟩ = some (.int .i64 0) := kr.cell 2
  have n2 : W0.frozen? ⟨w.heap.size + 1 + 1, 2, none⟩ = false := kr.frozen 2
  have m3 : W0.cell? ⟨w.heap.size + 1 + 1, 3, none⟩ = some (.int .i64 0) := kr.cell 3
  have n3 : W0.frozen? ⟨w.heap.size + 1 + 1, 3, none⟩ = false := kr.frozen 3
  have m4 : W0.cell? ⟨w.heap.size + 1 + 1, 4, none⟩ = some (.int .i64 0) := kr.cell 4
  have n4 : W0.frozen? ⟨w.heap.size + 1 + 1, 4, none⟩ = false := kr.frozen 4
  have m5 : W0.cell? ⟨w.heap.size + 1 + 1, 5, none⟩ = some (.int .i64 0) := kr.cell 5
  have n5 : W0.frozen? ⟨w.heap.size + 1 + 1, 5, none⟩ = false := kr.frozen 5
  have m6 : W0.cell? ⟨w.heap.size + 1 + 1, 6, none⟩ = some (.int .i64 0) := kr.cell 6
  have n6 : W0.frozen? ⟨w.heap.size + 1 + 1, 6, none⟩ = false := kr.frozen 6
  have m7 : W0.cell? ⟨w.heap.size + 1 + 1, 7, none⟩ = some (.bool false) := kr.cell 7
  have n7 : W0.frozen? ⟨w.heap.size + 1 + 1, 7, none⟩ = false := kr.frozen 7
  have m8 : W0.cell? ⟨w.heap.size + 1 + 1, 8, none⟩ = some (.bool false) := kr.cell 8
  have n8 : W0.frozen? ⟨w.heap.size + 1 + 1, 8, none⟩ = false := kr.frozen 8
  have m9 : W0.cell? ⟨w.heap.size + 1 + 1, 9, none⟩ = some (.bool false) := kr.cell 9
  have n9 : W0.frozen? ⟨w.heap.size + 1 + 1, 9, none⟩ = false := kr.frozen 9
  have m10 : W0.cell? ⟨w.heap.size + 1 + 1, 10, none⟩ = some (.int .u8 0) := kr.cell 10
  have n10 : W0.frozen? ⟨w.heap.size + 1 + 1, 10, none⟩ = false := kr.frozen 10
  have m11 : W0.cell? ⟨w.heap.size + 1 + 1, 11, none⟩ = some (.int .i64 0) := kr.cell 11
  have n11 : W0.frozen? ⟨w.heap.size + 1 + 1, 11, none⟩ = false := kr.frozen 11
  have m12 : W0.cell? ⟨w.heap.size + 1 + 1, 12, none⟩ = some (.int .i64 0) := kr.cell 12
  have n12 : W0.frozen? ⟨w.heap.size + 1 + 1, 12, none⟩ = false := kr.frozen 12
  have hz1 : w.heap.size + 1 < W0.heap.size := kp.lt
  have hz2 : w.heap.size + 1 + 1 < W0.heap.size := kr.lt
  have KR := Lib.hid kr
  have HB0 := Lib.hid hb0
  clear kd kp kr hb0
  go_wp2_with fail
  have hs13 := store13 (w := w) (g := w.heap.size + 1 + 1) HB0.out (by omega) KR.out (.int .i64 0) (.int .i64 0) (.int .i64 0) (.int .i64 0) (.int .i64 0) (.int .i64 0) (.int .i64 0) (.bool false) (.bool false) (.bool false) (.int .u8 0) (.int .i64 0) (.int .i64 0)
  refine bodyPost_ret (v := .tuple #[.agg #[.int .i64 0, .int .i64 0, .int .i64 0, .int .i64 0, .int .i64 0, .int .i64 0, .int .i64 0, .bool false, .bool false, .bool false, .int .u8 0, .int .i64 0, .int .i64 0], .int .u8 0, .bool false, .bool false]) ?_ rfl ?_
  · exact res_turned _ _ (w.heap.size + 1 + 1) (.int .i64 0) (.int .i64 0) (.int .i64 0) (.int .i64 0) (.int .i64 0) (.int .i64 0) (.int .i64 0) (.bool false) (.bool false) (.bool false) (.int .u8 0) (.int .i64 0) (.int .i64 0) (.int .u8 0) (.bool false) (.bool false) rfl rfl rfl rfl hs13.2
  · exact ⟨rfl, hs13.1⟩
set_option maxRecDepth 100000 in
set_option maxHeartbeats 8000000 in
theorem tu_23 (a b c bo fr tr ag : Int) (X : Option Addr) (cp : Nat) (ks : List Cls) (job x1 x2 x3 x4 x5 x6 : Int) (t1 t2 t3 : Bool) (tt si : Int) (now : Int)  (w : World) :
    Calls Try.prog 33 #[.agg #[.int .i64 a, .int .i64 b, .int .i64 c, .int .i64 bo, .int .i64 fr, .int .i64 tr, .int .i64 ag, .slice X ks.length cp], .agg #[.int .i64 job, .int .i64 x1, .int .i64 x2, .int .i64 x3, .int .i64 x4, .int .i64 x5, .int .i64 x6, .bool t1, .bool t2, .bool t3, .int .u8 2, .int .i64 tt, .int .i64 si], .int .u8 3, .int .i64 now] w (fun e w' => e = .returned (.tuple #[.agg #[.int .i64 job, .int .i64 x1, .int .i64 x2, .int .i64 x3, .int .i64 x4, .int .i64 x5, .int .i64 x6, .bool t1, .bool t2, .bool t3, .int .u8 3, .int .i64 tt, .int .i64 now], .int .u8 3, .bool false, .bool true]) ∧ Below w.heap.size w w') := by
  go_enter Try.func33, Try.ntmps33
  go_upto_region 1 with fail
  have kd : Blk (((w.alloc (.cells #[.int .i64 a, .int .i64 b, .int .i64 c, .int .i64 bo, .int .i64 fr, .int .i64 tr, .int .i64 ag, .slice X ks.length cp] 26)).alloc (.cells #[.int .i64 job, .int .i64 x1, .int .i64 x2, .int .i64 x3, .int .i64 x4, .int .i64 x5, .int .i64 x6, .bool t1, .bool t2, .bool t3, .int .u8 2, .int .i64 tt, .int .i64 si] 37)).alloc (.cells #[.int .i64 0, .int .i64 0, .int .i64 0, .int .i64 0, .int .i64 0, .int .i64 0, .int .i64 0, .bool false, .bool false, .bool false, .int .u8 0, .int .i64 0, .int .i64 0] 37)) (w.heap.size) 26 #[.int .i64 a, .int .i64 b, .int .i64 c, .int .i64 bo, .int .i64 fr, .int .i64 tr, .int .i64 ag, .slice X ks.length cp] := ((Blk.new w _ _).alloc _).alloc _
  have kp : Blk (((w.alloc (.cells #[.int .i64 a, .int .i64 b, .int .i64 c, .int .i64 bo, .int .i64 fr, .int .i64 tr, .int .i64 ag, .slice X ks.length cp] 26)).alloc (.cells #[.int .i64 job, .int .i64 x1, .int .i64 x2, .int .i64 x3, .int .i64 x4, .int .i64 x5, .int .i64 x6, .bool t1, .bool t2, .bool t3, .int .u8 2, .int .i64 tt, .int .i64 si] 37)).alloc (.cells #[.int .i64 0, .int .i64 0, .int .i64 0, .int .i64 0, .int .i64 0, .int .i64 0, .int .i64 0, .bool false, .bool false, .bool false, .int .u8 0, .int .i64 0, .int .i64 0] 37)) (w.heap.size + 1) 37 #[.int .i64 job, .int .i64 x1, .int .i64 x2, .int .i64 x3, .int .i64 x4, .int .i64 x5, .int .i64 x6, .bool t1, .bool t2, .bool t3, .int .u8 2, .int .i64 tt, .int .i64 si] := (blk1 w _ _).alloc _
  have kr : Blk (((w.alloc (.cells #[.int .i64 a, .int .i64 b, .int .i64 c, .int .i64 bo, .int .i64 fr, .int .i64 tr, .int .i64 ag, .slice X ks.length cp] 26)).alloc (.cells #[.int .i64 job, .int .i64 x1, .int .i64 x2, .int .i64 x3, .int .i64 x4, .int .i64 x5, .int .i64 x6, .bool t1, .bool t2, .bool t3, .int .u8 2, .int .i64 tt, .int .i64 si] 37)).alloc (.cells #[.int .i64 0, .int .i64 0, .int .i64 0, .int .i64 0, .int .i64 0, .int .i64 0, .int .i64 0, .bool false, .bool false, .bool false, .int .u8 0, .int .i64 0, .int .i64 0] 37)) (w.heap.size + 1 + 1) 37 #[.int .i64 0, .int .i64 0, .int .i64 0, .int .i64 0, .int .i64 0, .int .i64 0, .int .i64 0, .bool false, .bool false, .bool false, .int .u8 0, .int .i64 0, .int .i64 0] := blk2 w _ _
  have hb0 : Below w.heap.size w (((w.alloc (.cells #[.int .i64 a, .int .i64 b, .int .i64 c, .int .i64 bo, .int .i64 fr, .int .i64 tr, .int .i64 ag, .slice X ks.length cp] 26)).alloc (.cells #[.int .i64 job, .int .i64 x1, .int .i64 x2, .int .i64 x3, .int .i64 x4, .int .i64 x5, .int .i64 x6, .bool t1, .bool t2, .bool t3, .int .u8 2, .int .i64 tt, .int .i64 si] 37)).alloc (.cells #[.int .i64 0, .int .i64 0, .int .i64 0, .int .i64 0, .int .i64 0, .int .i64 0, .int .i64 0, .bool false, .bool false, .bool false, .int .u8 0, .int .i64 0, .int .i64 0] 37)) := below_alloc (below_alloc (below_alloc (Below.refl _ _)))
  generalize hW0 : (((w.alloc (.cells #[.int .i64 a, .int .i64 b, .int .i64 c, .int .i64 bo, .int .i64 fr, .int .i64 tr, .int .i64 ag, .slice X ks.length cp] 26)).alloc (.cells #[.int .i64 job, .int .i64 x1, .int .i64 x2, .int .i64 x3, .int .i64 x4, .int .i64 x5, .int .i64 x6, .bool t1, .bool t2, .bool t3, .int .u8 2, .int .i64 tt, .int .i64 si] 37)).alloc (.cells #[.int .i64 0, .int .i64 0, .int .i64 0, .int .i64 0, .int .i64 0, .int .i64 0, .int .i64 0, .bool false, .bool false, .bool false, .int .u8 0, .int .i64 0, .int .i64 0] 37)) = W0 at *
  clear hW0
  have p0 : W0.cell? ⟨w.heap.size + 1, 0, none⟩ = some (.int .i64 job) := kp.cell 0
  have q0 : W0.frozen? ⟨w.heap.size + 1, 0, none⟩ = false := kp.frozen 0
  have p1 : W0.cell? ⟨w.heap.size + 1, 1, none⟩ = some (.int .i64 x1) := kp.cell 1
  have q1 : W0.frozen? ⟨w.heap.size + 1, 1, none⟩ = false := kp.frozen 1
  have p2 : W0.cell? ⟨w.heap.size + 1, 2, none⟩ = some (.int .i64 x2) := kp.cell 2
  have q2 : W0.frozen? ⟨w.heap.size + 1, 2, none⟩ = false := kp.frozen 2
  have p3 : W0.cell? ⟨w.heap.size + 1, 3, none⟩ = some (.int .i64 x3) := kp.cell 3
  have q3 : W0.frozen? ⟨w.heap.size + 1, 3, none⟩ = false := kp.frozen 3
  have p4 : W0.cell? ⟨w.heap.size + 1, 4, none⟩ = some (.int .i64 x4) := kp.cell 4
  have q4 : W0.frozen? ⟨w.heap.size + 1, 4, none⟩ = false := kp.frozen 4
  have p5 : W0.cell? ⟨w.heap.size + 1, 5, none⟩ = some (.int .i64 x5) := kp.cell 5
  have q5 : W0.frozen? ⟨w.heap.size + 1, 5, none⟩ = false := kp.frozen 5
  have p6 : W0.cell? ⟨w.heap.size + 1, 6, none⟩ = some (.int .i64 x6) := kp.cell 6
  have q6 : W0.frozen? ⟨w.heap.size + 1, 6, none⟩ = false := kp.frozen 6
  have p7 : W0.cell? ⟨w.heap.size + 1, 7, none⟩ = some (.bool t1) := kp.cell 7
  have q7 : W0.frozen? ⟨w.heap.size + 1, 7, none⟩ = false := kp.frozen 7
  have p8 : W0.cell? ⟨w.heap.size + 1, 8, none⟩ = some (.bool t2) := kp.cell 8
  have q8 : W0.frozen? ⟨w.heap.size + 1, 8, none⟩ = false := kp.frozen 8
  have p9 : W0.cell? ⟨w.heap.size + 1, 9, none⟩ = some (.bool t3) := kp.cell 9
  have q9 : W0.frozen? ⟨w.heap.size + 1, 9, none⟩ = false := kp.frozen 9
  have p10 : W0.cell? ⟨w.heap.size + 1, 10, none⟩ = some (.int .u8 2) := kp.cell 10
  have q10 : W0.frozen? ⟨w.heap.size + 1, 10, none⟩ = false := kp.frozen 10
  have p11 : W0.cell? ⟨w.heap.size + 1, 11, none⟩ = some (.int .i64 tt) := kp.cell 11
  have q11 : W0.frozen? ⟨w.heap.size + 1, 11, none⟩ = false := kp.frozen 11
  have p12 : W0.cell? ⟨w.heap.size + 1, 12, none⟩ = some (.int .i64 si) := kp.cell 12
  have q12 : W0.frozen? ⟨w.heap.size + 1, 12, none⟩ = false := kp.frozen 12
  have hz1 : w.heap.size + 1 < W0.heap.size := kp.lt
  have hz2 : w.heap.size + 1 + 1 < W0.heap.size := kr.lt
  have KR := Lib.hid kr
  have HB0 := Lib.hid hb0
  clear kd kp kr hb0
  go_wp2_with fail
  refine (freed_any job x1 x2 x3 x4 x5 x6 t1 t2 t3 2 tt si now _).mono ?_
  rintro e w1 ⟨rfl, hB1⟩
  have kr := KR.out.below hB1 hz2
  have hb1 := below_up HB0.out hB1
  have KR1 := Lib.hid kr
  have HB1 := Lib.hid hb1
  have hy2 : w.heap.size + 1 + 1 < w1.heap.size := kr.lt
  clear hB1 hb1
  have m0 : w1.cell? ⟨w.heap.size + 1 + 1, 0, none⟩ = some (.int .i64 0) := kr.cell 0
  have n0 : w1.frozen? ⟨w.heap.size + 1 + 1, 0, none⟩ = false := kr.frozen 0
  have m1 : w1.cell? ⟨w.heap.size + 1 + 1, 1, none⟩ = some (.int .i64 0) := kr.cell 1
  have n1 : w1.frozen? ⟨w.heap.size + 1 + 1, 1, none⟩ = false := kr.frozen 1
  have m2 : w1.cell? ⟨w.heap.size + 1 + 1, 2, none⟩ = some (.int .i64 0) := kr.cell 2
  have n2 : w1.frozen? ⟨w.heap.size + 1 + 1, 2, none⟩ = false := kr.frozen 2
  have m3 : w1.cell? ⟨w.heap.size + 1 + 1, 3, none⟩ = some (.int .i64 0) := kr.cell 3
  have n3 : w1.frozen? ⟨w.heap.size + 1 + 1, 3, none⟩ = false := kr.frozen 3
  have m4 : w1.cell? ⟨w.heap.size + 1 + 1, 4, none⟩ = some (.int .i64 0) := kr.cell 4
  have n4 : w1.frozen? ⟨w.heap.size + 1 + 1, 4, none⟩ = false := kr.frozen 4
  have m5 : w1.cell? ⟨w.heap.size + 1 + 1, 5, none⟩ = some (.int .i64 0) := kr.cell 5
  have n5 : w1.frozen? ⟨w.heap.size + 1 + 1, 5, none⟩ = false := kr.frozen 5
  have m6 : w1.cell? ⟨w.heap.size + 1 + 1, 6, none⟩ = some (.int .i64 0) := kr.cell 6
  have n6 : w1.frozen? ⟨w.heap.size + 1 + 1, 6, none⟩ = false := kr.frozen 6
  have m7 : w1.cell? ⟨w.heap.size + 1 + 1, 7, none⟩ = some (.bool false) := kr.cell 7
  have n7 : w1.frozen? ⟨w.heap.size + 1 + 1, 7, none⟩ = false := kr.frozen 7
  have m8 : w1.cell? ⟨w.heap.size + 1 + 1, 8, none⟩ = some (.bool false) := kr.cell 8
  have n8 : w1.frozen? ⟨w.heap.size + 1 + 1, 8, none⟩ = false := kr.frozen 8
  have m9 : w1.cell? ⟨w.heap.size + 1 + 1, 9, none⟩ = some (.bool false) := kr.cell 9
  have n9 : w1.frozen? ⟨w.heap.size + 1 + 1, 9, none⟩ = false := kr.frozen 9
  have m10 : w1.cell? ⟨w.heap.size + 1 + 1, 10, none⟩ = some (.int .u8 0) := kr.cell 10
  have n10 : w1.frozen? ⟨w.heap.size + 1 + 1, 10, none⟩ = false := kr.frozen 10
  have m11 : w1.cell? ⟨w.heap.size + 1 + 1, 11, none⟩ = some (.int .i64 0) := kr.cell 11
  have n11 : w1.frozen? ⟨w.heap.size + 1 + 1, 11, none⟩ = false := kr.frozen 11
  have m12 : w1.cell? ⟨w.heap.size + 1 + 1, 12, none⟩ = some (.int .i64 0) := kr.cell 12
  have n12 : w1.frozen? ⟨w.heap.size + 1 + 1, 12, none⟩ = false := kr.frozen 12
  clear kr
  go_wp2_with fail
  have hs13 := store13 (w := w) (g := w.heap.size + 1 + 1) HB1.out (by omega) KR1.out (.int .i64 job) (.int .i64 x1) (.int .i64 x2) (.int .i64 x3) (.int .i64 x4) (.int .i64 x5) (.int .i64 x6) (.bool t1) (.bool t2) (.bool t3) (.int .u8 3) (.int .i64 tt) (.int .i64 now)
  refine bodyPost_ret (v := .tuple #[.agg #[.int .i64 job, .int .i64 x1, .int .i64 x2, .int .i64 x3, .int .i64 x4, .int .i64 x5, .int .i64 x6, .bool t1, .bool t2, .bool t3, .int .u8 3, .int .i64 tt, .int .i64 now], .int .u8 3, .bool false, .bool true]) ?_ rfl ?_
  · exact res_turned _ _ (w.heap.size + 1 + 1) (.int .i64 job) (.int .i64 x1) (.int .i64 x2) (.int .i64 x3) (.int .i64 x4) (.int .i64 x5) (.int .i64 x6) (.bool t1) (.bool t2) (.bool t3) (.int .u8 3) (.int .i64 tt) (.int .i64 now) (.int .u8 3) (.bool false) (.bool true) rfl rfl rfl rfl hs13.2
  · exact ⟨rfl, hs13.1⟩
set_option maxRecDepth 100000 in
set_option maxHeartbeats 8000000 in
theorem tu_24 (a b c bo fr tr ag : Int) (X : Option Addr) (cp : Nat) (ks : List Cls) (job x1 x2 x3 x4 x5 x6 : Int) (t1 t2 t3 : Bool) (tt si : Int) (now : Int)  (w : World) :
    Calls Try.prog 33 #[.agg #[.int .i64 a, .int .i64 b, .int .i64 c, .int .i64 bo, .int .i64 fr, .int .i64 tr, .int .i64 ag, .slice X ks.length cp], .agg #[.int .i64 job, .int .i64 x1, .int .i64 x2, .int .i64 x3, .int .i64 x4, .int .i64 x5, .int .i64 x6, .bool t1, .bool t2, .bool t3, .int .u8 2, .int .i64 tt, .int .i64 si], .int .u8 4, .int .i64 now] w (fun e w' => e = .returned (.tuple #[.agg #[.int .i64 job, .int .i64 x1, .int .i64 x2, .int .i64 x3, .int .i64 x4, .int .i64 x5, .int .i64 x6, .bool t1, .bool t2, .bool t3, .int .u8 3, .int .i64 tt, .int .i64 now], .int .u8 6, .bool false, .bool true]) ∧ Below w.heap.size w w') := by
  go_enter Try.func33, Try.ntmps33
  go_upto_region 1 with fail
  have kd : Blk (((w.alloc (.cells #[.int .i64 a, .int .i64 b, .int .i64 c, .int .i64 bo, .int .i64 fr, .int .i64 tr, .int .i64 ag, .slice X ks.length cp] 26)).alloc (.cells #[.int .i64 job, .int .i64 x1, .int .i64 x2, .int .i64 x3, .int .i64 x4, .int .i64 x5, .int .i64 x6, .bool t1, .bool t2, .bool t3, .int .u8 2, .int .i64 tt, .int .i64 si] 37)).alloc (.cells #[.int .i64 0, .int .i64 0, .int .i64 0, .int .i64 0, .int .i64 0, .int .i64 0, .int .i64 0, .bool false, .bool false, .bool false, .int .u8 0, .int .i64 0, .int .i64 0] 37)) (w.heap.size) 26 #[.int .i64 a, .int .i64 b, .int .i64 c, .int .i64 bo, .int .i64 fr, .int .i64 tr, .int .i64 ag, .slice X ks.length cp] := ((Blk.new w _ _).alloc _).alloc _
  have kp : Blk (((w.alloc (.cells #[.int .i64 a, .int .i64 b, .int .i64 c, .int .i64 bo, .int .i64 fr, .int .i64 tr, .int .i64 ag, .slice X ks.length cp] 26)).alloc (.cells #[.int .i64 job, .int .i64 x1, .int .i64 x2, .int .i64 x3, .int .i64 x4, .int .i64 x5, .int .i64 x6, .bool t1, .bool t2, .bool t3, .int .u8 2, .int .i64 tt, .int .i64 si] 37)).alloc (.cells #[.int .i64 0, .int .i64 0, .int .i64 0, .int .i64 0, .int .i64 0, .int .i64 0, .int .i64 0, .bool false, .bool false, .bool false, .int .u8 0, .int .i64 0, .int .i64 0] 37)) (w.heap.size + 1) 37 #[.int .i64 job, .int .i64 x1, .int .i64 x2, .int .i64 x3, .int .i64 x4, .int .i64 x5, .int .i64 x6, .bool t1, .bool t2, .bool t3, .int .u8 2, .int .i64 tt, .int .i64 si] := (blk1 w _ _).alloc _
  have kr : Blk (((w.alloc (.cells #[.int .i64 a, .int .i64 b, .int .i64 c, .int .i64 bo, .int .i64 fr, .int .i64 tr, .int .i64 ag, .slice X ks.length cp] 26)).alloc (.cells #[.int .i64 job, .int .i64 x1, .int .i64 x2, .int .i64 x3, .int .i64 x4, .int .i64 x5, .int .i64 x6, .bool t1, .bool t2, .bool t3, .int .u8 2, .int .i64 tt, .int .i64 si] 37)).alloc (.cells #[.int .i64 0, .int .i64 0, .int .i64 0, .int .i64 0, .int .i64 0, .int .i64 0, .int .i64 0, .bool false, .bool false, .bool false, .int .u8 0, .int .i64 0, .int .i64 0] 37)) (w.heap.size + 1 + 1) 37 #[.int .i64 0, .int .i64 0, .int .i64 0, .int .i64 0, .int .i64 0, .int .i64 0, .int .i64 0, .bool false, .bool false, .bool false, .int .u8 0, .int .i64 0, .int .i64 0] := blk2 w _ _
  have hb0 : Below w.heap.size w (((w.alloc (.cells #[.int .i64 a, .int .i64 b, .int .i64 c, .int .i64 bo, .int .i64 fr, .int .i64 tr, .int .i64 ag, .slice X ks.length cp] 26)).alloc (.cells #[.int .i64 job, .int .i64 x1, .int .i64 x2, .int .i64 x3, .int .i64 x4, .int .i64 x5, .int .i64 x6, .bool t1, .bool t2, .bool t3, .int .u8 2, .int .i64 tt, .int .i64 si] 37)).alloc (.cells #[.int .i64 0, .int .i64 0, .int .i64 0, .int .i64 0, .int .i64 0, .int .i64 0, .int .i64 0, .bool false, .bool false, .bool false, .int .u8 0, .int .i64 0, .int .i64 0] 37)) := below_alloc (below_alloc (below_alloc (Below.refl _ _)))
  generalize hW0 : (((w.alloc (.cells #[.int .i64 a, .int .i64 b, .int .i64 c, .int .i64 bo, .int .i64 fr, .int .i64 tr, .int .i64 ag, .slice X ks.length cp] 26)).alloc (.cells #[.int .i64 job, .int .i64 x1, .int .i64 x2, .int .i64 x3, .int .i64 x4, .int .i64 x5, .int .i64 x6, .bool t1, .bool t2, .bool t3, .int .u8 2, .int .i64 tt, .int .i64 si] 37)).alloc (.cells #[.int .i64 0, .int .i64 0, .int .i64 0, .int .i64 0, .int .i64 0, .int .i64 0, .int .i64 0, .bool false, .bool false, .bool false, .int .u8 0, .int .i64 0, .int .i64 0] 37)) = W0 at *
  clear hW0
  have p0 : W0.cell? ⟨w.heap.size + 1, 0, none⟩ = some (.int .i64 job) := kp.cell 0
  have q0 : W0.frozen? ⟨w.heap.size + 1, 0, none⟩ = false := kp.frozen 0
  have p1 : W0.cell? ⟨w.heap.size + 1, 1, none⟩ = some (.int .i64 x1) := kp.cell 1
  have q1 : W0.frozen? ⟨w.heap.size + 1, 1, none⟩ = false := kp.frozen 1
  have p2 : W0.cell? ⟨w.heap.size + 1, 2, none⟩ = some (.int .i64 x2) := kp.cell 2
  have q2 : W0.frozen? ⟨w.heap.size + 1, 2, none⟩ = false := kp.frozen 2
  have p3 : W0.cell? ⟨w.heap.size + 1, 3, none⟩ = some (.int .i64 x3) := kp.cell 3
  have q3 : W0.frozen? ⟨w.heap.size + 1, 3, none⟩ = false := kp.frozen 3
  have p4 : W0.cell? ⟨w.heap.size + 1, 4, none⟩ = some (.int .i64 x4) := kp.cell 4
  have q4 : W0.frozen? ⟨w.heap.size + 1, 4, none⟩ = false := kp.frozen 4
  have p5 : W0.cell? ⟨w.heap.size + 1, 5, none⟩ = some (.int .i64 x5) := kp.cell 5
  have q5 : W0.frozen? ⟨w.heap.size + 1, 5, none⟩ = false := kp.frozen 5
  have p6 : W0.cell? ⟨w.heap.size + 1, 6, none⟩ = some (.int .i64 x6) := kp.cell 6
  have q6 : W0.frozen? ⟨w.heap.size + 1, 6, none⟩ = false := kp.frozen 6
  have p7 : W0.cell? ⟨w.heap.size + 1, 7, none⟩ = some (.bool t1) := kp.cell 7
  have q7 : W0.frozen? ⟨w.heap.size + 1, 7, none⟩ = false := kp.frozen 7
  have p8 : W0.cell? ⟨w.heap.size + 1, 8, none⟩ = some (.bool t2) := kp.cell 8
  have q8 : W0.frozen? ⟨w.heap.size + 1, 8, none⟩ = false := kp.frozen 8
  have p9 : W0.cell? ⟨w.heap.size + 1, 9, none⟩ = some (.bool t3) := kp.cell 9
  have q9 : W0.frozen? ⟨w.heap.size + 1, 9, none⟩ = false := kp.frozen 9
  have p10 : W0.cell? ⟨w.heap.size + 1, 10, none⟩ = some (.int .u8 2) := kp.cell 10
  have q10 : W0.frozen? ⟨w.heap.size + 1, 10, none⟩ = false := kp.frozen 10
  have p11 : W0.cell? ⟨w.heap.size + 1, 11, none⟩ = some (.int .i64 tt) := kp.cell 11
  have q11 : W0.frozen? ⟨w.heap.size + 1, 11, none⟩ = false := kp.frozen 11
  have p12 : W0.cell? ⟨w.heap.size + 1, 12, none⟩ = some (.int .i64 si) := kp.cell 12
  have q12 : W0.frozen? ⟨w.heap.size + 1, 12, none⟩ = false := kp.frozen 12
  have hz1 : w.heap.size + 1 < W0.heap.size := kp.lt
  have hz2 : w.heap.size + 1 + 1 < W0.heap.size := kr.lt
  have KR := Lib.hid kr
  have HB0 := Lib.hid hb0
  clear kd kp kr hb0
  go_wp2_with fail
  refine (freed_any job x1 x2 x3 x4 x5 x6 t1 t2 t3 2 tt si now _).mono ?_
  rintro e w1 ⟨rfl, hB1⟩
  have kr := KR.out.below hB1 hz2
  have hb1 := below_up HB0.out hB1
  have KR1 := Lib.hid kr
  have HB1 := Lib.hid hb1
  have hy2 : w.heap.size + 1 + 1 < w1.heap.size := kr.lt
  clear hB1 hb1
  have m0 : w1.cell? ⟨w.heap.size + 1 + 1, 0, none⟩ = some (.int .i64 0) := kr.cell 0
  have n0 : w1.frozen? ⟨w.heap.size + 1 + 1, 0, none⟩ = false := kr.frozen 0
  have m1 : w1.cell? ⟨w.heap.size + 1 + 1, 1, none⟩ = some (.int .i64 0) := kr.cell 1
  have n1 : w1.frozen? ⟨w.heap.size + 1 + 1, 1, none⟩ = false := kr.frozen 1
  have m2 : w1.cell? ⟨w.heap.size + 1 + 1, 2, none⟩ = some (.int .i64 0) := kr.cell 2
  have n2 : w1.frozen? ⟨w.heap.size + 1 + 1, 2, none⟩ = false := kr.frozen 2
  have m3 : w1.cell? ⟨w.heap.size + 1 + 1, 3, none⟩ = some (.int .i64 0) := kr.cell 3
  have n3 : w1.frozen? ⟨w.heap.size + 1 + 1, 3, none⟩ = false := kr.frozen 3
  have m4 : w1.cell? ⟨w.heap.size + 1 + 1, 4, none⟩ = some (.int .i64 0) := kr.cell 4
  have n4 : w1.frozen? ⟨w.heap.size + 1 + 1, 4, none⟩ = false := kr.frozen 4
  have m5 : w1.cell? ⟨w.heap.size + 1 + 1, 5, none⟩ = some (.int .i64 0) := kr.cell 5
  have n5 : w1.frozen? ⟨w.heap.size + 1 + 1, 5, none⟩ = false := kr.frozen 5
  have m6 : w1.cell? ⟨w.heap.size + 1 + 1, 6, none⟩ = some (.int .i64 0) := kr.cell 6
  have n6 : w1.frozen? ⟨w.heap.size + 1 + 1, 6, none⟩ = false := kr.frozen 6
  have m7 : w1.cell? ⟨w.heap.size + 1 + 1, 7, none⟩ = some (.bool false) := kr.cell 7
  have n7 : w1.frozen? ⟨w.heap.size + 1 + 1, 7, none⟩ = false := kr.frozen 7
  have m8 : w1.cell? ⟨w.heap.size + 1 + 1, 8, none⟩ = some (.bool false) := kr.cell 8
  have n8 : w1.frozen? ⟨w.heap.size + 1 + 1, 8, none⟩ = false := kr.frozen 8
  have m9 : w1.cell? ⟨w.heap.size + 1 + 1, 9, none⟩ = some (.bool false) := kr.cell 9
  have n9 : w1.frozen? ⟨w.heap.size + 1 + 1, 9, none⟩ = false := kr.frozen 9
  have m10 : w1.cell? ⟨w.heap.size + 1 + 1, 10, none⟩ = some (.int .u8 0) := kr.cell 10
  have n10 : w1.frozen? ⟨w.heap.size + 1 + 1, 10, none⟩ = false := kr.frozen 10
  have m11 : w1.cell? ⟨w.heap.size + 1 + 1, 11, none⟩ = some (.int .i64 0) := kr.cell 11
  have n11 : w1.frozen? ⟨w.heap.size + 1 + 1, 11, none⟩ = false := kr.frozen 11
  have m12 : w1.cell? ⟨w.heap.size + 1 + 1, 12, none⟩ = some (.int .i64 0) := kr.cell 12
  have n12 : w1.frozen? ⟨w.heap.size + 1 + 1, 12, none⟩ = false := kr.frozen 12
  clear kr
  go_wp2_with fail
  have hs13 := store13 (w := w) (g := w.heap.size + 1 + 1) HB1.out (by omega) KR1.out (.int .i64 job) (.int .i64 x1) (.int .i64 x2) (.int .i64 x3) (.int .i64 x4) (.int .i64 x5) (.int .i64 x6) (.bool t1) (.bool t2) (.bool t3) (.int .u8 3) (.int .i64 tt) (.int .i64 now)
  refine bodyPost_ret (v := .tuple #[.agg #[.int .i64 job, .int .i64 x1, .int .i64 x2, .int .i64 x3, .int .i64 x4, .int .i64 x5, .int .i64 x6, .bool t1, .bool t2, .bool t3, .int .u8 3, .int .i64 tt, .int .i64 now], .int .u8 6, .bool false, .bool true]) ?_ rfl ?_
  · exact res_turned _ _ (w.heap.size + 1 + 1) (.int .i64 job) (.int .i64 x1) (.int .i64 x2) (.int .i64 x3) (.int .i64 x4) (.int .i64 x5) (.int .i64 x6) (.bool t1) (.bool t2) (.bool t3) (.int .u8 3) (.int .i64 tt) (.int .i64 now) (.int .u8 6) (.bool false) (.bool true) rfl rfl rfl rfl hs13.2
  · exact ⟨rfl, hs13.1⟩
set_option maxRecDepth 100000 in
set_option maxHeartbeats 8000000 in
theorem tu_25 (a b c bo fr tr ag : Int) (X : Option Addr) (cp : Nat) (ks : List Cls) (job x1 x2 x3 x4 x5 x6 : Int) (t1 t2 t3 : Bool) (tt si : Int) (now : Int)  (w : World) :
    Calls Try.prog 33 #[.agg #[.int .i64 a, .int .i64 b, .int .i64 c, .int .i64 bo, .int .i64 fr, .int .i64 tr, .int .i64 ag, .slice X ks.length cp], .agg #[.int .i64 job, .int .i64 x1, .int .i64 x2, .int .i64 x3, .int .i64 x4, .int .i64 x5, .int .i64 x6, .bool t1, .bool t2, .bool t3, .int .u8 2, .int .i64 tt, .int .i64 si], .int .u8 5, .int .i64 now] w (fun e w' => e = .returned (.tuple #[.agg #[.int .i64 job, .int .i64 x1, .int .i64 x2, .int .i64 x3, .int .i64 x4, .int .i64 x5, .int .i64 x6, .bool t1, .bool t2, .bool t3, .int .u8 3, .int .i64 tt, .int .i64 now], .int .u8 4, .bool false, .bool true]) ∧ Below w.heap.size w w') := by
  go_enter Try.func33, Try.ntmps33
  go_upto_region 1 with fail
  have kd : Blk (((w.alloc (.cells #[.int .i64 a, .int .i64 b, .int .i64 c, .int .i64 bo, .int .i64 fr, .int .i64 tr, .int .i64 ag, .slice X ks.length cp] 26)).alloc (.cells #[.int .i64 job, .int .i64 x1, .int .i64 x2, .int .i64 x3, .int .i64 x4, .int .i64 x5, .int .i64 x6, .bool t1, .bool t2, .bool t3, .int .u8 2, .int .i64 tt, .int .i64 si] 37)).alloc (.cells #[.int .i64 0, .int .i64 0, .int .i64 0, .int .i64 0, .int .i64 0, .int .i64 0, .int .i64 0, .bool false, .bool false, .bool false, .int .u8 0, .int .i64 0, .int .i64 0] 37)) (w.heap.size) 26 #[.int .i64 a, .int .i64 b, .int .i64 c, .int .i64 bo, .int .i64 fr, .int .i64 tr, .int .i64 ag, .slice X ks.length cp] := ((Blk.new w _ _).alloc _).alloc _
  have kp : Blk (((w.alloc (.cells #[.int .i64 a, .int .i64 b, .int .i64 c, .int .i64 bo, .int .i64 fr, .int .i64 tr, .int .i64 ag, .slice X ks.length cp] 26)).alloc (.cells #[.int .i64 job, .int .i64 x1, .int .i64 x2, .int .i64 x3, .int .i64 x4, .int .i64 x5, .int .i64 x6, .bool t1, .bool t2, .bool t3, .int .u8 2, .int .i64 tt, .int .i64 si] 37)).alloc (.cells #[.int .i64 0, .int .i64 0, .int .i64 0, .int .i64 0, .int .i64 0, .int .i64 0, .int .i64 0, .bool false, .bool false, .bool false, .int .u8 0, .int .i64 0, .int .i64 0] 37)) (w.heap.size + 1) 37 #[.int .i64 job, .int .i64 x1, .int .i64 x2, .int .i64 x3, .int .i64 x4, .int .i64 x5, .int .i64 x6, .bool t1, .bool t2, .bool t3, .int .u8 2, .int .i64 tt, .int .i64 si] := (blk1 w _ _).alloc _
  have kr : Blk (((w.alloc (.cells #[.int .i64 a, .int .i64 b, .int .i64 c, .int .i64 bo, .int .i64 fr, .int .i64 tr, .int .i64 ag, .slice X ks.length cp] 26)).alloc (.cells #[.int .i64 job, .int .i64 x1, .int .i64 x2, .int .i64 x3, .int .i64 x4, .int .i64 x5, .int .i64 x6, .bool t1, .bool t2, .bool t3, .int .u8 2, .int .i64 tt, .int .i64 si] 37)).alloc (.cells #[.int .i64 0, .int .i64 0, .int .i64 0, .int .i64 0, .int .i64 0, .int .i64 0, .int .i64 0, .bool false, .bool false, .bool false, .int .u8 0, .int .i64 0, .int .i64 0] 37)) (w.heap.size + 1 + 1) 37 #[.int .i64 0, .int .i64 0, .int .i64 0, .int .i64 0, .int .i64 0, .int .i64 0, .int .i64 0, .bool false, .bool false, .bool false, .int .u8 0, .int .i64 0, .int .i64 0] := blk2 w _ _
  have hb0 : Below w.heap.size w (((w.alloc (.cells #[.int .i64 a, .int .i64 b, .int .i64 c, .int .i64 bo, .int .i64 fr, .int .i64 tr, .int .i64 ag, .slice X ks.length cp] 26)).alloc (.cells #[.int .i64 job, .int .i64 x1, .int .i64 x2, .int .i64 x3, .int .i64 x4, .int .i64 x5, .int .i64 x6, .bool t1, .bool t2, .bool t3, .int .u8 2, .int .i64 tt, .int .i64 si] 37)).alloc (.cells #[.int .i64 0, .int .i64 0, .int .i64 0, .int .i64 0, .int .i64 0, .int .i64 0, .int .i64 0, .bool false, .bool false, .bool false, .int .u8 0, .int .i64 0, .int .i64 0] 37)) := below_alloc (below_alloc (below_alloc (Below.refl _ _)))
  generalize hW0 : (((w.alloc (.cells #[.int .i64 a, .int .i64 b, .int .i64 c, .int .i64 bo, .int .i64 fr, .int .i64 tr, .int .i64 ag, .slice X ks.length cp] 26)).alloc (.cells #[.int .i64 job, .int .i64 x1, .int .i64 x2, .int .i64 x3, .int .i64 x4, .int .i64 x5, .int .i64 x6, .bool t1, .bool t2, .bool t3, .int .u8 2, .int .i64 tt, .int .i64 si] 37)).alloc (.cells #[.int .i64 0, .int .i64 0, .int .i64 0, .int .i64 0, .int .i64 0, .int .i64 0, .int .i64 0, .bool false, .bool false, .bool false, .int .u8 0, .int .i64 0, .int .i64 0] 37)) = W0 at *
  clear hW0
  have p0 : W0.cell? ⟨w.heap.size + 1, 0, none⟩ = some (.int .i64 job) := kp.cell 0
  have q0 : W0.frozen? ⟨w.heap.size + 1, 0, none⟩ = false := kp.frozen 0
  have p1 : W0.cell? ⟨w.heap.size + 1, 1, none⟩ = some (.int .i64 x1) := kp.cell 1
  have q1 : W0.frozen? ⟨w.heap.size + 1, 1, none⟩ = false := kp.frozen 1
  have p2 : W0.cell? ⟨w.heap.size + 1, 2, none⟩ = some (.int .i64 x2) := kp.cell 2
  have q2 : W0.frozen? ⟨w.heap.size + 1, 2, none⟩ = false := kp.frozen 2
  have p3 : W0.cell? ⟨w.heap.size + 1, 3, none⟩ = some (.int .i64 x3) := kp.cell 3
  have q3 : W0.frozen? ⟨w.heap.size + 1, 3, none⟩ = false := kp.frozen 3
  have p4 : W0.cell? ⟨w.heap.size + 1, 4, none⟩ = some (.int .i64 x4) := kp.cell 4
  have q4 : W0.frozen? ⟨w.heap.size + 1, 4, none⟩ = false := kp.frozen 4
  have p5 : W0.cell? ⟨w.heap.size + 1, 5, none⟩ = some (.int .i64 x5) := kp.cell 5
  have q5 : W0.frozen? ⟨w.heap.size + 1, 5, none⟩ = false := kp.frozen 5
  have p6 : W0.cell? ⟨w.heap.size + 1, 6, none⟩ = some (.int .i64 x6) := kp.cell 6
  have q6 : W0.frozen? ⟨w.heap.size + 1, 6, none⟩ = false := kp.frozen 6
  have p7 : W0.cell? ⟨w.heap.size + 1, 7, none⟩ = some (.bool t1) := kp.cell 7
  have q7 : W0.frozen? ⟨w.heap.size + 1, 7, none⟩ = false := kp.frozen 7
  have p8 : W0.cell? ⟨w.heap.size + 1, 8, none⟩ = some (.bool t2) := kp.cell 8
  have q8 : W0.frozen? ⟨w.heap.size + 1, 8, none⟩ = false := kp.frozen 8
  have p9 : W0.cell? ⟨w.heap.size + 1, 9, none⟩ = some (.bool t3) := kp.cell 9
  have q9 : W0.frozen? ⟨w.heap.size + 1, 9, none⟩ = false := kp.frozen 9
  have p10 : W0.cell? ⟨w.heap.size + 1, 10, none⟩ = some (.int .u8 2) := kp.cell 10
  have q10 : W0.frozen? ⟨w.heap.size + 1, 10, none⟩ = false := kp.frozen 10
  have p11 : W0.cell? ⟨w.heap.size + 1, 11, none⟩ = some (.int .i64 tt) := kp.cell 11
  have q11 : W0.frozen? ⟨w.heap.size + 1, 11, none⟩ = false := kp.frozen 11
  have p12 : W0.cell? ⟨w.heap.size + 1, 12, none⟩ = some (.int .i64 si) := kp.cell 12
  have q12 : W0.frozen? ⟨w.heap.size + 1, 12, none⟩ = false := kp.frozen 12
  have hz1 : w.heap.size + 1 < W0.heap.size := kp.lt
  have hz2 : w.heap.size + 1 + 1 < W0.heap.size := kr.lt
  have KR := Lib.hid kr
  have HB0 := Lib.hid hb0
  clear kd kp kr hb0
  go_wp2_with fail
  refine (freed_any job x1 x2 x3 x4 x5 x6 t1 t2 t3 2 tt si now _).mono ?_
  rintro e w1 ⟨rfl, hB1⟩
  have kr := KR.out.below hB1 hz2
  have hb1 := below_up HB0.out hB1
  have KR1 := Lib.hid kr
  have HB1 := Lib.hid hb1
  have hy2 : w.heap.size + 1 + 1 < w1.heap.size := kr.lt
  clear hB1 hb1
  have m0 : w1.cell? ⟨w.heap.size + 1 + 1, 0, none⟩ = some (.int .i64 0) := kr.cell 0
  have n0 : w1.frozen? ⟨w.heap.size + 1 + 1, 0, none⟩ = false := kr.frozen 0
  have m1 : w1.cell? ⟨w.heap.size + 1 + 1, 1, none⟩ = some (.int .i64 0) := kr.cell 1
  have n1 : w1.frozen? ⟨w.heap.size + 1 + 1, 1, none⟩ = false := kr.frozen 1
  have m2 : w1.cell? ⟨w.heap.size + 1 + 1, 2, none⟩ = some (.int .i64 0) := kr.cell 2
  have n2 : w1.frozen? ⟨w.heap.size + 1 + 1, 2, none⟩ = false := kr.frozen 2
  have m3 : w1.cell? ⟨w.heap.size + 1 + 1, 3, none⟩ = some (.int .i64 0) := kr.cell 3
  have n3 : w1.frozen? ⟨w.heap.size + 1 + 1, 3, none⟩ = false := kr.frozen 3
  have m4 : w1.cell? ⟨w.heap.size + 1 + 1, 4, none⟩ = some (.int .i64 0) := kr.cell 4
  have n4 : w1.frozen? ⟨w.heap.size + 1 + 1, 4, none⟩ = false := kr.frozen 4
  have m5 : w1.cell? ⟨w.heap.size + 1 + 1, 5, none⟩ = some (.int .i64 0) := kr.cell 5
  have n5 : w1.frozen? ⟨w.heap.size + 1 + 1, 5, none⟩ = false := kr.frozen 5
  have m6 : w1.cell? ⟨w.heap.size + 1 + 1, 6, none⟩ = some (.int .i64 0) := kr.cell 6
  have n6 : w1.frozen? ⟨w.heap.size + 1 + 1, 6, none⟩ = false := kr.frozen 6
  have m7 : w1.cell? ⟨w.heap.size + 1 + 1, 7, none⟩ = some (.bool false) := kr.cell 7
  have n7 : w1.frozen? ⟨w.heap.size + 1 + 1, 7, none⟩ = false := kr.frozen 7
  have m8 : w1.cell? ⟨w.heap.size + 1 + 1, 8, none⟩ = some (.bool false) := kr.cell 8
  have n8 : w1.frozen? ⟨w.heap.size + 1 + 1, 8, none⟩ = false := kr.frozen 8
  have m9 : w1.cell? ⟨w.heap.size + 1 + 1, 9, none⟩ = some (.bool false) := kr.cell 9
  have n9 : w1.frozen? ⟨w.heap.size + 1 + 1, 9, none⟩ = false := kr.frozen 9
  have m10 : w1.cell? ⟨w.heap.size + 1 + 1, 10, none⟩ = some (.int .u8 0) := kr.cell 10
  have n10 : w1.frozen? ⟨w.heap.size + 1 + 1, 10, none⟩ = false := kr.frozen 10
  have m11 : w1.cell? ⟨w.heap.size + 1 + 1, 11, none⟩ = some (.int .i64 0) := kr.cell 11
  have n11 : w1.frozen? ⟨w.heap.size + 1 + 1, 11, none⟩ = false := kr.frozen 11
  have m12 : w1.cell? ⟨w.heap.size + 1 + 1, 12, none⟩ = some (.int .i64 0) := kr.cell 12
  have n12 : w1.frozen? ⟨w.heap.size + 1 + 1, 12, none⟩ = false := kr.frozen 12
  clear kr
  go_wp2_with fail
  have hs13 := store13 (w := w) (g := w.heap.size + 1 + 1) HB1.out (by omega) KR1.out (.int .i64 job) (.int .i64 x1) (.int .i64 x2) (.int .i64 x3) (.int .i64 x4) (.int .i64 x5) (.int .i64 x6) (.bool t1) (.bool t2) (.bool t3) (.int .u8 3) (.int .i64 tt) (.int .i64 now)
  refine bodyPost_ret (v := .tuple #[.agg #[.int .i64 job, .int .i64 x1, .int .i64 x2, .int .i64 x3, .int .i64 x4, .int .i64 x5, .int .i64 x6, .bool t1, .bool t2, .bool t3, .int .u8 3, .int .i64 tt, .int .i64 now], .int .u8 4, .bool false, .bool true]) ?_ rfl ?_
  · exact res_turned _ _ (w.heap.size + 1 + 1) (.int .i64 job) (.int .i64 x1) (.int .i64 x2) (.int .i64 x3) (.int .i64 x4) (.int .i64 x5) (.int .i64 x6) (.bool t1) (.bool t2) (.bool t3) (.int .u8 3) (.int .i64 tt) (.int .i64 now) (.int .u8 4) (.bool false) (.bool true) rfl rfl rfl rfl hs13.2
  · exact ⟨rfl, hs13.1⟩
end Go.Proofs.Ytfndopemfhmhgaa.PartRef
