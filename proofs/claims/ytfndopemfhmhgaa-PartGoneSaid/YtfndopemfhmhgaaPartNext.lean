/- The contract of part.Next: a partition behind a turn. -/
import Derived.Test.YtfndopemfhmhgaaPartEnds
import Derived.Test.YtfndopemfhmhgaaPartTable
import Derived.Deep.RegionWith
import Derived.Deep.DeepCutAuto
import Derived.Deep.RegionHeld3
import Derived.Test.YtfndopemfhmhgaaRound
namespace Go.Proofs.Ytfndopemfhmhgaa.PartNext
open Go.RowKit Mem PosMath PosCheck PartMath PartClass PartCheck PartEnds PartTable Round
set_option linter.unusedVariables false

/-- What part.Next answers, of a cell of the table. -/
def NextIs (turn qp qj : Int) (qs qg : Bool) (job x1 x2 x3 x4 x5 x6 : Int) (t1 t2 t3 : Bool) (ph tt si : Int) (tr now : Int) (R : Array Value) (j : Int) (g : Bool) (e : Int) : Prop :=
  (qp = 0 ∧ R = #[.int .i64 0, .int .i64 0, .int .i64 0, .int .i64 0, .int .i64 0, .int .i64 0, .int .i64 0, .bool false, .bool false, .bool false, .int .u8 0, .int .i64 0, .int .i64 0] ∧ j = 0 ∧ g = false ∧ e = 250) ∨
  (qp = 3 ∧ qg = true ∧ R = #[.int .i64 0, .int .i64 0, .int .i64 0, .int .i64 0, .int .i64 0, .int .i64 0, .int .i64 0, .bool false, .bool false, .bool false, .int .u8 0, .int .i64 0, .int .i64 0] ∧ j = 0 ∧ g = true ∧ e = 0) ∨
  (qp = 3 ∧ qg = false ∧ qs = true ∧ R = #[.int .i64 job, .int .i64 x1, .int .i64 x2, .int .i64 x3, .int .i64 x4, .int .i64 x5, .int .i64 x6, .bool t1, .bool t2, .bool t3, .int .u8 ph, .int .i64 tt, .int .i64 si] ∧ j = 0 ∧ g = false ∧ e = 0) ∨
  (1 ≤ qp ∧ qg = false ∧ qs = false ∧ turn ≠ 2 ∧ R = #[.int .i64 job, .int .i64 x1, .int .i64 x2, .int .i64 x3, .int .i64 x4, .int .i64 x5, .int .i64 x6, .bool t1, .bool t2, .bool t3, .int .u8 qp, .int .i64 tt, .int .i64 now] ∧ j = qj ∧ g = false ∧ e = 0) ∨
  (qp = 1 ∧ qj = 0 ∧ qg = false ∧ qs = false ∧ turn = 2 ∧ tt < tr ∧ R = #[.int .i64 job, .int .i64 x1, .int .i64 x2, .int .i64 x3, .int .i64 x4, .int .i64 x5, .int .i64 x6, .bool t1, .bool t2, .bool t3, .int .u8 1, .int .i64 (tt + 1), .int .i64 now] ∧ j = 0 ∧ g = false ∧ e = 0) ∨
  (qp = 1 ∧ qj = 0 ∧ qg = false ∧ qs = false ∧ turn = 2 ∧ tt = tr ∧ R = #[.int .i64 job, .int .i64 x1, .int .i64 x2, .int .i64 x3, .int .i64 x4, .int .i64 x5, .int .i64 x6, .bool t1, .bool t2, .bool t3, .int .u8 3, .int .i64 tr, .int .i64 now] ∧ j = 6 ∧ g = false ∧ e = 0)
theorem below_of_drew {W w2 : World} (h : Below W.drew.heap.size W.drew w2) : Below W.heap.size W w2 := ⟨h.os, h.tape, h.output, h.size, h.block⟩
theorem res_next (tmps : Array Value) (W : World) (g : Nat) (v0 v1 v2 v3 v4 v5 v6 v7 v8 v9 v10 v11 v12 j gg e : Value) (h8 : tmps[8]?.getD undef = .pointer (some ⟨g, 0, none⟩)) (h9 : tmps[9]?.getD undef = j) (h10 : tmps[10]?.getD undef = gg) (h11 : tmps[11]?.getD undef = e)
    (hb : Blk W g 37 #[v0, v1, v2, v3, v4, v5, v6, v7, v8, v9, v10, v11, v12]) : (results Try.f11 tmps).run Try.prog W = .ok (.tuple #[.agg #[v0, v1, v2, v3, v4, v5, v6, v7, v8, v9, v10, v11, v12], j, gg, e]) W := by
  have c0 := hb.cell 0
  have c1 := hb.cell 1
  have c2 := hb.cell 2
  have c3 := hb.cell 3
  have c4 := hb.cell 4
  have c5 := hb.cell 5
  have c6 := hb.cell 6
  have c7 := hb.cell 7
  have c8 := hb.cell 8
  have c9 := hb.cell 9
  have c10 := hb.cell 10
  have c11 := hb.cell 11
  have c12 := hb.cell 12
  simp at c0 c1 c2 c3 c4 c5 c6 c7 c8 c9 c10 c11 c12
  simp [results, Try.f11, go_sem, h8, h9, h10, h11, c0, c1, c2, c3, c4, c5, c6, c7, c8, c9, c10, c11, c12]
theorem store13 {w W : World} {g : Nat} {t : TypeId} {a0 a1 a2 a3 a4 a5 a6 a7 a8 a9 a10 a11 a12 : Value} (hB : Below w.heap.size w W) (hg : w.heap.size ≤ g) (hb : Blk W g t #[a0, a1, a2, a3, a4, a5, a6, a7, a8, a9, a10, a11, a12]) (v0 v1 v2 v3 v4 v5 v6 v7 v8 v9 v10 v11 v12 : Value) :
    Below w.heap.size w (((((((((((((W.setCell ⟨g, 0, none⟩ v0).setCell ⟨g, 1, none⟩ v1).setCell ⟨g, 2, none⟩ v2).setCell ⟨g, 3, none⟩ v3).setCell ⟨g, 4, none⟩ v4).setCell ⟨g, 5, none⟩ v5).setCell ⟨g, 6, none⟩ v6).setCell ⟨g, 7, none⟩ v7).setCell ⟨g, 8, none⟩ v8).setCell ⟨g, 9, none⟩ v9).setCell ⟨g, 10, none⟩ v10).setCell ⟨g, 11, none⟩ v11).setCell ⟨g, 12, none⟩ v12) ∧
    Blk (((((((((((((W.setCell ⟨g, 0, none⟩ v0).setCell ⟨g, 1, none⟩ v1).setCell ⟨g, 2, none⟩ v2).setCell ⟨g, 3, none⟩ v3).setCell ⟨g, 4, none⟩ v4).setCell ⟨g, 5, none⟩ v5).setCell ⟨g, 6, none⟩ v6).setCell ⟨g, 7, none⟩ v7).setCell ⟨g, 8, none⟩ v8).setCell ⟨g, 9, none⟩ v9).setCell ⟨g, 10, none⟩ v10).setCell ⟨g, 11, none⟩ v11).setCell ⟨g, 12, none⟩ v12) g t #[v0, v1, v2, v3, v4, v5, v6, v7, v8, v9, v10, v11, v12] := by
  refine ⟨(((((((((((((hB.setCell (p := ⟨g, 0, none⟩) hg _).setCell (p := ⟨g, 1, none⟩) hg _).setCell (p := ⟨g, 2, none⟩) hg _).setCell (p := ⟨g, 3, none⟩) hg _).setCell (p := ⟨g, 4, none⟩) hg _).setCell (p := ⟨g, 5, none⟩) hg _).setCell (p := ⟨g, 6, none⟩) hg _).setCell (p := ⟨g, 7, none⟩) hg _).setCell (p := ⟨g, 8, none⟩) hg _).setCell (p := ⟨g, 9, none⟩) hg _).setCell (p := ⟨g, 10, none⟩) hg _).setCell (p := ⟨g, 11, none⟩) hg _).setCell (p := ⟨g, 12, none⟩) hg _), ?_⟩
  have h := (((((((((((((hb.set_ 0 v0).set_ 1 v1).set_ 2 v2).set_ 3 v3).set_ 4 v4).set_ 5 v5).set_ 6 v6).set_ 7 v7).set_ 8 v8).set_ 9 v9).set_ 10 v10).set_ 11 v11).set_ 12 v12)
  simpa only [List.setIfInBounds_toArray, List.set_cons_zero, List.set_cons_succ] using h
set_option maxRecDepth 100000 in
set_option maxHeartbeats 2000000 in
theorem next_bad (a b c bo fr tr ag : Int) (X : Option Addr) (cp : Nat) (ks : List Cls) (hl : ks.length ≤ 9223372036854775807) (job x1 x2 x3 x4 x5 x6 : Int) (t1 t2 t3 : Bool) (ph tt si : Int) (turn now : Int) (h : ¬ (CfgOk a b c bo fr tr ag ks ∧ PartOk job ph tt si tr)) (w : World) (hk : ClsAt w w.heap.size X ks) :
    Calls Try.prog 11 #[.agg #[.int .i64 a, .int .i64 b, .int .i64 c, .int .i64 bo, .int .i64 fr, .int .i64 tr, .int .i64 ag, .slice X ks.length cp], .agg #[.int .i64 job, .int .i64 x1, .int .i64 x2, .int .i64 x3, .int .i64 x4, .int .i64 x5, .int .i64 x6, .bool t1, .bool t2, .bool t3, .int .u8 ph, .int .i64 tt, .int .i64 si], .int .u8 turn, .int .i64 now] w (fun e w' => e = .returned (.tuple #[.agg #[.int .i64 0, .int .i64 0, .int .i64 0, .int .i64 0, .int .i64 0, .int .i64 0, .int .i64 0, .bool false, .bool false, .bool false, .int .u8 0, .int .i64 0, .int .i64 0], .int .u8 0, .bool false, .int .i64 8]) ∧ Below w.heap.size w w') := by
  have HKK := Lib.hid hk
  clear hk
  have Hh := Lib.hid h
  clear h
  go_enter Try.func11, Try.ntmps11
  go_wp2_with fail
  refine (pc_bad a b c bo fr tr ag X cp ks hl job x1 x2 x3 x4 x5 x6 t1 t2 t3 ph tt si Hh.out _ (HKK.out.up (below_alloc (below_alloc (below_alloc (Below.refl _ _)))))).mono ?_
  rintro e w1 ⟨rfl, hB1⟩
  have kd : Blk w1 w.heap.size 26 #[.int .i64 a, .int .i64 b, .int .i64 c, .int .i64 bo, .int .i64 fr, .int .i64 tr, .int .i64 ag, .slice X ks.length cp] := (((Blk.new w _ _).alloc _).alloc _).below hB1 (by simp; omega)
  have kp : Blk w1 (w.heap.size + 1) 37 #[.int .i64 job, .int .i64 x1, .int .i64 x2, .int .i64 x3, .int .i64 x4, .int .i64 x5, .int .i64 x6, .bool t1, .bool t2, .bool t3, .int .u8 ph, .int .i64 tt, .int .i64 si] := ((blk1 w _ _).alloc _).below hB1 (by simp)
  have kr : Blk w1 (w.heap.size + 1 + 1) 37 #[.int .i64 0, .int .i64 0, .int .i64 0, .int .i64 0, .int .i64 0, .int .i64 0, .int .i64 0, .bool false, .bool false, .bool false, .int .u8 0, .int .i64 0, .int .i64 0] := (blk2 w _ _).below hB1 (by simp)
  have hb1 : Below w.heap.size w w1 := below_up (below_alloc (below_alloc (below_alloc (Below.refl _ _)))) hB1
  have HB1 := Lib.hid hb1
  have KR := Lib.hid kr
  have p12 : w1.cell? ⟨w.heap.size + 1, 12, none⟩ = some (.int .i64 si) := kp.cell 12
  have m0 : w1.cell? ⟨w.heap.size + 1 + 1, 0, none⟩ = some (.int .i64 0) := kr.cell 0
  have n0 : w1.frozen? ⟨w.heap.size + 1 + 1, 0, none⟩ = false := kr.frozen 0
  have m1 : w1.cell? ⟨w.heap.size + 1 + 1, 1, none⟩ = some (.int .i64 0) := kr.cell 1
  have n1 : w1.frozen? ⟨w.heap.size + 1 + 1, 1, none⟩ = false := kr.frozen 1
  have m2 : w1.cell? ⟨w.heap.size + 1 + 1, 2, none⟩ = some (.int .i64 0) := kr.cell 2
  have n2 : w1.frozen? ⟨w.heap.size + 1 + 1, 2, none⟩ = false := kr.frozen 2
  have m3 : w1.cell? ⟨w.heap.size + 1 + 1, 3, none⟩ = some (.int .i64 0) := kr.cell 3
  have n3 : w1.frozen? ⟨w.heap.size + 1 + 1, 3, none⟩ = false := kr.frozen 3
  have m4 : w1.cell? ⟨w.heap.size + 1 + 1, 4, none⟩ = some (.int .i64 0) := kr.cell 4
  have n4 : w1.frozen? ⟨w.heap.size + 1 + 1, 4, none⟩ = false := kr.frozen 4
  have m5 : w1.cell? ⟨w.heap.size + 1 + 1, 5, none⟩ = some (.int .i64 0) := kr.cell 5
  have n5 : w1.frozen? ⟨w.heap.size + 1 + 1, 5, none⟩ = false := kr.frozen 5
  have m6 : w1.cell? ⟨w.heap.size + 1 + 1, 6, none⟩ = some (.int .i64 0) := kr.cell 6
  have n6 : w1.frozen? ⟨w.heap.size + 1 + 1, 6, none⟩ = false := kr.frozen 6
  have m7 : w1.cell? ⟨w.heap.size + 1 + 1, 7, none⟩ = some (.bool false) := kr.cell 7
  have n7 : w1.frozen? ⟨w.heap.size + 1 + 1, 7, none⟩ = false := kr.frozen 7
  have m8 : w1.cell? ⟨w.heap.size + 1 + 1, 8, none⟩ = some (.bool false) := kr.cell 8
  have n8 : w1.frozen? ⟨w.heap.size + 1 + 1, 8, none⟩ = false := kr.frozen 8
  have m9 : w1.cell? ⟨w.heap.size + 1 + 1, 9, none⟩ = some (.bool false) := kr.cell 9
  have n9 : w1.frozen? ⟨w.heap.size + 1 + 1, 9, none⟩ = false := kr.frozen 9
  have m10 : w1.cell? ⟨w.heap.size + 1 + 1, 10, none⟩ = some (.int .u8 0) := kr.cell 10
  have n10 : w1.frozen? ⟨w.heap.size + 1 + 1, 10, none⟩ = false := kr.frozen 10
  have m11 : w1.cell? ⟨w.heap.size + 1 + 1, 11, none⟩ = some (.int .i64 0) := kr.cell 11
  have n11 : w1.frozen? ⟨w.heap.size + 1 + 1, 11, none⟩ = false := kr.frozen 11
  have m12 : w1.cell? ⟨w.heap.size + 1 + 1, 12, none⟩ = some (.int .i64 0) := kr.cell 12
  have n12 : w1.frozen? ⟨w.heap.size + 1 + 1, 12, none⟩ = false := kr.frozen 12
  clear hB1 hb1 kd kp kr
  go_wp2_with fail
  have b2 := (((((((((((((KR.out.set_ 0 (.int .i64 0)).set_ 1 (.int .i64 0)).set_ 2 (.int .i64 0)).set_ 3 (.int .i64 0)).set_ 4 (.int .i64 0)).set_ 5 (.int .i64 0)).set_ 6 (.int .i64 0)).set_ 7 (.bool false)).set_ 8 (.bool false)).set_ 9 (.bool false)).set_ 10 (.int .u8 0)).set_ 11 (.int .i64 0)).set_ 12 (.int .i64 0))
  have e0 := b2.cell 0
  have e1 := b2.cell 1
  have e2 := b2.cell 2
  have e3 := b2.cell 3
  have e4 := b2.cell 4
  have e5 := b2.cell 5
  have e6 := b2.cell 6
  have e7 := b2.cell 7
  have e8 := b2.cell 8
  have e9 := b2.cell 9
  have e10 := b2.cell 10
  have e11 := b2.cell 11
  have e12 := b2.cell 12
  simp at e0 e1 e2 e3 e4 e5 e6 e7 e8 e9 e10 e11 e12
  exact bodyPost_ret (v := .tuple #[.agg #[.int .i64 0, .int .i64 0, .int .i64 0, .int .i64 0, .int .i64 0, .int .i64 0, .int .i64 0, .bool false, .bool false, .bool false, .int .u8 0, .int .i64 0, .int .i64 0], .int .u8 0, .bool false, .int .i64 8]) (by simp [results, Try.results11, go_sem, e0, e1, e2, e3, e4, e5, e6, e7, e8, e9, e10, e11, e12]) rfl ⟨rfl, (((((((((((((HB1.out.setCell (p := ⟨w.heap.size + 1 + 1, 0, none⟩) (by simp; omega) _).setCell (p := ⟨w.heap.size + 1 + 1, 1, none⟩) (by simp; omega) _).setCell (p := ⟨w.heap.size + 1 + 1, 2, none⟩) (by simp; omega) _).setCell (p := ⟨w.heap.size + 1 + 1, 3, none⟩) (by simp; omega) _).setCell (p := ⟨w.heap.size + 1 + 1, 4, none⟩) (by simp; omega) _).setCell (p := ⟨w.heap.size + 1 + 1, 5, none⟩) (by simp; omega) _).setCell (p := ⟨w.heap.size + 1 + 1, 6, none⟩) (by simp; omega) _).setCell (p := ⟨w.heap.size + 1 + 1, 7, none⟩) (by simp; omega) _).setCell (p := ⟨w.heap.size + 1 + 1, 8, none⟩) (by simp; omega) _).setCell (p := ⟨w.heap.size + 1 + 1, 9, none⟩) (by simp; omega) _).setCell (p := ⟨w.heap.size + 1 + 1, 10, none⟩) (by simp; omega) _).setCell (p := ⟨w.heap.size + 1 + 1, 11, none⟩) (by simp; omega) _).setCell (p := ⟨w.heap.size + 1 + 1, 12, none⟩) (by simp; omega) _)⟩
set_option maxRecDepth 100000 in
set_option maxHeartbeats 2000000 in
theorem next_lo (a b c bo fr tr ag : Int) (X : Option Addr) (cp : Nat) (ks : List Cls) (hl : ks.length ≤ 9223372036854775807) (job x1 x2 x3 x4 x5 x6 : Int) (t1 t2 t3 : Bool) (ph tt si : Int) (turn now : Int) (h : CfgOk a b c bo fr tr ag ks) (hp : PartOk job ph tt si tr) (h1 : turn < 1) (w : World) (hk : ClsAt w w.heap.size X ks) :
    Calls Try.prog 11 #[.agg #[.int .i64 a, .int .i64 b, .int .i64 c, .int .i64 bo, .int .i64 fr, .int .i64 tr, .int .i64 ag, .slice X ks.length cp], .agg #[.int .i64 job, .int .i64 x1, .int .i64 x2, .int .i64 x3, .int .i64 x4, .int .i64 x5, .int .i64 x6, .bool t1, .bool t2, .bool t3, .int .u8 ph, .int .i64 tt, .int .i64 si], .int .u8 turn, .int .i64 now] w (fun e w' => e = .returned (.tuple #[.agg #[.int .i64 0, .int .i64 0, .int .i64 0, .int .i64 0, .int .i64 0, .int .i64 0, .int .i64 0, .bool false, .bool false, .bool false, .int .u8 0, .int .i64 0, .int .i64 0], .int .u8 0, .bool false, .int .i64 2]) ∧ Below w.heap.size w w') := by
  have HKK := Lib.hid hk
  clear hk
  have Hh := Lib.hid h
  clear h
  have Hhp := Lib.hid hp
  clear hp
  go_enter Try.func11, Try.ntmps11
  go_wp2_with fail
  refine (pc_ok a b c bo fr tr ag X cp ks hl job x1 x2 x3 x4 x5 x6 t1 t2 t3 ph tt si Hh.out Hhp.out _ (HKK.out.up (below_alloc (below_alloc (below_alloc (Below.refl _ _)))))).mono ?_
  rintro e w1 ⟨rfl, hB1⟩
  have kd : Blk w1 w.heap.size 26 #[.int .i64 a, .int .i64 b, .int .i64 c, .int .i64 bo, .int .i64 fr, .int .i64 tr, .int .i64 ag, .slice X ks.length cp] := (((Blk.new w _ _).alloc _).alloc _).below hB1 (by simp; omega)
  have kp : Blk w1 (w.heap.size + 1) 37 #[.int .i64 job, .int .i64 x1, .int .i64 x2, .int .i64 x3, .int .i64 x4, .int .i64 x5, .int .i64 x6, .bool t1, .bool t2, .bool t3, .int .u8 ph, .int .i64 tt, .int .i64 si] := ((blk1 w _ _).alloc _).below hB1 (by simp)
  have kr : Blk w1 (w.heap.size + 1 + 1) 37 #[.int .i64 0, .int .i64 0, .int .i64 0, .int .i64 0, .int .i64 0, .int .i64 0, .int .i64 0, .bool false, .bool false, .bool false, .int .u8 0, .int .i64 0, .int .i64 0] := (blk2 w _ _).below hB1 (by simp)
  have hb1 : Below w.heap.size w w1 := below_up (below_alloc (below_alloc (below_alloc (Below.refl _ _)))) hB1
  have HB1 := Lib.hid hb1
  have KR := Lib.hid kr
  have p12 : w1.cell? ⟨w.heap.size + 1, 12, none⟩ = some (.int .i64 si) := kp.cell 12
  have m0 : w1.cell? ⟨w.heap.size + 1 + 1, 0, none⟩ = some (.int .i64 0) := kr.cell 0
  have n0 : w1.frozen? ⟨w.heap.size + 1 + 1, 0, none⟩ = false := kr.frozen 0
  have m1 : w1.cell? ⟨w.heap.size + 1 + 1, 1, none⟩ = some (.int .i64 0) := kr.cell 1
  have n1 : w1.frozen? ⟨w.heap.size + 1 + 1, 1, none⟩ = false := kr.frozen 1
  have m2 : w1.cell? ⟨w.heap.size + 1 + 1, 2, none⟩ = some (.int .i64 0) := kr.cell 2
  have n2 : w1.frozen? ⟨w.heap.size + 1 + 1, 2, none⟩ = false := kr.frozen 2
  have m3 : w1.cell? ⟨w.heap.size + 1 + 1, 3, none⟩ = some (.int .i64 0) := kr.cell 3
  have n3 : w1.frozen? ⟨w.heap.size + 1 + 1, 3, none⟩ = false := kr.frozen 3
  have m4 : w1.cell? ⟨w.heap.size + 1 + 1, 4, none⟩ = some (.int .i64 0) := kr.cell 4
  have n4 : w1.frozen? ⟨w.heap.size + 1 + 1, 4, none⟩ = false := kr.frozen 4
  have m5 : w1.cell? ⟨w.heap.size + 1 + 1, 5, none⟩ = some (.int .i64 0) := kr.cell 5
  have n5 : w1.frozen? ⟨w.heap.size + 1 + 1, 5, none⟩ = false := kr.frozen 5
  have m6 : w1.cell? ⟨w.heap.size + 1 + 1, 6, none⟩ = some (.int .i64 0) := kr.cell 6
  have n6 : w1.frozen? ⟨w.heap.size + 1 + 1, 6, none⟩ = false := kr.frozen 6
  have m7 : w1.cell? ⟨w.heap.size + 1 + 1, 7, none⟩ = some (.bool false) := kr.cell 7
  have n7 : w1.frozen? ⟨w.heap.size + 1 + 1, 7, none⟩ = false := kr.frozen 7
  have m8 : w1.cell? ⟨w.heap.size + 1 + 1, 8, none⟩ = some (.bool false) := kr.cell 8
  have n8 : w1.frozen? ⟨w.heap.size + 1 + 1, 8, none⟩ = false := kr.frozen 8
  have m9 : w1.cell? ⟨w.heap.size + 1 + 1, 9, none⟩ = some (.bool false) := kr.cell 9
  have n9 : w1.frozen? ⟨w.heap.size + 1 + 1, 9, none⟩ = false := kr.frozen 9
  have m10 : w1.cell? ⟨w.heap.size + 1 + 1, 10, none⟩ = some (.int .u8 0) := kr.cell 10
  have n10 : w1.frozen? ⟨w.heap.size + 1 + 1, 10, none⟩ = false := kr.frozen 10
  have m11 : w1.cell? ⟨w.heap.size + 1 + 1, 11, none⟩ = some (.int .i64 0) := kr.cell 11
  have n11 : w1.frozen? ⟨w.heap.size + 1 + 1, 11, none⟩ = false := kr.frozen 11
  have m12 : w1.cell? ⟨w.heap.size + 1 + 1, 12, none⟩ = some (.int .i64 0) := kr.cell 12
  have n12 : w1.frozen? ⟨w.heap.size + 1 + 1, 12, none⟩ = false := kr.frozen 12
  clear hB1 hb1 kd kp kr
  go_wp2_with fail
  have b2 := (((((((((((((KR.out.set_ 0 (.int .i64 0)).set_ 1 (.int .i64 0)).set_ 2 (.int .i64 0)).set_ 3 (.int .i64 0)).set_ 4 (.int .i64 0)).set_ 5 (.int .i64 0)).set_ 6 (.int .i64 0)).set_ 7 (.bool false)).set_ 8 (.bool false)).set_ 9 (.bool false)).set_ 10 (.int .u8 0)).set_ 11 (.int .i64 0)).set_ 12 (.int .i64 0))
  have e0 := b2.cell 0
  have e1 := b2.cell 1
  have e2 := b2.cell 2
  have e3 := b2.cell 3
  have e4 := b2.cell 4
  have e5 := b2.cell 5
  have e6 := b2.cell 6
  have e7 := b2.cell 7
  have e8 := b2.cell 8
  have e9 := b2.cell 9
  have e10 := b2.cell 10
  have e11 := b2.cell 11
  have e12 := b2.cell 12
  simp at e0 e1 e2 e3 e4 e5 e6 e7 e8 e9 e10 e11 e12
  exact bodyPost_ret (v := .tuple #[.agg #[.int .i64 0, .int .i64 0, .int .i64 0, .int .i64 0, .int .i64 0, .int .i64 0, .int .i64 0, .bool false, .bool false, .bool false, .int .u8 0, .int .i64 0, .int .i64 0], .int .u8 0, .bool false, .int .i64 2]) (by simp [results, Try.results11, go_sem, e0, e1, e2, e3, e4, e5, e6, e7, e8, e9, e10, e11, e12]) rfl ⟨rfl, (((((((((((((HB1.out.setCell (p := ⟨w.heap.size + 1 + 1, 0, none⟩) (by simp; omega) _).setCell (p := ⟨w.heap.size + 1 + 1, 1, none⟩) (by simp; omega) _).setCell (p := ⟨w.heap.size + 1 + 1, 2, none⟩) (by simp; omega) _).setCell (p := ⟨w.heap.size + 1 + 1, 3, none⟩) (by simp; omega) _).setCell (p := ⟨w.heap.size + 1 + 1, 4, none⟩) (by simp; omega) _).setCell (p := ⟨w.heap.size + 1 + 1, 5, none⟩) (by simp; omega) _).setCell (p := ⟨w.heap.size + 1 + 1, 6, none⟩) (by simp; omega) _).setCell (p := ⟨w.heap.size + 1 + 1, 7, none⟩) (by simp; omega) _).setCell (p := ⟨w.heap.size + 1 + 1, 8, none⟩) (by simp; omega) _).setCell (p := ⟨w.heap.size + 1 + 1, 9, none⟩) (by simp; omega) _).setCell (p := ⟨w.heap.size + 1 + 1, 10, none⟩) (by simp; omega) _).setCell (p := ⟨w.heap.size + 1 + 1, 11, none⟩) (by simp; omega) _).setCell (p := ⟨w.heap.size + 1 + 1, 12, none⟩) (by simp; omega) _)⟩
set_option maxRecDepth 100000 in
set_option maxHeartbeats 2000000 in
theorem next_hi (a b c bo fr tr ag : Int) (X : Option Addr) (cp : Nat) (ks : List Cls) (hl : ks.length ≤ 9223372036854775807) (job x1 x2 x3 x4 x5 x6 : Int) (t1 t2 t3 : Bool) (ph tt si : Int) (turn now : Int) (h : CfgOk a b c bo fr tr ag ks) (hp : PartOk job ph tt si tr) (h0 : 1 ≤ turn) (h1 : 8 < turn) (w : World) (hk : ClsAt w w.heap.size X ks) :
    Calls Try.prog 11 #[.agg #[.int .i64 a, .int .i64 b, .int .i64 c, .int .i64 bo, .int .i64 fr, .int .i64 tr, .int .i64 ag, .slice X ks.length cp], .agg #[.int .i64 job, .int .i64 x1, .int .i64 x2, .int .i64 x3, .int .i64 x4, .int .i64 x5, .int .i64 x6, .bool t1, .bool t2, .bool t3, .int .u8 ph, .int .i64 tt, .int .i64 si], .int .u8 turn, .int .i64 now] w (fun e w' => e = .returned (.tuple #[.agg #[.int .i64 0, .int .i64 0, .int .i64 0, .int .i64 0, .int .i64 0, .int .i64 0, .int .i64 0, .bool false, .bool false, .bool false, .int .u8 0, .int .i64 0, .int .i64 0], .int .u8 0, .bool false, .int .i64 2]) ∧ Below w.heap.size w w') := by
  have HKK := Lib.hid hk
  clear hk
  have Hh := Lib.hid h
  clear h
  have Hhp := Lib.hid hp
  clear hp
  go_enter Try.func11, Try.ntmps11
  go_wp2_with fail
  refine (pc_ok a b c bo fr tr ag X cp ks hl job x1 x2 x3 x4 x5 x6 t1 t2 t3 ph tt si Hh.out Hhp.out _ (HKK.out.up (below_alloc (below_alloc (below_alloc (Below.refl _ _)))))).mono ?_
  rintro e w1 ⟨rfl, hB1⟩
  have kd : Blk w1 w.heap.size 26 #[.int .i64 a, .int .i64 b, .int .i64 c, .int .i64 bo, .int .i64 fr, .int .i64 tr, .int .i64 ag, .slice X ks.length cp] := (((Blk.new w _ _).alloc _).alloc _).below hB1 (by simp; omega)
  have kp : Blk w1 (w.heap.size + 1) 37 #[.int .i64 job, .int .i64 x1, .int .i64 x2, .int .i64 x3, .int .i64 x4, .int .i64 x5, .int .i64 x6, .bool t1, .bool t2, .bool t3, .int .u8 ph, .int .i64 tt, .int .i64 si] := ((blk1 w _ _).alloc _).below hB1 (by simp)
  have kr : Blk w1 (w.heap.size + 1 + 1) 37 #[.int .i64 0, .int .i64 0, .int .i64 0, .int .i64 0, .int .i64 0, .int .i64 0, .int .i64 0, .bool false, .bool false, .bool false, .int .u8 0, .int .i64 0, .int .i64 0] := (blk2 w _ _).below hB1 (by simp)
  have hb1 : Below w.heap.size w w1 := below_up (below_alloc (below_alloc (below_alloc (Below.refl _ _)))) hB1
  have HB1 := Lib.hid hb1
  have KR := Lib.hid kr
  have p12 : w1.cell? ⟨w.heap.size + 1, 12, none⟩ = some (.int .i64 si) := kp.cell 12
  have m0 : w1.cell? ⟨w.heap.size + 1 + 1, 0, none⟩ = some (.int .i64 0) := kr.cell 0
  have n0 : w1.frozen? ⟨w.heap.size + 1 + 1, 0, none⟩ = false := kr.frozen 0
  have m1 : w1.cell? ⟨w.heap.size + 1 + 1, 1, none⟩ = some (.int .i64 0) := kr.cell 1
  have n1 : w1.frozen? ⟨w.heap.size + 1 + 1, 1, none⟩ = false := kr.frozen 1
  have m2 : w1.cell? ⟨w.heap.size + 1 + 1, 2, none⟩ = some (.int .i64 0) := kr.cell 2
  have n2 : w1.frozen? ⟨w.heap.size + 1 + 1, 2, none⟩ = false := kr.frozen 2
  have m3 : w1.cell? ⟨w.heap.size + 1 + 1, 3, none⟩ = some (.int .i64 0) := kr.cell 3
  have n3 : w1.frozen? ⟨w.heap.size + 1 + 1, 3, none⟩ = false := kr.frozen 3
  have m4 : w1.cell? ⟨w.heap.size + 1 + 1, 4, none⟩ = some (.int .i64 0) := kr.cell 4
  have n4 : w1.frozen? ⟨w.heap.size + 1 + 1, 4, none⟩ = false := kr.frozen 4
  have m5 : w1.cell? ⟨w.heap.size + 1 + 1, 5, none⟩ = some (.int .i64 0) := kr.cell 5
  have n5 : w1.frozen? ⟨w.heap.size + 1 + 1, 5, none⟩ = false := kr.frozen 5
  have m6 : w1.cell? ⟨w.heap.size + 1 + 1, 6, none⟩ = some (.int .i64 0) := kr.cell 6
  have n6 : w1.frozen? ⟨w.heap.size + 1 + 1, 6, none⟩ = false := kr.frozen 6
  have m7 : w1.cell? ⟨w.heap.size + 1 + 1, 7, none⟩ = some (.bool false) := kr.cell 7
  have n7 : w1.frozen? ⟨w.heap.size + 1 + 1, 7, none⟩ = false := kr.frozen 7
  have m8 : w1.cell? ⟨w.heap.size + 1 + 1, 8, none⟩ = some (.bool false) := kr.cell 8
  have n8 : w1.frozen? ⟨w.heap.size + 1 + 1, 8, none⟩ = false := kr.frozen 8
  have m9 : w1.cell? ⟨w.heap.size + 1 + 1, 9, none⟩ = some (.bool false) := kr.cell 9
  have n9 : w1.frozen? ⟨w.heap.size + 1 + 1, 9, none⟩ = false := kr.frozen 9
  have m10 : w1.cell? ⟨w.heap.size + 1 + 1, 10, none⟩ = some (.int .u8 0) := kr.cell 10
  have n10 : w1.frozen? ⟨w.heap.size + 1 + 1, 10, none⟩ = false := kr.frozen 10
  have m11 : w1.cell? ⟨w.heap.size + 1 + 1, 11, none⟩ = some (.int .i64 0) := kr.cell 11
  have n11 : w1.frozen? ⟨w.heap.size + 1 + 1, 11, none⟩ = false := kr.frozen 11
  have m12 : w1.cell? ⟨w.heap.size + 1 + 1, 12, none⟩ = some (.int .i64 0) := kr.cell 12
  have n12 : w1.frozen? ⟨w.heap.size + 1 + 1, 12, none⟩ = false := kr.frozen 12
  clear hB1 hb1 kd kp kr
  go_wp2_with fail
  have b2 := (((((((((((((KR.out.set_ 0 (.int .i64 0)).set_ 1 (.int .i64 0)).set_ 2 (.int .i64 0)).set_ 3 (.int .i64 0)).set_ 4 (.int .i64 0)).set_ 5 (.int .i64 0)).set_ 6 (.int .i64 0)).set_ 7 (.bool false)).set_ 8 (.bool false)).set_ 9 (.bool false)).set_ 10 (.int .u8 0)).set_ 11 (.int .i64 0)).set_ 12 (.int .i64 0))
  have e0 := b2.cell 0
  have e1 := b2.cell 1
  have e2 := b2.cell 2
  have e3 := b2.cell 3
  have e4 := b2.cell 4
  have e5 := b2.cell 5
  have e6 := b2.cell 6
  have e7 := b2.cell 7
  have e8 := b2.cell 8
  have e9 := b2.cell 9
  have e10 := b2.cell 10
  have e11 := b2.cell 11
  have e12 := b2.cell 12
  simp at e0 e1 e2 e3 e4 e5 e6 e7 e8 e9 e10 e11 e12
  exact bodyPost_ret (v := .tuple #[.agg #[.int .i64 0, .int .i64 0, .int .i64 0, .int .i64 0, .int .i64 0, .int .i64 0, .int .i64 0, .bool false, .bool false, .bool false, .int .u8 0, .int .i64 0, .int .i64 0], .int .u8 0, .bool false, .int .i64 2]) (by simp [results, Try.results11, go_sem, e0, e1, e2, e3, e4, e5, e6, e7, e8, e9, e10, e11, e12]) rfl ⟨rfl, (((((((((((((HB1.out.setCell (p := ⟨w.heap.size + 1 + 1, 0, none⟩) (by simp; omega) _).setCell (p := ⟨w.heap.size + 1 + 1, 1, none⟩) (by simp; omega) _).setCell (p := ⟨w.heap.size + 1 + 1, 2, none⟩) (by simp; omega) _).setCell (p := ⟨w.heap.size + 1 + 1, 3, none⟩) (by simp; omega) _).setCell (p := ⟨w.heap.size + 1 + 1, 4, none⟩) (by simp; omega) _).setCell (p := ⟨w.heap.size + 1 + 1, 5, none⟩) (by simp; omega) _).setCell (p := ⟨w.heap.size + 1 + 1, 6, none⟩) (by simp; omega) _).setCell (p := ⟨w.heap.size + 1 + 1, 7, none⟩) (by simp; omega) _).setCell (p := ⟨w.heap.size + 1 + 1, 8, none⟩) (by simp; omega) _).setCell (p := ⟨w.heap.size + 1 + 1, 9, none⟩) (by simp; omega) _).setCell (p := ⟨w.heap.size + 1 + 1, 10, none⟩) (by simp; omega) _).setCell (p := ⟨w.heap.size + 1 + 1, 11, none⟩) (by simp; omega) _).setCell (p := ⟨w.heap.size + 1 + 1, 12, none⟩) (by simp; omega) _)⟩
set_option maxRecDepth 100000 in
set_option maxHeartbeats 2000000 in
theorem next_now (a b c bo fr tr ag : Int) (X : Option Addr) (cp : Nat) (ks : List Cls) (hl : ks.length ≤ 9223372036854775807) (job x1 x2 x3 x4 x5 x6 : Int) (t1 t2 t3 : Bool) (ph tt si : Int) (turn now : Int) (h : CfgOk a b c bo fr tr ag ks) (hp : PartOk job ph tt si tr) (h0 : 1 ≤ turn) (h1 : turn ≤ 8) (hN : inB now si 1099511627776 = false) (w : World) (hk : ClsAt w w.heap.size X ks) :
    Calls Try.prog 11 #[.agg #[.int .i64 a, .int .i64 b, .int .i64 c, .int .i64 bo, .int .i64 fr, .int .i64 tr, .int .i64 ag, .slice X ks.length cp], .agg #[.int .i64 job, .int .i64 x1, .int .i64 x2, .int .i64 x3, .int .i64 x4, .int .i64 x5, .int .i64 x6, .bool t1, .bool t2, .bool t3, .int .u8 ph, .int .i64 tt, .int .i64 si], .int .u8 turn, .int .i64 now] w (fun e w' => e = .returned (.tuple #[.agg #[.int .i64 0, .int .i64 0, .int .i64 0, .int .i64 0, .int .i64 0, .int .i64 0, .int .i64 0, .bool false, .bool false, .bool false, .int .u8 0, .int .i64 0, .int .i64 0], .int .u8 0, .bool false, .int .i64 2]) ∧ Below w.heap.size w w') := by
  have HKK := Lib.hid hk
  clear hk
  have Hh := Lib.hid h
  clear h
  have Hhp := Lib.hid hp
  clear hp
  have HhN := Lib.hid hN
  clear hN
  go_enter Try.func11, Try.ntmps11
  go_wp2_with fail
  refine (pc_ok a b c bo fr tr ag X cp ks hl job x1 x2 x3 x4 x5 x6 t1 t2 t3 ph tt si Hh.out Hhp.out _ (HKK.out.up (below_alloc (below_alloc (below_alloc (Below.refl _ _)))))).mono ?_
  rintro e w1 ⟨rfl, hB1⟩
  have kd : Blk w1 w.heap.size 26 #[.int .i64 a, .int .i64 b, .int .i64 c, .int .i64 bo, .int .i64 fr, .int .i64 tr, .int .i64 ag, .slice X ks.length cp] := (((Blk.new w _ _).alloc _).alloc _).below hB1 (by simp; omega)
  have kp : Blk w1 (w.heap.size + 1) 37 #[.int .i64 job, .int .i64 x1, .int .i64 x2, .int .i64 x3, .int .i64 x4, .int .i64 x5, .int .i64 x6, .bool t1, .bool t2, .bool t3, .int .u8 ph, .int .i64 tt, .int .i64 si] := ((blk1 w _ _).alloc _).below hB1 (by simp)
  have kr : Blk w1 (w.heap.size + 1 + 1) 37 #[.int .i64 0, .int .i64 0, .int .i64 0, .int .i64 0, .int .i64 0, .int .i64 0, .int .i64 0, .bool false, .bool false, .bool false, .int .u8 0, .int .i64 0, .int .i64 0] := (blk2 w _ _).below hB1 (by simp)
  have hb1 : Below w.heap.size w w1 := below_up (below_alloc (below_alloc (below_alloc (Below.refl _ _)))) hB1
  have HB1 := Lib.hid hb1
  have KR := Lib.hid kr
  have p12 : w1.cell? ⟨w.heap.size + 1, 12, none⟩ = some (.int .i64 si) := kp.cell 12
  have m0 : w1.cell? ⟨w.heap.size + 1 + 1, 0, none⟩ = some (.int .i64 0) := kr.cell 0
  have n0 : w1.frozen? ⟨w.heap.size + 1 + 1, 0, none⟩ = false := kr.frozen 0
  have m1 : w1.cell? ⟨w.heap.size + 1 + 1, 1, none⟩ = some (.int .i64 0) := kr.cell 1
  have n1 : w1.frozen? ⟨w.heap.size + 1 + 1, 1, none⟩ = false := kr.frozen 1
  have m2 : w1.cell? ⟨w.heap.size + 1 + 1, 2, none⟩ = some (.int .i64 0) := kr.cell 2
  have n2 : w1.frozen? ⟨w.heap.size + 1 + 1, 2, none⟩ = false := kr.frozen 2
  have m3 : w1.cell? ⟨w.heap.size + 1 + 1, 3, none⟩ = some (.int .i64 0) := kr.cell 3
  have n3 : w1.frozen? ⟨w.heap.size + 1 + 1, 3, none⟩ = false := kr.frozen 3
  have m4 : w1.cell? ⟨w.heap.size + 1 + 1, 4, none⟩ = some (.int .i64 0) := kr.cell 4
  have n4 : w1.frozen? ⟨w.heap.size + 1 + 1, 4, none⟩ = false := kr.frozen 4
  have m5 : w1.cell? ⟨w.heap.size + 1 + 1, 5, none⟩ = some (.int .i64 0) := kr.cell 5
  have n5 : w1.frozen? ⟨w.heap.size + 1 + 1, 5, none⟩ = false := kr.frozen 5
  have m6 : w1.cell? ⟨w.heap.size + 1 + 1, 6, none⟩ = some (.int .i64 0) := kr.cell 6
  have n6 : w1.frozen? ⟨w.heap.size + 1 + 1, 6, none⟩ = false := kr.frozen 6
  have m7 : w1.cell? ⟨w.heap.size + 1 + 1, 7, none⟩ = some (.bool false) := kr.cell 7
  have n7 : w1.frozen? ⟨w.heap.size + 1 + 1, 7, none⟩ = false := kr.frozen 7
  have m8 : w1.cell? ⟨w.heap.size + 1 + 1, 8, none⟩ = some (.bool false) := kr.cell 8
  have n8 : w1.frozen? ⟨w.heap.size + 1 + 1, 8, none⟩ = false := kr.frozen 8
  have m9 : w1.cell? ⟨w.heap.size + 1 + 1, 9, none⟩ = some (.bool false) := kr.cell 9
  have n9 : w1.frozen? ⟨w.heap.size + 1 + 1, 9, none⟩ = false := kr.frozen 9
  have m10 : w1.cell? ⟨w.heap.size + 1 + 1, 10, none⟩ = some (.int .u8 0) := kr.cell 10
  have n10 : w1.frozen? ⟨w.heap.size + 1 + 1, 10, none⟩ = false := kr.frozen 10
  have m11 : w1.cell? ⟨w.heap.size + 1 + 1, 11, none⟩ = some (.int .i64 0) := kr.cell 11
  have n11 : w1.frozen? ⟨w.heap.size + 1 + 1, 11, none⟩ = false := kr.frozen 11
  have m12 : w1.cell? ⟨w.heap.size + 1 + 1, 12, none⟩ = some (.int .i64 0) := kr.cell 12
  have n12 : w1.frozen? ⟨w.heap.size + 1 + 1, 12, none⟩ = false := kr.frozen 12
  clear hB1 hb1 kd kp kr
  go_wp2_with fail
  refine (within_to _ _ _ _ HhN.out _).mono ?_
  rintro e w' ⟨rfl, rfl⟩
  go_wp2_with fail
  have b2 := (((((((((((((KR.out.set_ 0 (.int .i64 0)).set_ 1 (.int .i64 0)).set_ 2 (.int .i64 0)).set_ 3 (.int .i64 0)).set_ 4 (.int .i64 0)).set_ 5 (.int .i64 0)).set_ 6 (.int .i64 0)).set_ 7 (.bool false)).set_ 8 (.bool false)).set_ 9 (.bool false)).set_ 10 (.int .u8 0)).set_ 11 (.int .i64 0)).set_ 12 (.int .i64 0))
  have e0 := b2.cell 0
  have e1 := b2.cell 1
  have e2 := b2.cell 2
  have e3 := b2.cell 3
  have e4 := b2.cell 4
  have e5 := b2.cell 5
  have e6 := b2.cell 6
  have e7 := b2.cell 7
  have e8 := b2.cell 8
  have e9 := b2.cell 9
  have e10 := b2.cell 10
  have e11 := b2.cell 11
  have e12 := b2.cell 12
  simp at e0 e1 e2 e3 e4 e5 e6 e7 e8 e9 e10 e11 e12
  exact bodyPost_ret (v := .tuple #[.agg #[.int .i64 0, .int .i64 0, .int .i64 0, .int .i64 0, .int .i64 0, .int .i64 0, .int .i64 0, .bool false, .bool false, .bool false, .int .u8 0, .int .i64 0, .int .i64 0], .int .u8 0, .bool false, .int .i64 2]) (by simp [results, Try.results11, go_sem, e0, e1, e2, e3, e4, e5, e6, e7, e8, e9, e10, e11, e12]) rfl ⟨rfl, (((((((((((((HB1.out.setCell (p := ⟨w.heap.size + 1 + 1, 0, none⟩) (by simp; omega) _).setCell (p := ⟨w.heap.size + 1 + 1, 1, none⟩) (by simp; omega) _).setCell (p := ⟨w.heap.size + 1 + 1, 2, none⟩) (by simp; omega) _).setCell (p := ⟨w.heap.size + 1 + 1, 3, none⟩) (by simp; omega) _).setCell (p := ⟨w.heap.size + 1 + 1, 4, none⟩) (by simp; omega) _).setCell (p := ⟨w.heap.size + 1 + 1, 5, none⟩) (by simp; omega) _).setCell (p := ⟨w.heap.size + 1 + 1, 6, none⟩) (by simp; omega) _).setCell (p := ⟨w.heap.size + 1 + 1, 7, none⟩) (by simp; omega) _).setCell (p := ⟨w.heap.size + 1 + 1, 8, none⟩) (by simp; omega) _).setCell (p := ⟨w.heap.size + 1 + 1, 9, none⟩) (by simp; omega) _).setCell (p := ⟨w.heap.size + 1 + 1, 10, none⟩) (by simp; omega) _).setCell (p := ⟨w.heap.size + 1 + 1, 11, none⟩) (by simp; omega) _).setCell (p := ⟨w.heap.size + 1 + 1, 12, none⟩) (by simp; omega) _)⟩
end Go.Proofs.Ytfndopemfhmhgaa.PartNext
