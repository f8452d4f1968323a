/- The answer of part.Next: nx_gone. -/
import Derived.BigRegion
import Derived.Test.YtfndopemfhmhgaaPartNext
namespace Go.Proofs.Ytfndopemfhmhgaa.PartNextB
open Go.RowKit Mem PosMath PosCheck PartMath PartClass PartCheck PartEnds PartTable Round PartNext
set_option linter.unusedVariables false

set_option maxRecDepth 100000 in
set_option maxHeartbeats 16000000 in
theorem nx_gone (a b c bo fr tr ag : Int) (X : Option Addr) (cp : Nat) (ks : List Cls) (hl : ks.length ≤ 9223372036854775807) (job x1 x2 x3 x4 x5 x6 : Int) (t1 t2 t3 : Bool) (ph tt si : Int) (turn now : Int) (h : CfgOk a b c bo fr tr ag ks) (hp : PartOk job ph tt si tr) (h0 : 1 ≤ turn) (h1 : turn ≤ 8) (hN : inB now si 1099511627776 = true) (qj : Int) (qs : Bool) (ROW : Array Value) (hi1 : ∀ w, (Instr.index 64 (.agg tabA) (.int .u8 turn)).run Try.prog w = .ok (.agg ROW) w)
    (hi2 : ∀ w, (Instr.index 63 (.agg ROW) (.int .u8 ph)).run Try.prog w = .ok (.agg #[.int .u8 3, .int .u8 qj, .bool qs, .bool true]) w)  (w : World) (hk : ClsAt w w.heap.size X ks) :
    Calls Try.prog 11 #[.agg #[.int .i64 a, .int .i64 b, .int .i64 c, .int .i64 bo, .int .i64 fr, .int .i64 tr, .int .i64 ag, .slice X ks.length cp], .agg #[.int .i64 job, .int .i64 x1, .int .i64 x2, .int .i64 x3, .int .i64 x4, .int .i64 x5, .int .i64 x6, .bool t1, .bool t2, .bool t3, .int .u8 ph, .int .i64 tt, .int .i64 si], .int .u8 turn, .int .i64 now] w (fun e w' => e = .returned (.tuple #[.agg #[.int .i64 0, .int .i64 0, .int .i64 0, .int .i64 0, .int .i64 0, .int .i64 0, .int .i64 0, .bool false, .bool false, .bool false, .int .u8 0, .int .i64 0, .int .i64 0], .int .u8 0, .bool true, .int .i64 0]) ∧ Below w.heap.size w w') := by
  have HKK := Lib.hid hk
  have Hh := Lib.hid h
  have Hhp := Lib.hid hp
  have HhN := Lib.hid hN
  have ht2 : tt ≤ 5 := by have := inB_true hp.2.2.1; have := inB_true h.2.2.2.1; omega
  have ht1 : 1 ≤ tt := (inB_true hp.2.2.1).1
  clear hk h hp hN
  go_enter Try.func11, Try.ntmps11
  go_wp2_with fail
  refine (pc_ok a b c bo fr tr ag X cp ks hl job x1 x2 x3 x4 x5 x6 t1 t2 t3 ph tt si Hh.out Hhp.out _ (HKK.out.up (below_alloc (below_alloc (below_alloc (Below.refl _ _)))))).mono ?_
  rintro e w1 ⟨rfl, hB1⟩
  have kd : Blk w1 w.heap.size 26 #[.int .i64 a, .int .i64 b, .int .i64 c, .int .i64 bo, .int .i64 fr, .int .i64 tr, .int .i64 ag, .slice X ks.length cp] := (((Blk.new w _ _).alloc _).alloc _).below hB1 (by simp; omega)
  have kp : Blk w1 (w.heap.size + 1) 37 #[.int .i64 job, .int .i64 x1, .int .i64 x2, .int .i64 x3, .int .i64 x4, .int .i64 x5, .int .i64 x6, .bool t1, .bool t2, .bool t3, .int .u8 ph, .int .i64 tt, .int .i64 si] := ((blk1 w _ _).alloc _).below hB1 (by simp)
  have kr : Blk w1 (w.heap.size + 1 + 1) 37 #[.int .i64 0, .int .i64 0, .int .i64 0, .int .i64 0, .int .i64 0, .int .i64 0, .int .i64 0, .bool false, .bool false, .bool false, .int .u8 0, .int .i64 0, .int .i64 0] := (blk2 w _ _).below hB1 (by simp)
  have hb1 : Below w.heap.size w w1 := below_up (below_alloc (below_alloc (below_alloc (Below.refl _ _)))) hB1
  have HB1 := Lib.hid hb1
  have KK := Lib.hid (And.intro kd (And.intro kp kr))
  have p10 : w1.cell? ⟨w.heap.size + 1, 10, none⟩ = some (.int .u8 ph) := kp.cell 10
  have p12 : w1.cell? ⟨w.heap.size + 1, 12, none⟩ = some (.int .i64 si) := kp.cell 12
  have hz : w.heap.size + 1 + 1 < w1.heap.size := kr.lt
  have hz1 : w.heap.size + 1 < w1.heap.size := kp.lt
  have hz0 : w.heap.size < w1.heap.size := kd.lt
  clear hB1 hb1 kd kp kr
  go_wp2_with fail
  refine (within_to _ _ _ _ HhN.out _).mono ?_
  rintro e w' ⟨rfl, rfl⟩
  go_upto_region 6 with fail
  go_cut [13] (fun s13 wx => ∃ gb : Nat, s13 = .pointer (some ⟨gb, 0, none⟩) ∧ w1.heap.size ≤ gb ∧ Hid (Below w1.heap.size w1 wx) ∧ Hid (Blk wx gb 62 #[.int .u8 3, .int .u8 qj, .bool qs, .bool true]))
  case first =>
    go_region_with (first | (go_at_call 25; refine (table_any _).mono ?_; rintro e w2 ⟨rfl, hB2⟩; have p10b : w2.cell? ⟨w.heap.size + 1, 10, none⟩ = some (.int .u8 ph) := (by first | exact keep_cell (W := w1.drew) p10 hB2 | exact keep_cell (cell_over (W := w1.drew) _ p10) hB2); have z2 : w.heap.size + 1 < w2.heap.size := cell_lt p10b; obtain ⟨hc2, hf2⟩ := bcell hB2))
    all_goals
      go_wp2_with fail
      go_meet
      first
        | exact ⟨w2.heap.size, rfl, (below_of_drew hB2).size, (below_alloc (below_of_drew hB2)), Blk.new _ _ _⟩
        | exact ⟨w1.heap.size, rfl, Nat.le_refl _, ((((below_up (below_alloc (Below.refl _ w1)) (below_of_drew hB2)).setCell (p := ⟨w1.heap.size, 0, none⟩) (Nat.le_refl _) _).setCell (p := ⟨w1.heap.size, 1, none⟩) (Nat.le_refl _) _).setCell (p := ⟨w1.heap.size, 2, none⟩) (Nat.le_refl _) _).setCell (p := ⟨w1.heap.size, 3, none⟩) (Nat.le_refl _) _, (((((Blk.new w1 _ _).below (below_of_drew hB2) (by simp)).set_ 0 _).set_ 1 _).set_ 2 _).set_ 3 _⟩
  case rest =>
    obtain ⟨gb, rfl, hgb, hBx, hkb⟩ := hcut
    have kd := KK.out.1.below hBx.out hz0
    have kp := KK.out.2.1.below hBx.out hz1
    have kr := KK.out.2.2.below hBx.out hz
    have KX := Lib.hid (And.intro kp kr)
    have HBX := Lib.hid (below_up HB1.out hBx.out)
    have kb := hkb.out
    have KB := Lib.hid kb
    have hzx : w.heap.size + 1 + 1 < wc.heap.size := kr.lt
    have hzx1 : w.heap.size + 1 < wc.heap.size := kp.lt
    have hzx0 : w.heap.size < wc.heap.size := kd.lt
    have ne1 : ¬ gb = w.heap.size + 1 := by omega
    have ne2 : ¬ gb = w.heap.size + 1 + 1 := by omega
    have ne3 : ¬ w.heap.size + 1 = gb := by omega
    have ne4 : ¬ w.heap.size + 1 + 1 = gb := by omega
    have m0 : wc.cell? ⟨w.heap.size + 1 + 1, 0, none⟩ = some (.int .i64 0) := kr.cell 0
    have n0 : wc.frozen? ⟨w.heap.size + 1 + 1, 0, none⟩ = false := kr.frozen 0
    have m1 : wc.cell? ⟨w.heap.size + 1 + 1, 1, none⟩ = some (.int .i64 0) := kr.cell 1
    have n1 : wc.frozen? ⟨w.heap.size + 1 + 1, 1, none⟩ = false := kr.frozen 1
    have m2 : wc.cell? ⟨w.heap.size + 1 + 1, 2, none⟩ = some (.int .i64 0) := kr.cell 2
    have n2 : wc.frozen? ⟨w.heap.size + 1 + 1, 2, none⟩ = false := kr.frozen 2
    have m3 : wc.cell? ⟨w.heap.size + 1 + 1, 3, none⟩ = some (.int .i64 0) := kr.cell 3
    have n3 : wc.frozen? ⟨w.heap.size + 1 + 1, 3, none⟩ = false := kr.frozen 3
    have m4 : wc.cell? ⟨w.heap.size + 1 + 1, 4, none⟩ = some (.int .i64 0) := kr.cell 4
    have n4 : wc.frozen? ⟨w.heap.size + 1 + 1, 4, none⟩ = false := kr.frozen 4
    have m5 : wc.cell? ⟨w.heap.size + 1 + 1, 5, none⟩ = some (.int .i64 0) := kr.cell 5
    have n5 : wc.frozen? ⟨w.heap.size + 1 + 1, 5, none⟩ = false := kr.frozen 5
    have m6 : wc.cell? ⟨w.heap.size + 1 + 1, 6, none⟩ = some (.int .i64 0) := kr.cell 6
    have n6 : wc.frozen? ⟨w.heap.size + 1 + 1, 6, none⟩ = false := kr.frozen 6
    have m7 : wc.cell? ⟨w.heap.size + 1 + 1, 7, none⟩ = some (.bool false) := kr.cell 7
    have n7 : wc.frozen? ⟨w.heap.size + 1 + 1, 7, none⟩ = false := kr.frozen 7
    have m8 : wc.cell? ⟨w.heap.size + 1 + 1, 8, none⟩ = some (.bool false) := kr.cell 8
    have n8 : wc.frozen? ⟨w.heap.size + 1 + 1, 8, none⟩ = false := kr.frozen 8
    have m9 : wc.cell? ⟨w.heap.size + 1 + 1, 9, none⟩ = some (.bool false) := kr.cell 9
    have n9 : wc.frozen? ⟨w.heap.size + 1 + 1, 9, none⟩ = false := kr.frozen 9
    have m10 : wc.cell? ⟨w.heap.size + 1 + 1, 10, none⟩ = some (.int .u8 0) := kr.cell 10
    have n10 : wc.frozen? ⟨w.heap.size + 1 + 1, 10, none⟩ = false := kr.frozen 10
    have m11 : wc.cell? ⟨w.heap.size + 1 + 1, 11, none⟩ = some (.int .i64 0) := kr.cell 11
    have n11 : wc.frozen? ⟨w.heap.size + 1 + 1, 11, none⟩ = false := kr.frozen 11
    have m12 : wc.cell? ⟨w.heap.size + 1 + 1, 12, none⟩ = some (.int .i64 0) := kr.cell 12
    have n12 : wc.frozen? ⟨w.heap.size + 1 + 1, 12, none⟩ = false := kr.frozen 12
    have b0 : wc.cell? ⟨gb, 0, none⟩ = some (.int .u8 3) := kb.cell 0
    have f0 : wc.frozen? ⟨gb, 0, none⟩ = false := kb.frozen 0
    have b1 : wc.cell? ⟨gb, 1, none⟩ = some (.int .u8 qj) := kb.cell 1
    have f1 : wc.frozen? ⟨gb, 1, none⟩ = false := kb.frozen 1
    have b2 : wc.cell? ⟨gb, 2, none⟩ = some (.bool qs) := kb.cell 2
    have f2 : wc.frozen? ⟨gb, 2, none⟩ = false := kb.frozen 2
    have b3 : wc.cell? ⟨gb, 3, none⟩ = some (.bool true) := kb.cell 3
    have f3 : wc.frozen? ⟨gb, 3, none⟩ = false := kb.frozen 3
    clear kd kp kr kb hz hz0 hz1 hgb p10 p12 f0 f1 f2 f3
    go_wp2_with fail
    have hs13 := store13 (g := w.heap.size + 1 + 1) HBX.out (by omega) KX.out.2 (.int .i64 0) (.int .i64 0) (.int .i64 0) (.int .i64 0) (.int .i64 0) (.int .i64 0) (.int .i64 0) (.bool false) (.bool false) (.bool false) (.int .u8 0) (.int .i64 0) (.int .i64 0)
    refine bodyPost_ret (v := .tuple #[.agg #[.int .i64 0, .int .i64 0, .int .i64 0, .int .i64 0, .int .i64 0, .int .i64 0, .int .i64 0, .bool false, .bool false, .bool false, .int .u8 0, .int .i64 0, .int .i64 0], .int .u8 0, .bool true, .int .i64 0]) ?_ rfl ?_
    · exact res_next _ _ (w.heap.size + 1 + 1) (.int .i64 0) (.int .i64 0) (.int .i64 0) (.int .i64 0) (.int .i64 0) (.int .i64 0) (.int .i64 0) (.bool false) (.bool false) (.bool false) (.int .u8 0) (.int .i64 0) (.int .i64 0) (.int .u8 0) (.bool true) (.int .i64 0) rfl rfl rfl rfl hs13.2
    · exact ⟨rfl, hs13.1⟩
end Go.Proofs.Ytfndopemfhmhgaa.PartNextB
