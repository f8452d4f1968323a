/- The walk of the law LogTells. -/
import Derived.BigQuiet
import Derived.Deep.QuietTactic
import Derived.Deep.DeepCutAuto
import Derived.Lib.SliceRun
import Derived.Lib.QuietBelow
import Derived.IntWalk
import Derived.ProofKit
import Derived.Test.YtfdldbfjeamlcaaLogInv
namespace Go.Proofs.Ytfdldbfjeamlcaa.LogTellsWalk
open Go.RowKit Mem LogMath LogProg LogRef1 LogRef2 LogCrash LogAll LogInv
open Go.Sort (grow)
set_option linter.unusedVariables false
set_option linter.unusedSimpArgs false

set_option maxRecDepth 100000 in
set_option maxHeartbeats 16000000 in
theorem tells_main (x y : AV) (X : Option Addr) (ca : Nat) (Y : Option Addr) (cb : Nat) (x' y' : AV) (X' : Option Addr) (ca' : Nat) (Y' : Option Addr) (cb' : Nat) (kd ar : Int) (T : Option Addr) (ct : Nat) (tx : List Int) (m n : Int) (hx : x.t.length ≤ 300000) (hy : y.t.length ≤ 300000) (hx' : x'.t.length ≤ 300000) (hy' : y'.t.length ≤ 300000) (ht : tx.length ≤ 300000) (hca : x.t.length ≤ ca) (hcb : y.t.length ≤ cb) (w : World) (hX : TAt w X x.t) (hY : TAt w Y y.t) (hX' : TAt w X' x'.t) (hY' : TAt w Y' y'.t) (hT : TAt w T tx) :
    Calls Try.prog 8 #[.agg #[.slice X x.t.length ca, .int .i64 x.k, .slice Y y.t.length cb, .int .i64 y.k], .agg #[.slice X' x'.t.length ca', .int .i64 x'.k, .slice Y' y'.t.length cb', .int .i64 y'.k], .agg #[.int .u8 kd, .int .i64 ar, .slice T tx.length ct], .agg #[.int .i64 m, .int .i64 n]] w fun e w' => e = .returned (.bool true) ∧ Below w.heap.size w w' := by
  have hg : greatL x y = false := by unfold greatL; rw [decide_eq_false (by omega), decide_eq_false (by omega)]; rfl
  have hg' : greatL x' y' = false := by unfold greatL; rw [decide_eq_false (by omega), decide_eq_false (by omega)]; rfl
  have gt : ¬ (300000 : Int) < (tx.length : Int) := by omega
  have F0 := Lib.hid (LIs.mk (ca := ca) (cb := cb) hX hY)
  have F1 := Lib.hid (LIs.mk (ca := ca') (cb := cb') hX' hY')
  have F2 := Lib.hid hX
  have F3 := Lib.hid hY
  have F4 := Lib.hid hT
  have G0 := Lib.hid (And.intro hg hg')
  clear hX hY hX' hY' hT hg hg'
  go_enter Try.func8, Try.ntmps8
  go_upto_region 1 with fail
  have t0 := F0.out.up (below_alloc (o := (.cells #[.int .i64 m, .int .i64 n] 73)) (below_alloc (o := (.cells #[.int .u8 kd, .int .i64 ar, .slice T tx.length ct] 72)) (below_alloc (o := (.cells #[.slice X' x'.t.length ca', .int .i64 x'.k, .slice Y' y'.t.length cb', .int .i64 y'.k] 70)) (below_alloc (o := (.cells #[.slice X x.t.length ca, .int .i64 x.k, .slice Y y.t.length cb, .int .i64 y.k] 70)) (Below.refl _ w)))))
  have t1 := F1.out.up (below_alloc (o := (.cells #[.int .i64 m, .int .i64 n] 73)) (below_alloc (o := (.cells #[.int .u8 kd, .int .i64 ar, .slice T tx.length ct] 72)) (below_alloc (o := (.cells #[.slice X' x'.t.length ca', .int .i64 x'.k, .slice Y' y'.t.length cb', .int .i64 y'.k] 70)) (below_alloc (o := (.cells #[.slice X x.t.length ca, .int .i64 x.k, .slice Y y.t.length cb, .int .i64 y.k] 70)) (Below.refl _ w)))))
  have t2 := F2.out.up (below_alloc (o := (.cells #[.int .i64 m, .int .i64 n] 73)) (below_alloc (o := (.cells #[.int .u8 kd, .int .i64 ar, .slice T tx.length ct] 72)) (below_alloc (o := (.cells #[.slice X' x'.t.length ca', .int .i64 x'.k, .slice Y' y'.t.length cb', .int .i64 y'.k] 70)) (below_alloc (o := (.cells #[.slice X x.t.length ca, .int .i64 x.k, .slice Y y.t.length cb, .int .i64 y.k] 70)) (Below.refl _ w)))))
  have t3 := F3.out.up (below_alloc (o := (.cells #[.int .i64 m, .int .i64 n] 73)) (below_alloc (o := (.cells #[.int .u8 kd, .int .i64 ar, .slice T tx.length ct] 72)) (below_alloc (o := (.cells #[.slice X' x'.t.length ca', .int .i64 x'.k, .slice Y' y'.t.length cb', .int .i64 y'.k] 70)) (below_alloc (o := (.cells #[.slice X x.t.length ca, .int .i64 x.k, .slice Y y.t.length cb, .int .i64 y.k] 70)) (Below.refl _ w)))))
  have t4 := F4.out.up (below_alloc (o := (.cells #[.int .i64 m, .int .i64 n] 73)) (below_alloc (o := (.cells #[.int .u8 kd, .int .i64 ar, .slice T tx.length ct] 72)) (below_alloc (o := (.cells #[.slice X' x'.t.length ca', .int .i64 x'.k, .slice Y' y'.t.length cb', .int .i64 y'.k] 70)) (below_alloc (o := (.cells #[.slice X x.t.length ca, .int .i64 x.k, .slice Y y.t.length cb, .int .i64 y.k] 70)) (Below.refl _ w)))))
  have t5 := below_alloc (o := (.cells #[.int .i64 m, .int .i64 n] 73)) (below_alloc (o := (.cells #[.int .u8 kd, .int .i64 ar, .slice T tx.length ct] 72)) (below_alloc (o := (.cells #[.slice X' x'.t.length ca', .int .i64 x'.k, .slice Y' y'.t.length cb', .int .i64 y'.k] 70)) (below_alloc (o := (.cells #[.slice X x.t.length ca, .int .i64 x.k, .slice Y y.t.length cb, .int .i64 y.k] 70)) (Below.refl w.heap.size w))))
  have t6 := (((Blk.new w 70 #[.slice X x.t.length ca, .int .i64 x.k, .slice Y y.t.length cb, .int .i64 y.k]).alloc (.cells #[.slice X' x'.t.length ca', .int .i64 x'.k, .slice Y' y'.t.length cb', .int .i64 y'.k] 70)).alloc (.cells #[.int .u8 kd, .int .i64 ar, .slice T tx.length ct] 72)).alloc (.cells #[.int .i64 m, .int .i64 n] 73)
  have t7 := ((blk1 w 70 #[.slice X' x'.t.length ca', .int .i64 x'.k, .slice Y' y'.t.length cb', .int .i64 y'.k] (o := (.cells #[.slice X x.t.length ca, .int .i64 x.k, .slice Y y.t.length cb, .int .i64 y.k] 70))).alloc (.cells #[.int .u8 kd, .int .i64 ar, .slice T tx.length ct] 72)).alloc (.cells #[.int .i64 m, .int .i64 n] 73)
  have t8 := (blk2 w 72 #[.int .u8 kd, .int .i64 ar, .slice T tx.length ct] (o := (.cells #[.slice X x.t.length ca, .int .i64 x.k, .slice Y y.t.length cb, .int .i64 y.k] 70)) (o' := (.cells #[.slice X' x'.t.length ca', .int .i64 x'.k, .slice Y' y'.t.length cb', .int .i64 y'.k] 70))).alloc (.cells #[.int .i64 m, .int .i64 n] 73)
  have t9 := blk3 w 73 #[.int .i64 m, .int .i64 n] (o := (.cells #[.slice X x.t.length ca, .int .i64 x.k, .slice Y y.t.length cb, .int .i64 y.k] 70)) (o' := (.cells #[.slice X' x'.t.length ca', .int .i64 x'.k, .slice Y' y'.t.length cb', .int .i64 y'.k] 70)) (o'' := (.cells #[.int .u8 kd, .int .i64 ar, .slice T tx.length ct] 72))
  clear F0 F1 F2 F3 F4
  generalize (((w.alloc (.cells #[.slice X x.t.length ca, .int .i64 x.k, .slice Y y.t.length cb, .int .i64 y.k] 70)).alloc (.cells #[.slice X' x'.t.length ca', .int .i64 x'.k, .slice Y' y'.t.length cb', .int .i64 y'.k] 70)).alloc (.cells #[.int .u8 kd, .int .i64 ar, .slice T tx.length ct] 72)).alloc (.cells #[.int .i64 m, .int .i64 n] 73) = w0 at *
  have FL := Lib.hid t0
  have FO := Lib.hid t1
  have FX := Lib.hid t2
  have FY := Lib.hid t3
  have FT := Lib.hid t4
  have HB := Lib.hid t5
  have BL := Lib.hid t6
  have BO := Lib.hid t7
  have BA := Lib.hid t8
  have BK := Lib.hid t9
  clear t0 t1 t2 t3 t4 t5 t6 t7 t8 t9
  have e0 : w0.cell? ⟨w.heap.size, 0, none⟩ = some (.slice X x.t.length ca) := BL.out.cell 0
  have e1 : w0.cell? ⟨w.heap.size, 1, none⟩ = some (.int .i64 x.k) := BL.out.cell 1
  have e2 : w0.cell? ⟨w.heap.size, 2, none⟩ = some (.slice Y y.t.length cb) := BL.out.cell 2
  have e3 : w0.cell? ⟨w.heap.size, 3, none⟩ = some (.int .i64 y.k) := BL.out.cell 3
  go_wp2_with fail
  refine (rGreat x y X ca Y cb _).mono ?_
  rintro e w1 ⟨rfl, hB1⟩
  clear e0 e1 e2 e3
  rw [G0.out.1]
  have t0 := FL.out.up hB1
  have t1 := FO.out.up hB1
  have t2 := FX.out.up hB1
  have t3 := FY.out.up hB1
  have t4 := FT.out.up hB1
  have t5 := below_up HB.out hB1
  have t6 := BL.out.below hB1 BL.out.lt
  have t7 := BO.out.below hB1 BO.out.lt
  have t8 := BA.out.below hB1 BA.out.lt
  have t9 := BK.out.below hB1 BK.out.lt
  clear FL FO FX FY FT HB BL BO BA BK hB1
  have FL := Lib.hid t0
  have FO := Lib.hid t1
  have FX := Lib.hid t2
  have FY := Lib.hid t3
  have FT := Lib.hid t4
  have HB := Lib.hid t5
  have BL := Lib.hid t6
  have BO := Lib.hid t7
  have BA := Lib.hid t8
  have BK := Lib.hid t9
  clear t0 t1 t2 t3 t4 t5 t6 t7 t8 t9
  have e0 : w1.cell? ⟨w.heap.size + 1, 0, none⟩ = some (.slice X' x'.t.length ca') := BO.out.cell 0
  have e1 : w1.cell? ⟨w.heap.size + 1, 1, none⟩ = some (.int .i64 x'.k) := BO.out.cell 1
  have e2 : w1.cell? ⟨w.heap.size + 1, 2, none⟩ = some (.slice Y' y'.t.length cb') := BO.out.cell 2
  have e3 : w1.cell? ⟨w.heap.size + 1, 3, none⟩ = some (.int .i64 y'.k) := BO.out.cell 3
  go_wp2_with fail
  refine (rGreat x' y' X' ca' Y' cb' _).mono ?_
  rintro e w2 ⟨rfl, hB2⟩
  clear e0 e1 e2 e3
  rw [G0.out.2]
  have t0 := FL.out.up hB2
  have t1 := FO.out.up hB2
  have t2 := FX.out.up hB2
  have t3 := FY.out.up hB2
  have t4 := FT.out.up hB2
  have t5 := below_up HB.out hB2
  have t6 := BL.out.below hB2 BL.out.lt
  have t7 := BO.out.below hB2 BO.out.lt
  have t8 := BA.out.below hB2 BA.out.lt
  have t9 := BK.out.below hB2 BK.out.lt
  clear FL FO FX FY FT HB BL BO BA BK hB2
  have FL := Lib.hid t0
  have FO := Lib.hid t1
  have FX := Lib.hid t2
  have FY := Lib.hid t3
  have FT := Lib.hid t4
  have HB := Lib.hid t5
  have BL := Lib.hid t6
  have BO := Lib.hid t7
  have BA := Lib.hid t8
  have BK := Lib.hid t9
  clear t0 t1 t2 t3 t4 t5 t6 t7 t8 t9
  have e2 : w2.cell? ⟨w.heap.size + 1 + 1, 2, none⟩ = some (.slice T tx.length ct) := BA.out.cell 2
  have f0 : w2.cell? ⟨w.heap.size, 0, none⟩ = some (.slice X x.t.length ca) := BL.out.cell 0
  have f1 : w2.cell? ⟨w.heap.size, 1, none⟩ = some (.int .i64 x.k) := BL.out.cell 1
  have f2 : w2.cell? ⟨w.heap.size, 2, none⟩ = some (.slice Y y.t.length cb) := BL.out.cell 2
  have f3 : w2.cell? ⟨w.heap.size, 3, none⟩ = some (.int .i64 y.k) := BL.out.cell 3
  go_wp2_with fail
  refine (rTwin x y X ca Y cb (by omega) (by omega) _ FX.out FY.out).mono ?_
  rintro e w3 ⟨X1, c1, Y1, d1, rfl, hO, hP, _, hB3⟩
  clear e2 f0 f1 f2 f3
  have t0 := FL.out.up hB3
  have t1 := FO.out.up hB3
  have t2 := FX.out.up hB3
  have t3 := FY.out.up hB3
  have t4 := FT.out.up hB3
  have t5 := below_up HB.out hB3
  have t6 := BL.out.below hB3 BL.out.lt
  have t7 := BO.out.below hB3 BO.out.lt
  have t8 := BA.out.below hB3 BA.out.lt
  have t9 := BK.out.below hB3 BK.out.lt
  clear FL FO FX FY FT HB BL BO BA BK hB3
  have FL := Lib.hid t0
  have FO := Lib.hid t1
  have FX := Lib.hid t2
  have FY := Lib.hid t3
  have FT := Lib.hid t4
  have HB := Lib.hid t5
  have BL := Lib.hid t6
  have BO := Lib.hid t7
  have BA := Lib.hid t8
  have BK := Lib.hid t9
  clear t0 t1 t2 t3 t4 t5 t6 t7 t8 t9
  have hc1 : x.t.length ≤ c1 := own_cap hO
  have hd1 : y.t.length ≤ d1 := own_cap hP
  have FX1 := Lib.hid (TOwn.at_ hO)
  have FY1 := Lib.hid (TOwn.at_ hP)
  clear hO hP
  go_upto_region 4 with fail
  have t0 := FL.out.up (below_alloc (o := (.cells #[.slice X1 x.t.length c1, .int .i64 x.k, .slice Y1 y.t.length d1, .int .i64 y.k] 70)) (Below.refl _ w3))
  have t1 := FO.out.up (below_alloc (o := (.cells #[.slice X1 x.t.length c1, .int .i64 x.k, .slice Y1 y.t.length d1, .int .i64 y.k] 70)) (Below.refl _ w3))
  have t2 := FX.out.up (below_alloc (o := (.cells #[.slice X1 x.t.length c1, .int .i64 x.k, .slice Y1 y.t.length d1, .int .i64 y.k] 70)) (Below.refl _ w3))
  have t3 := FY.out.up (below_alloc (o := (.cells #[.slice X1 x.t.length c1, .int .i64 x.k, .slice Y1 y.t.length d1, .int .i64 y.k] 70)) (Below.refl _ w3))
  have t4 := FT.out.up (below_alloc (o := (.cells #[.slice X1 x.t.length c1, .int .i64 x.k, .slice Y1 y.t.length d1, .int .i64 y.k] 70)) (Below.refl _ w3))
  have t5 := below_alloc (o := (.cells #[.slice X1 x.t.length c1, .int .i64 x.k, .slice Y1 y.t.length d1, .int .i64 y.k] 70)) HB.out
  have t6 := BL.out.alloc (.cells #[.slice X1 x.t.length c1, .int .i64 x.k, .slice Y1 y.t.length d1, .int .i64 y.k] 70)
  have t7 := BO.out.alloc (.cells #[.slice X1 x.t.length c1, .int .i64 x.k, .slice Y1 y.t.length d1, .int .i64 y.k] 70)
  have t8 := BA.out.alloc (.cells #[.slice X1 x.t.length c1, .int .i64 x.k, .slice Y1 y.t.length d1, .int .i64 y.k] 70)
  have t9 := BK.out.alloc (.cells #[.slice X1 x.t.length c1, .int .i64 x.k, .slice Y1 y.t.length d1, .int .i64 y.k] 70)
  have t10 := FX1.out.up (below_alloc (o := (.cells #[.slice X1 x.t.length c1, .int .i64 x.k, .slice Y1 y.t.length d1, .int .i64 y.k] 70)) (Below.refl _ w3))
  have t11 := FY1.out.up (below_alloc (o := (.cells #[.slice X1 x.t.length c1, .int .i64 x.k, .slice Y1 y.t.length d1, .int .i64 y.k] 70)) (Below.refl _ w3))
  have tb := Blk.new w3 70 #[.slice X1 x.t.length c1, .int .i64 x.k, .slice Y1 y.t.length d1, .int .i64 y.k]
  have hz3 : (w3.alloc (.cells #[.slice X1 x.t.length c1, .int .i64 x.k, .slice Y1 y.t.length d1, .int .i64 y.k] 70)).heap.size = w3.heap.size + 1 := by simp
  clear FL FO FX FY FT HB BL BO BA BK FX1 FY1
  generalize w3.alloc (.cells #[.slice X1 x.t.length c1, .int .i64 x.k, .slice Y1 y.t.length d1, .int .i64 y.k] 70) = W3 at *
  have FL := Lib.hid t0
  have FO := Lib.hid t1
  have FX := Lib.hid t2
  have FY := Lib.hid t3
  have FT := Lib.hid t4
  have HB := Lib.hid t5
  have BL := Lib.hid t6
  have BO := Lib.hid t7
  have BA := Lib.hid t8
  have BK := Lib.hid t9
  have FX1 := Lib.hid t10
  have FY1 := Lib.hid t11
  have B9 := Lib.hid tb
  clear tb t0 t1 t2 t3 t4 t5 t6 t7 t8 t9 t10 t11
  have HW := Lib.hid (Below.refl W3.heap.size W3)
  have hsb := HB.out.size
  have KB := Lib.hid (And.intro B9.out (And.intro BL.out (And.intro (LIs.mk (ca := c1) (cb := d1) FX1.out FY1.out) FL.out)))
  have e0 : W3.cell? ⟨w3.heap.size, 0, none⟩ = some (.slice X1 x.t.length c1) := B9.out.cell 0
  have e1 : W3.cell? ⟨w3.heap.size, 1, none⟩ = some (.int .i64 x.k) := B9.out.cell 1
  have e2 : W3.cell? ⟨w3.heap.size, 2, none⟩ = some (.slice Y1 y.t.length d1) := B9.out.cell 2
  have e3 : W3.cell? ⟨w3.heap.size, 3, none⟩ = some (.int .i64 y.k) := B9.out.cell 3
  have f0 : W3.cell? ⟨w.heap.size + 1 + 1, 0, none⟩ = some (.int .u8 kd) := BA.out.cell 0
  have f1 : W3.cell? ⟨w.heap.size + 1 + 1, 1, none⟩ = some (.int .i64 ar) := BA.out.cell 1
  have f2 : W3.cell? ⟨w.heap.size + 1 + 1, 2, none⟩ = some (.slice T tx.length ct) := BA.out.cell 2
  go_wp2_with fail
  refine (lDo x y X1 c1 Y1 d1 kd ar T ct tx hx hy ht _ FX1.out FY1.out FT.out).mono ?_
  rintro e w4 ⟨v, rfl, hR, hB4⟩
  clear e0 e1 e2 e3 f0 f1 f2
  have t0 := FL.out.up hB4
  have t1 := FO.out.up hB4
  have t2 := FX.out.up hB4
  have t3 := FY.out.up hB4
  have t4 := FT.out.up hB4
  have t5 := below_up HB.out hB4
  have t6 := BL.out.below hB4 BL.out.lt
  have t7 := BO.out.below hB4 BO.out.lt
  have t8 := BA.out.below hB4 BA.out.lt
  have t9 := BK.out.below hB4 BK.out.lt
  have t10 := FX1.out.up hB4
  have t11 := FY1.out.up hB4
  have t12 := B9.out.below hB4 B9.out.lt
  have t13 := below_up HW.out hB4
  clear FL FO FX FY FT HB BL BO BA BK FX1 FY1 B9 HW hB4
  have FL := Lib.hid t0
  have FO := Lib.hid t1
  have FX := Lib.hid t2
  have FY := Lib.hid t3
  have FT := Lib.hid t4
  have HB := Lib.hid t5
  have BL := Lib.hid t6
  have BO := Lib.hid t7
  have BA := Lib.hid t8
  have BK := Lib.hid t9
  have FX1 := Lib.hid t10
  have FY1 := Lib.hid t11
  have B9 := Lib.hid t12
  have HW := Lib.hid t13
  clear t0 t1 t2 t3 t4 t5 t6 t7 t8 t9 t10 t11 t12 t13
  obtain ⟨X10, n10, c10, k10, Y10, p10, d10, q10, rfl⟩ := hR.four
  have F10 := Lib.hid hR
  clear hR
  go_upto_region 5 with fail
  have t0 := FL.out.up (below_alloc (o := (.cells #[.slice X10 n10 c10, .int .i64 k10, .slice Y10 p10 d10, .int .i64 q10] 70)) (Below.refl _ w4))
  have t1 := FO.out.up (below_alloc (o := (.cells #[.slice X10 n10 c10, .int .i64 k10, .slice Y10 p10 d10, .int .i64 q10] 70)) (Below.refl _ w4))
  have t2 := FX.out.up (below_alloc (o := (.cells #[.slice X10 n10 c10, .int .i64 k10, .slice Y10 p10 d10, .int .i64 q10] 70)) (Below.refl _ w4))
  have t3 := FY.out.up (below_alloc (o := (.cells #[.slice X10 n10 c10, .int .i64 k10, .slice Y10 p10 d10, .int .i64 q10] 70)) (Below.refl _ w4))
  have t4 := FT.out.up (below_alloc (o := (.cells #[.slice X10 n10 c10, .int .i64 k10, .slice Y10 p10 d10, .int .i64 q10] 70)) (Below.refl _ w4))
  have t5 := below_alloc (o := (.cells #[.slice X10 n10 c10, .int .i64 k10, .slice Y10 p10 d10, .int .i64 q10] 70)) HB.out
  have t6 := BL.out.alloc (.cells #[.slice X10 n10 c10, .int .i64 k10, .slice Y10 p10 d10, .int .i64 q10] 70)
  have t7 := BO.out.alloc (.cells #[.slice X10 n10 c10, .int .i64 k10, .slice Y10 p10 d10, .int .i64 q10] 70)
  have t8 := BA.out.alloc (.cells #[.slice X10 n10 c10, .int .i64 k10, .slice Y10 p10 d10, .int .i64 q10] 70)
  have t9 := BK.out.alloc (.cells #[.slice X10 n10 c10, .int .i64 k10, .slice Y10 p10 d10, .int .i64 q10] 70)
  have t10 := FX1.out.up (below_alloc (o := (.cells #[.slice X10 n10 c10, .int .i64 k10, .slice Y10 p10 d10, .int .i64 q10] 70)) (Below.refl _ w4))
  have t11 := FY1.out.up (below_alloc (o := (.cells #[.slice X10 n10 c10, .int .i64 k10, .slice Y10 p10 d10, .int .i64 q10] 70)) (Below.refl _ w4))
  have t12 := B9.out.alloc (.cells #[.slice X10 n10 c10, .int .i64 k10, .slice Y10 p10 d10, .int .i64 q10] 70)
  have t13 := below_alloc (o := (.cells #[.slice X10 n10 c10, .int .i64 k10, .slice Y10 p10 d10, .int .i64 q10] 70)) HW.out
  have t14 := F10.out.up (below_alloc (o := (.cells #[.slice X10 n10 c10, .int .i64 k10, .slice Y10 p10 d10, .int .i64 q10] 70)) (Below.refl _ w4))
  have tb := Blk.new w4 70 #[.slice X10 n10 c10, .int .i64 k10, .slice Y10 p10 d10, .int .i64 q10]
  have hz4 : (w4.alloc (.cells #[.slice X10 n10 c10, .int .i64 k10, .slice Y10 p10 d10, .int .i64 q10] 70)).heap.size = w4.heap.size + 1 := by simp
  clear FL FO FX FY FT HB BL BO BA BK FX1 FY1 B9 HW F10
  generalize w4.alloc (.cells #[.slice X10 n10 c10, .int .i64 k10, .slice Y10 p10 d10, .int .i64 q10] 70) = W4 at *
  have FL := Lib.hid t0
  have FO := Lib.hid t1
  have FX := Lib.hid t2
  have FY := Lib.hid t3
  have FT := Lib.hid t4
  have HB := Lib.hid t5
  have BL := Lib.hid t6
  have BO := Lib.hid t7
  have BA := Lib.hid t8
  have BK := Lib.hid t9
  have FX1 := Lib.hid t10
  have FY1 := Lib.hid t11
  have B9 := Lib.hid t12
  have HW := Lib.hid t13
  have F10 := Lib.hid t14
  have B10 := Lib.hid tb
  clear tb t0 t1 t2 t3 t4 t5 t6 t7 t8 t9 t10 t11 t12 t13 t14
  have e0 : W4.cell? ⟨w.heap.size, 0, none⟩ = some (.slice X x.t.length ca) := BL.out.cell 0
  have e1 : W4.cell? ⟨w.heap.size, 1, none⟩ = some (.int .i64 x.k) := BL.out.cell 1
  have e2 : W4.cell? ⟨w.heap.size, 2, none⟩ = some (.slice Y y.t.length cb) := BL.out.cell 2
  have e3 : W4.cell? ⟨w.heap.size, 3, none⟩ = some (.int .i64 y.k) := BL.out.cell 3
  have f0 : W4.cell? ⟨w.heap.size + 1 + 1, 0, none⟩ = some (.int .u8 kd) := BA.out.cell 0
  have f1 : W4.cell? ⟨w.heap.size + 1 + 1, 1, none⟩ = some (.int .i64 ar) := BA.out.cell 1
  have f2 : W4.cell? ⟨w.heap.size + 1 + 1, 2, none⟩ = some (.slice T tx.length ct) := BA.out.cell 2
  go_wp2_with fail
  refine (rDo x y X ca Y cb kd ar T ct tx hx hy ht _ FX.out FY.out FT.out).mono ?_
  rintro e w5 ⟨v, rfl, hR, hB5⟩
  clear e0 e1 e2 e3 f0 f1 f2
  have t0 := FL.out.up hB5
  have t1 := FO.out.up hB5
  have t2 := FX.out.up hB5
  have t3 := FY.out.up hB5
  have t4 := FT.out.up hB5
  have t5 := below_up HB.out hB5
  have t6 := BL.out.below hB5 BL.out.lt
  have t7 := BO.out.below hB5 BO.out.lt
  have t8 := BA.out.below hB5 BA.out.lt
  have t9 := BK.out.below hB5 BK.out.lt
  have t10 := FX1.out.up hB5
  have t11 := FY1.out.up hB5
  have t12 := B9.out.below hB5 B9.out.lt
  have t13 := below_up HW.out hB5
  have t14 := F10.out.up hB5
  have t15 := B10.out.below hB5 B10.out.lt
  clear FL FO FX FY FT HB BL BO BA BK FX1 FY1 B9 HW F10 B10 hB5
  have FL := Lib.hid t0
  have FO := Lib.hid t1
  have FX := Lib.hid t2
  have FY := Lib.hid t3
  have FT := Lib.hid t4
  have HB := Lib.hid t5
  have BL := Lib.hid t6
  have BO := Lib.hid t7
  have BA := Lib.hid t8
  have BK := Lib.hid t9
  have FX1 := Lib.hid t10
  have FY1 := Lib.hid t11
  have B9 := Lib.hid t12
  have HW := Lib.hid t13
  have F10 := Lib.hid t14
  have B10 := Lib.hid t15
  clear t0 t1 t2 t3 t4 t5 t6 t7 t8 t9 t10 t11 t12 t13 t14 t15
  obtain ⟨X12, n12, c12, k12, Y12, p12, d12, q12, rfl⟩ := hR.four
  have F12 := Lib.hid hR
  clear hR
  go_upto_region 6 with fail
  have t0 := FL.out.up (below_alloc (o := (.cells #[.slice X12 n12 c12, .int .i64 k12, .slice Y12 p12 d12, .int .i64 q12] 70)) (Below.refl _ w5))
  have t1 := FO.out.up (below_alloc (o := (.cells #[.slice X12 n12 c12, .int .i64 k12, .slice Y12 p12 d12, .int .i64 q12] 70)) (Below.refl _ w5))
  have t2 := FX.out.up (below_alloc (o := (.cells #[.slice X12 n12 c12, .int .i64 k12, .slice Y12 p12 d12, .int .i64 q12] 70)) (Below.refl _ w5))
  have t3 := FY.out.up (below_alloc (o := (.cells #[.slice X12 n12 c12, .int .i64 k12, .slice Y12 p12 d12, .int .i64 q12] 70)) (Below.refl _ w5))
  have t4 := FT.out.up (below_alloc (o := (.cells #[.slice X12 n12 c12, .int .i64 k12, .slice Y12 p12 d12, .int .i64 q12] 70)) (Below.refl _ w5))
  have t5 := below_alloc (o := (.cells #[.slice X12 n12 c12, .int .i64 k12, .slice Y12 p12 d12, .int .i64 q12] 70)) HB.out
  have t6 := BL.out.alloc (.cells #[.slice X12 n12 c12, .int .i64 k12, .slice Y12 p12 d12, .int .i64 q12] 70)
  have t7 := BO.out.alloc (.cells #[.slice X12 n12 c12, .int .i64 k12, .slice Y12 p12 d12, .int .i64 q12] 70)
  have t8 := BA.out.alloc (.cells #[.slice X12 n12 c12, .int .i64 k12, .slice Y12 p12 d12, .int .i64 q12] 70)
  have t9 := BK.out.alloc (.cells #[.slice X12 n12 c12, .int .i64 k12, .slice Y12 p12 d12, .int .i64 q12] 70)
  have t10 := FX1.out.up (below_alloc (o := (.cells #[.slice X12 n12 c12, .int .i64 k12, .slice Y12 p12 d12, .int .i64 q12] 70)) (Below.refl _ w5))
  have t11 := FY1.out.up (below_alloc (o := (.cells #[.slice X12 n12 c12, .int .i64 k12, .slice Y12 p12 d12, .int .i64 q12] 70)) (Below.refl _ w5))
  have t12 := B9.out.alloc (.cells #[.slice X12 n12 c12, .int .i64 k12, .slice Y12 p12 d12, .int .i64 q12] 70)
  have t13 := below_alloc (o := (.cells #[.slice X12 n12 c12, .int .i64 k12, .slice Y12 p12 d12, .int .i64 q12] 70)) HW.out
  have t14 := F10.out.up (below_alloc (o := (.cells #[.slice X12 n12 c12, .int .i64 k12, .slice Y12 p12 d12, .int .i64 q12] 70)) (Below.refl _ w5))
  have t15 := B10.out.alloc (.cells #[.slice X12 n12 c12, .int .i64 k12, .slice Y12 p12 d12, .int .i64 q12] 70)
  have t16 := F12.out.up (below_alloc (o := (.cells #[.slice X12 n12 c12, .int .i64 k12, .slice Y12 p12 d12, .int .i64 q12] 70)) (Below.refl _ w5))
  have tb := Blk.new w5 70 #[.slice X12 n12 c12, .int .i64 k12, .slice Y12 p12 d12, .int .i64 q12]
  have hz5 : (w5.alloc (.cells #[.slice X12 n12 c12, .int .i64 k12, .slice Y12 p12 d12, .int .i64 q12] 70)).heap.size = w5.heap.size + 1 := by simp
  clear FL FO FX FY FT HB BL BO BA BK FX1 FY1 B9 HW F10 B10 F12
  generalize w5.alloc (.cells #[.slice X12 n12 c12, .int .i64 k12, .slice Y12 p12 d12, .int .i64 q12] 70) = W5 at *
  have FL := Lib.hid t0
  have FO := Lib.hid t1
  have FX := Lib.hid t2
  have FY := Lib.hid t3
  have FT := Lib.hid t4
  have HB := Lib.hid t5
  have BL := Lib.hid t6
  have BO := Lib.hid t7
  have BA := Lib.hid t8
  have BK := Lib.hid t9
  have FX1 := Lib.hid t10
  have FY1 := Lib.hid t11
  have B9 := Lib.hid t12
  have HW := Lib.hid t13
  have F10 := Lib.hid t14
  have B10 := Lib.hid t15
  have F12 := Lib.hid t16
  have B12 := Lib.hid tb
  clear tb t0 t1 t2 t3 t4 t5 t6 t7 t8 t9 t10 t11 t12 t13 t14 t15 t16
  have hs14 : W3.heap.size ≤ W5.heap.size := HW.out.size
  have e0 : W5.cell? ⟨w3.heap.size, 0, none⟩ = some (.slice X1 x.t.length c1) := B9.out.cell 0
  have e1 : W5.cell? ⟨w3.heap.size, 1, none⟩ = some (.int .i64 x.k) := B9.out.cell 1
  have e2 : W5.cell? ⟨w3.heap.size, 2, none⟩ = some (.slice Y1 y.t.length d1) := B9.out.cell 2
  have e3 : W5.cell? ⟨w3.heap.size, 3, none⟩ = some (.int .i64 y.k) := B9.out.cell 3
  have f0 : W5.cell? ⟨w.heap.size + 1 + 1 + 1, 0, none⟩ = some (.int .i64 m) := BK.out.cell 0
  have f1 : W5.cell? ⟨w.heap.size + 1 + 1 + 1, 1, none⟩ = some (.int .i64 n) := BK.out.cell 1
  go_wp2_with fail
  refine (lCrash x y X1 c1 Y1 d1 m n hc1 hd1 _ FX1.out FY1.out).mono ?_
  rintro e w6 ⟨v, rfl, hR, hB6⟩
  clear e0 e1 e2 e3 f0 f1
  have t0 := FL.out.up hB6
  have t1 := FO.out.up hB6
  have t2 := FX.out.up hB6
  have t3 := FY.out.up hB6
  have t4 := FT.out.up hB6
  have t5 := below_up HB.out hB6
  have t6 := BL.out.below hB6 BL.out.lt
  have t7 := BO.out.below hB6 BO.out.lt
  have t8 := BA.out.below hB6 BA.out.lt
  have t9 := BK.out.below hB6 BK.out.lt
  have t10 := FX1.out.up hB6
  have t11 := FY1.out.up hB6
  have t12 := B9.out.below hB6 B9.out.lt
  have t13 := below_up HW.out hB6
  have t14 := F10.out.up hB6
  have t15 := B10.out.below hB6 B10.out.lt
  have t16 := F12.out.up hB6
  have t17 := B12.out.below hB6 B12.out.lt
  clear FL FO FX FY FT HB BL BO BA BK FX1 FY1 B9 HW F10 B10 F12 B12 hB6
  have FL := Lib.hid t0
  have FO := Lib.hid t1
  have FX := Lib.hid t2
  have FY := Lib.hid t3
  have FT := Lib.hid t4
  have HB := Lib.hid t5
  have BL := Lib.hid t6
  have BO := Lib.hid t7
  have BA := Lib.hid t8
  have BK := Lib.hid t9
  have FX1 := Lib.hid t10
  have FY1 := Lib.hid t11
  have B9 := Lib.hid t12
  have HW := Lib.hid t13
  have F10 := Lib.hid t14
  have B10 := Lib.hid t15
  have F12 := Lib.hid t16
  have B12 := Lib.hid t17
  clear t0 t1 t2 t3 t4 t5 t6 t7 t8 t9 t10 t11 t12 t13 t14 t15 t16 t17
  obtain ⟨X14, n14, c14, k14, Y14, p14, d14, q14, rfl⟩ := hR.four
  have F14 := Lib.hid hR
  clear hR
  go_upto_region 7 with fail
  have t0 := FL.out.up (below_alloc (o := (.cells #[.slice X14 n14 c14, .int .i64 k14, .slice Y14 p14 d14, .int .i64 q14] 70)) (Below.refl _ w6))
  have t1 := FO.out.up (below_alloc (o := (.cells #[.slice X14 n14 c14, .int .i64 k14, .slice Y14 p14 d14, .int .i64 q14] 70)) (Below.refl _ w6))
  have t2 := FX.out.up (below_alloc (o := (.cells #[.slice X14 n14 c14, .int .i64 k14, .slice Y14 p14 d14, .int .i64 q14] 70)) (Below.refl _ w6))
  have t3 := FY.out.up (below_alloc (o := (.cells #[.slice X14 n14 c14, .int .i64 k14, .slice Y14 p14 d14, .int .i64 q14] 70)) (Below.refl _ w6))
  have t4 := FT.out.up (below_alloc (o := (.cells #[.slice X14 n14 c14, .int .i64 k14, .slice Y14 p14 d14, .int .i64 q14] 70)) (Below.refl _ w6))
  have t5 := below_alloc (o := (.cells #[.slice X14 n14 c14, .int .i64 k14, .slice Y14 p14 d14, .int .i64 q14] 70)) HB.out
  have t6 := BL.out.alloc (.cells #[.slice X14 n14 c14, .int .i64 k14, .slice Y14 p14 d14, .int .i64 q14] 70)
  have t7 := BO.out.alloc (.cells #[.slice X14 n14 c14, .int .i64 k14, .slice Y14 p14 d14, .int .i64 q14] 70)
  have t8 := BA.out.alloc (.cells #[.slice X14 n14 c14, .int .i64 k14, .slice Y14 p14 d14, .int .i64 q14] 70)
  have t9 := BK.out.alloc (.cells #[.slice X14 n14 c14, .int .i64 k14, .slice Y14 p14 d14, .int .i64 q14] 70)
  have t10 := FX1.out.up (below_alloc (o := (.cells #[.slice X14 n14 c14, .int .i64 k14, .slice Y14 p14 d14, .int .i64 q14] 70)) (Below.refl _ w6))
  have t11 := FY1.out.up (below_alloc (o := (.cells #[.slice X14 n14 c14, .int .i64 k14, .slice Y14 p14 d14, .int .i64 q14] 70)) (Below.refl _ w6))
  have t12 := B9.out.alloc (.cells #[.slice X14 n14 c14, .int .i64 k14, .slice Y14 p14 d14, .int .i64 q14] 70)
  have t13 := below_alloc (o := (.cells #[.slice X14 n14 c14, .int .i64 k14, .slice Y14 p14 d14, .int .i64 q14] 70)) HW.out
  have t14 := F10.out.up (below_alloc (o := (.cells #[.slice X14 n14 c14, .int .i64 k14, .slice Y14 p14 d14, .int .i64 q14] 70)) (Below.refl _ w6))
  have t15 := B10.out.alloc (.cells #[.slice X14 n14 c14, .int .i64 k14, .slice Y14 p14 d14, .int .i64 q14] 70)
  have t16 := F12.out.up (below_alloc (o := (.cells #[.slice X14 n14 c14, .int .i64 k14, .slice Y14 p14 d14, .int .i64 q14] 70)) (Below.refl _ w6))
  have t17 := B12.out.alloc (.cells #[.slice X14 n14 c14, .int .i64 k14, .slice Y14 p14 d14, .int .i64 q14] 70)
  have t18 := F14.out.up (below_alloc (o := (.cells #[.slice X14 n14 c14, .int .i64 k14, .slice Y14 p14 d14, .int .i64 q14] 70)) (Below.refl _ w6))
  have tb := Blk.new w6 70 #[.slice X14 n14 c14, .int .i64 k14, .slice Y14 p14 d14, .int .i64 q14]
  have hz6 : (w6.alloc (.cells #[.slice X14 n14 c14, .int .i64 k14, .slice Y14 p14 d14, .int .i64 q14] 70)).heap.size = w6.heap.size + 1 := by simp
  clear FL FO FX FY FT HB BL BO BA BK FX1 FY1 B9 HW F10 B10 F12 B12 F14
  generalize w6.alloc (.cells #[.slice X14 n14 c14, .int .i64 k14, .slice Y14 p14 d14, .int .i64 q14] 70) = W6 at *
  have FL := Lib.hid t0
  have FO := Lib.hid t1
  have FX := Lib.hid t2
  have FY := Lib.hid t3
  have FT := Lib.hid t4
  have HB := Lib.hid t5
  have BL := Lib.hid t6
  have BO := Lib.hid t7
  have BA := Lib.hid t8
  have BK := Lib.hid t9
  have FX1 := Lib.hid t10
  have FY1 := Lib.hid t11
  have B9 := Lib.hid t12
  have HW := Lib.hid t13
  have F10 := Lib.hid t14
  have B10 := Lib.hid t15
  have F12 := Lib.hid t16
  have B12 := Lib.hid t17
  have F14 := Lib.hid t18
  have B14 := Lib.hid tb
  clear tb t0 t1 t2 t3 t4 t5 t6 t7 t8 t9 t10 t11 t12 t13 t14 t15 t16 t17 t18
  have e0 : W6.cell? ⟨w.heap.size, 0, none⟩ = some (.slice X x.t.length ca) := BL.out.cell 0
  have e1 : W6.cell? ⟨w.heap.size, 1, none⟩ = some (.int .i64 x.k) := BL.out.cell 1
  have e2 : W6.cell? ⟨w.heap.size, 2, none⟩ = some (.slice Y y.t.length cb) := BL.out.cell 2
  have e3 : W6.cell? ⟨w.heap.size, 3, none⟩ = some (.int .i64 y.k) := BL.out.cell 3
  have f0 : W6.cell? ⟨w.heap.size + 1 + 1 + 1, 0, none⟩ = some (.int .i64 m) := BK.out.cell 0
  have f1 : W6.cell? ⟨w.heap.size + 1 + 1 + 1, 1, none⟩ = some (.int .i64 n) := BK.out.cell 1
  go_wp2_with fail
  refine (rCrash x y X ca Y cb m n hca hcb _ FX.out FY.out).mono ?_
  rintro e w7 ⟨v, rfl, hR, hB7⟩
  clear e0 e1 e2 e3 f0 f1
  have t0 := FL.out.up hB7
  have t1 := FO.out.up hB7
  have t2 := FX.out.up hB7
  have t3 := FY.out.up hB7
  have t4 := FT.out.up hB7
  have t5 := below_up HB.out hB7
  have t6 := BL.out.below hB7 BL.out.lt
  have t7 := BO.out.below hB7 BO.out.lt
  have t8 := BA.out.below hB7 BA.out.lt
  have t9 := BK.out.below hB7 BK.out.lt
  have t10 := FX1.out.up hB7
  have t11 := FY1.out.up hB7
  have t12 := B9.out.below hB7 B9.out.lt
  have t13 := below_up HW.out hB7
  have t14 := F10.out.up hB7
  have t15 := B10.out.below hB7 B10.out.lt
  have t16 := F12.out.up hB7
  have t17 := B12.out.below hB7 B12.out.lt
  have t18 := F14.out.up hB7
  have t19 := B14.out.below hB7 B14.out.lt
  clear FL FO FX FY FT HB BL BO BA BK FX1 FY1 B9 HW F10 B10 F12 B12 F14 B14 hB7
  have FL := Lib.hid t0
  have FO := Lib.hid t1
  have FX := Lib.hid t2
  have FY := Lib.hid t3
  have FT := Lib.hid t4
  have HB := Lib.hid t5
  have BL := Lib.hid t6
  have BO := Lib.hid t7
  have BA := Lib.hid t8
  have BK := Lib.hid t9
  have FX1 := Lib.hid t10
  have FY1 := Lib.hid t11
  have B9 := Lib.hid t12
  have HW := Lib.hid t13
  have F10 := Lib.hid t14
  have B10 := Lib.hid t15
  have F12 := Lib.hid t16
  have B12 := Lib.hid t17
  have F14 := Lib.hid t18
  have B14 := Lib.hid t19
  clear t0 t1 t2 t3 t4 t5 t6 t7 t8 t9 t10 t11 t12 t13 t14 t15 t16 t17 t18 t19
  obtain ⟨X16, n16, c16, k16, Y16, p16, d16, q16, rfl⟩ := hR.four
  have F16 := Lib.hid hR
  clear hR
  go_upto_region 8 with fail
  have t0 := FL.out.up (below_alloc (o := (.cells #[.slice X16 n16 c16, .int .i64 k16, .slice Y16 p16 d16, .int .i64 q16] 70)) (Below.refl _ w7))
  have t1 := FO.out.up (below_alloc (o := (.cells #[.slice X16 n16 c16, .int .i64 k16, .slice Y16 p16 d16, .int .i64 q16] 70)) (Below.refl _ w7))
  have t2 := FX.out.up (below_alloc (o := (.cells #[.slice X16 n16 c16, .int .i64 k16, .slice Y16 p16 d16, .int .i64 q16] 70)) (Below.refl _ w7))
  have t3 := FY.out.up (below_alloc (o := (.cells #[.slice X16 n16 c16, .int .i64 k16, .slice Y16 p16 d16, .int .i64 q16] 70)) (Below.refl _ w7))
  have t4 := FT.out.up (below_alloc (o := (.cells #[.slice X16 n16 c16, .int .i64 k16, .slice Y16 p16 d16, .int .i64 q16] 70)) (Below.refl _ w7))
  have t5 := below_alloc (o := (.cells #[.slice X16 n16 c16, .int .i64 k16, .slice Y16 p16 d16, .int .i64 q16] 70)) HB.out
  have t6 := BL.out.alloc (.cells #[.slice X16 n16 c16, .int .i64 k16, .slice Y16 p16 d16, .int .i64 q16] 70)
  have t7 := BO.out.alloc (.cells #[.slice X16 n16 c16, .int .i64 k16, .slice Y16 p16 d16, .int .i64 q16] 70)
  have t8 := BA.out.alloc (.cells #[.slice X16 n16 c16, .int .i64 k16, .slice Y16 p16 d16, .int .i64 q16] 70)
  have t9 := BK.out.alloc (.cells #[.slice X16 n16 c16, .int .i64 k16, .slice Y16 p16 d16, .int .i64 q16] 70)
  have t10 := FX1.out.up (below_alloc (o := (.cells #[.slice X16 n16 c16, .int .i64 k16, .slice Y16 p16 d16, .int .i64 q16] 70)) (Below.refl _ w7))
  have t11 := FY1.out.up (below_alloc (o := (.cells #[.slice X16 n16 c16, .int .i64 k16, .slice Y16 p16 d16, .int .i64 q16] 70)) (Below.refl _ w7))
  have t12 := B9.out.alloc (.cells #[.slice X16 n16 c16, .int .i64 k16, .slice Y16 p16 d16, .int .i64 q16] 70)
  have t13 := below_alloc (o := (.cells #[.slice X16 n16 c16, .int .i64 k16, .slice Y16 p16 d16, .int .i64 q16] 70)) HW.out
  have t14 := F10.out.up (below_alloc (o := (.cells #[.slice X16 n16 c16, .int .i64 k16, .slice Y16 p16 d16, .int .i64 q16] 70)) (Below.refl _ w7))
  have t15 := B10.out.alloc (.cells #[.slice X16 n16 c16, .int .i64 k16, .slice Y16 p16 d16, .int .i64 q16] 70)
  have t16 := F12.out.up (below_alloc (o := (.cells #[.slice X16 n16 c16, .int .i64 k16, .slice Y16 p16 d16, .int .i64 q16] 70)) (Below.refl _ w7))
  have t17 := B12.out.alloc (.cells #[.slice X16 n16 c16, .int .i64 k16, .slice Y16 p16 d16, .int .i64 q16] 70)
  have t18 := F14.out.up (below_alloc (o := (.cells #[.slice X16 n16 c16, .int .i64 k16, .slice Y16 p16 d16, .int .i64 q16] 70)) (Below.refl _ w7))
  have t19 := B14.out.alloc (.cells #[.slice X16 n16 c16, .int .i64 k16, .slice Y16 p16 d16, .int .i64 q16] 70)
  have t20 := F16.out.up (below_alloc (o := (.cells #[.slice X16 n16 c16, .int .i64 k16, .slice Y16 p16 d16, .int .i64 q16] 70)) (Below.refl _ w7))
  have tb := Blk.new w7 70 #[.slice X16 n16 c16, .int .i64 k16, .slice Y16 p16 d16, .int .i64 q16]
  have hz7 : (w7.alloc (.cells #[.slice X16 n16 c16, .int .i64 k16, .slice Y16 p16 d16, .int .i64 q16] 70)).heap.size = w7.heap.size + 1 := by simp
  clear FL FO FX FY FT HB BL BO BA BK FX1 FY1 B9 HW F10 B10 F12 B12 F14 B14 F16
  generalize w7.alloc (.cells #[.slice X16 n16 c16, .int .i64 k16, .slice Y16 p16 d16, .int .i64 q16] 70) = W7 at *
  have FL := Lib.hid t0
  have FO := Lib.hid t1
  have FX := Lib.hid t2
  have FY := Lib.hid t3
  have FT := Lib.hid t4
  have HB := Lib.hid t5
  have BL := Lib.hid t6
  have BO := Lib.hid t7
  have BA := Lib.hid t8
  have BK := Lib.hid t9
  have FX1 := Lib.hid t10
  have FY1 := Lib.hid t11
  have B9 := Lib.hid t12
  have HW := Lib.hid t13
  have F10 := Lib.hid t14
  have B10 := Lib.hid t15
  have F12 := Lib.hid t16
  have B12 := Lib.hid t17
  have F14 := Lib.hid t18
  have B14 := Lib.hid t19
  have F16 := Lib.hid t20
  have B16 := Lib.hid tb
  clear tb t0 t1 t2 t3 t4 t5 t6 t7 t8 t9 t10 t11 t12 t13 t14 t15 t16 t17 t18 t19 t20
  have hs18 : W3.heap.size ≤ W7.heap.size := HW.out.size
  have e0 : W7.cell? ⟨w3.heap.size, 0, none⟩ = some (.slice X1 x.t.length c1) := B9.out.cell 0
  have e1 : W7.cell? ⟨w3.heap.size, 1, none⟩ = some (.int .i64 x.k) := B9.out.cell 1
  have e2 : W7.cell? ⟨w3.heap.size, 2, none⟩ = some (.slice Y1 y.t.length d1) := B9.out.cell 2
  have e3 : W7.cell? ⟨w3.heap.size, 3, none⟩ = some (.int .i64 y.k) := B9.out.cell 3
  go_wp2_with fail
  refine (lTwin x y X1 c1 Y1 d1 (by omega) (by omega) _ FX1.out FY1.out).mono ?_
  rintro e w8 ⟨X18, c18, Y18, d18, rfl, hO, hP, _, hB8⟩
  clear e0 e1 e2 e3
  have t0 := FL.out.up hB8
  have t1 := FO.out.up hB8
  have t2 := FX.out.up hB8
  have t3 := FY.out.up hB8
  have t4 := FT.out.up hB8
  have t5 := below_up HB.out hB8
  have t6 := BL.out.below hB8 BL.out.lt
  have t7 := BO.out.below hB8 BO.out.lt
  have t8 := BA.out.below hB8 BA.out.lt
  have t9 := BK.out.below hB8 BK.out.lt
  have t10 := FX1.out.up hB8
  have t11 := FY1.out.up hB8
  have t12 := B9.out.below hB8 B9.out.lt
  have t13 := below_up HW.out hB8
  have t14 := F10.out.up hB8
  have t15 := B10.out.below hB8 B10.out.lt
  have t16 := F12.out.up hB8
  have t17 := B12.out.below hB8 B12.out.lt
  have t18 := F14.out.up hB8
  have t19 := B14.out.below hB8 B14.out.lt
  have t20 := F16.out.up hB8
  have t21 := B16.out.below hB8 B16.out.lt
  clear FL FO FX FY FT HB BL BO BA BK FX1 FY1 B9 HW F10 B10 F12 B12 F14 B14 F16 B16 hB8
  have FL := Lib.hid t0
  have FO := Lib.hid t1
  have FX := Lib.hid t2
  have FY := Lib.hid t3
  have FT := Lib.hid t4
  have HB := Lib.hid t5
  have BL := Lib.hid t6
  have BO := Lib.hid t7
  have BA := Lib.hid t8
  have BK := Lib.hid t9
  have FX1 := Lib.hid t10
  have FY1 := Lib.hid t11
  have B9 := Lib.hid t12
  have HW := Lib.hid t13
  have F10 := Lib.hid t14
  have B10 := Lib.hid t15
  have F12 := Lib.hid t16
  have B12 := Lib.hid t17
  have F14 := Lib.hid t18
  have B14 := Lib.hid t19
  have F16 := Lib.hid t20
  have B16 := Lib.hid t21
  clear t0 t1 t2 t3 t4 t5 t6 t7 t8 t9 t10 t11 t12 t13 t14 t15 t16 t17 t18 t19 t20 t21
  have F18 := Lib.hid (RetL.of_own (m := ⟨x, y⟩) hO hP)
  clear hO hP
  go_upto_region 9 with fail
  have t0 := FL.out.up (below_alloc (o := (.cells #[.slice X18 x.t.length c18, .int .i64 x.k, .slice Y18 y.t.length d18, .int .i64 y.k] 70)) (Below.refl _ w8))
  have t1 := FO.out.up (below_alloc (o := (.cells #[.slice X18 x.t.length c18, .int .i64 x.k, .slice Y18 y.t.length d18, .int .i64 y.k] 70)) (Below.refl _ w8))
  have t2 := FX.out.up (below_alloc (o := (.cells #[.slice X18 x.t.length c18, .int .i64 x.k, .slice Y18 y.t.length d18, .int .i64 y.k] 70)) (Below.refl _ w8))
  have t3 := FY.out.up (below_alloc (o := (.cells #[.slice X18 x.t.length c18, .int .i64 x.k, .slice Y18 y.t.length d18, .int .i64 y.k] 70)) (Below.refl _ w8))
  have t4 := FT.out.up (below_alloc (o := (.cells #[.slice X18 x.t.length c18, .int .i64 x.k, .slice Y18 y.t.length d18, .int .i64 y.k] 70)) (Below.refl _ w8))
  have t5 := below_alloc (o := (.cells #[.slice X18 x.t.length c18, .int .i64 x.k, .slice Y18 y.t.length d18, .int .i64 y.k] 70)) HB.out
  have t6 := BL.out.alloc (.cells #[.slice X18 x.t.length c18, .int .i64 x.k, .slice Y18 y.t.length d18, .int .i64 y.k] 70)
  have t7 := BO.out.alloc (.cells #[.slice X18 x.t.length c18, .int .i64 x.k, .slice Y18 y.t.length d18, .int .i64 y.k] 70)
  have t8 := BA.out.alloc (.cells #[.slice X18 x.t.length c18, .int .i64 x.k, .slice Y18 y.t.length d18, .int .i64 y.k] 70)
  have t9 := BK.out.alloc (.cells #[.slice X18 x.t.length c18, .int .i64 x.k, .slice Y18 y.t.length d18, .int .i64 y.k] 70)
  have t10 := FX1.out.up (below_alloc (o := (.cells #[.slice X18 x.t.length c18, .int .i64 x.k, .slice Y18 y.t.length d18, .int .i64 y.k] 70)) (Below.refl _ w8))
  have t11 := FY1.out.up (below_alloc (o := (.cells #[.slice X18 x.t.length c18, .int .i64 x.k, .slice Y18 y.t.length d18, .int .i64 y.k] 70)) (Below.refl _ w8))
  have t12 := B9.out.alloc (.cells #[.slice X18 x.t.length c18, .int .i64 x.k, .slice Y18 y.t.length d18, .int .i64 y.k] 70)
  have t13 := below_alloc (o := (.cells #[.slice X18 x.t.length c18, .int .i64 x.k, .slice Y18 y.t.length d18, .int .i64 y.k] 70)) HW.out
  have t14 := F10.out.up (below_alloc (o := (.cells #[.slice X18 x.t.length c18, .int .i64 x.k, .slice Y18 y.t.length d18, .int .i64 y.k] 70)) (Below.refl _ w8))
  have t15 := B10.out.alloc (.cells #[.slice X18 x.t.length c18, .int .i64 x.k, .slice Y18 y.t.length d18, .int .i64 y.k] 70)
  have t16 := F12.out.up (below_alloc (o := (.cells #[.slice X18 x.t.length c18, .int .i64 x.k, .slice Y18 y.t.length d18, .int .i64 y.k] 70)) (Below.refl _ w8))
  have t17 := B12.out.alloc (.cells #[.slice X18 x.t.length c18, .int .i64 x.k, .slice Y18 y.t.length d18, .int .i64 y.k] 70)
  have t18 := F14.out.up (below_alloc (o := (.cells #[.slice X18 x.t.length c18, .int .i64 x.k, .slice Y18 y.t.length d18, .int .i64 y.k] 70)) (Below.refl _ w8))
  have t19 := B14.out.alloc (.cells #[.slice X18 x.t.length c18, .int .i64 x.k, .slice Y18 y.t.length d18, .int .i64 y.k] 70)
  have t20 := F16.out.up (below_alloc (o := (.cells #[.slice X18 x.t.length c18, .int .i64 x.k, .slice Y18 y.t.length d18, .int .i64 y.k] 70)) (Below.refl _ w8))
  have t21 := B16.out.alloc (.cells #[.slice X18 x.t.length c18, .int .i64 x.k, .slice Y18 y.t.length d18, .int .i64 y.k] 70)
  have t22 := F18.out.up (below_alloc (o := (.cells #[.slice X18 x.t.length c18, .int .i64 x.k, .slice Y18 y.t.length d18, .int .i64 y.k] 70)) (Below.refl _ w8))
  have tb := Blk.new w8 70 #[.slice X18 x.t.length c18, .int .i64 x.k, .slice Y18 y.t.length d18, .int .i64 y.k]
  have hz8 : (w8.alloc (.cells #[.slice X18 x.t.length c18, .int .i64 x.k, .slice Y18 y.t.length d18, .int .i64 y.k] 70)).heap.size = w8.heap.size + 1 := by simp
  clear FL FO FX FY FT HB BL BO BA BK FX1 FY1 B9 HW F10 B10 F12 B12 F14 B14 F16 B16 F18
  generalize w8.alloc (.cells #[.slice X18 x.t.length c18, .int .i64 x.k, .slice Y18 y.t.length d18, .int .i64 y.k] 70) = W8 at *
  have FL := Lib.hid t0
  have FO := Lib.hid t1
  have FX := Lib.hid t2
  have FY := Lib.hid t3
  have FT := Lib.hid t4
  have HB := Lib.hid t5
  have BL := Lib.hid t6
  have BO := Lib.hid t7
  have BA := Lib.hid t8
  have BK := Lib.hid t9
  have FX1 := Lib.hid t10
  have FY1 := Lib.hid t11
  have B9 := Lib.hid t12
  have HW := Lib.hid t13
  have F10 := Lib.hid t14
  have B10 := Lib.hid t15
  have F12 := Lib.hid t16
  have B12 := Lib.hid t17
  have F14 := Lib.hid t18
  have B14 := Lib.hid t19
  have F16 := Lib.hid t20
  have B16 := Lib.hid t21
  have F18 := Lib.hid t22
  have B18 := Lib.hid tb
  clear tb t0 t1 t2 t3 t4 t5 t6 t7 t8 t9 t10 t11 t12 t13 t14 t15 t16 t17 t18 t19 t20 t21 t22
  have HS9 : Hid (∀ (v v' : Value) (W : World), Below W8.heap.size W8 W → ((v = (.agg #[.slice X10 n10 c10, .int .i64 k10, .slice Y10 p10 d10, .int .i64 q10]) ∧ v' = (.agg #[.slice X12 n12 c12, .int .i64 k12, .slice Y12 p12 d12, .int .i64 q12])) ∨ (v = (.agg #[.slice X14 n14 c14, .int .i64 k14, .slice Y14 p14 d14, .int .i64 q14]) ∧ v' = (.agg #[.slice X16 n16 c16, .int .i64 k16, .slice Y16 p16 d16, .int .i64 q16]))) → Calls Try.prog 35 #[v, v'] W fun e w' => e = .returned (.bool true) ∧ Below W.heap.size W w') := fun v v' W hW h => by
    rcases h with ⟨rfl, rfl⟩ | ⟨rfl, rfl⟩
    · have := rSameI ((RetL.is_ F10.out).up hW) ((RetL.is_ F12.out).up hW)
      rwa [sameL_self] at this
    · have := rSameI ((RetL.is_ F14.out).up hW) ((RetL.is_ F16.out).up hW)
      rwa [sameL_self] at this
  have ea0 : W8.cell? ⟨w3.heap.size, 0, none⟩ = some (.slice X1 x.t.length c1) := B9.out.cell 0
  have ea1 : W8.cell? ⟨w3.heap.size, 1, none⟩ = some (.int .i64 x.k) := B9.out.cell 1
  have ea2 : W8.cell? ⟨w3.heap.size, 2, none⟩ = some (.slice Y1 y.t.length d1) := B9.out.cell 2
  have ea3 : W8.cell? ⟨w3.heap.size, 3, none⟩ = some (.int .i64 y.k) := B9.out.cell 3
  have eb0 : W8.cell? ⟨w.heap.size, 0, none⟩ = some (.slice X x.t.length ca) := BL.out.cell 0
  have eb1 : W8.cell? ⟨w.heap.size, 1, none⟩ = some (.int .i64 x.k) := BL.out.cell 1
  have eb2 : W8.cell? ⟨w.heap.size, 2, none⟩ = some (.slice Y y.t.length cb) := BL.out.cell 2
  have eb3 : W8.cell? ⟨w.heap.size, 3, none⟩ = some (.int .i64 y.k) := BL.out.cell 3
  have ec0 : W8.cell? ⟨w4.heap.size, 0, none⟩ = some (.slice X10 n10 c10) := B10.out.cell 0
  have ec1 : W8.cell? ⟨w4.heap.size, 1, none⟩ = some (.int .i64 k10) := B10.out.cell 1
  have ec2 : W8.cell? ⟨w4.heap.size, 2, none⟩ = some (.slice Y10 p10 d10) := B10.out.cell 2
  have ec3 : W8.cell? ⟨w4.heap.size, 3, none⟩ = some (.int .i64 q10) := B10.out.cell 3
  have ed0 : W8.cell? ⟨w5.heap.size, 0, none⟩ = some (.slice X12 n12 c12) := B12.out.cell 0
  have ed1 : W8.cell? ⟨w5.heap.size, 1, none⟩ = some (.int .i64 k12) := B12.out.cell 1
  have ed2 : W8.cell? ⟨w5.heap.size, 2, none⟩ = some (.slice Y12 p12 d12) := B12.out.cell 2
  have ed3 : W8.cell? ⟨w5.heap.size, 3, none⟩ = some (.int .i64 q12) := B12.out.cell 3
  have ee0 : W8.cell? ⟨w6.heap.size, 0, none⟩ = some (.slice X14 n14 c14) := B14.out.cell 0
  have ee1 : W8.cell? ⟨w6.heap.size, 1, none⟩ = some (.int .i64 k14) := B14.out.cell 1
  have ee2 : W8.cell? ⟨w6.heap.size, 2, none⟩ = some (.slice Y14 p14 d14) := B14.out.cell 2
  have ee3 : W8.cell? ⟨w6.heap.size, 3, none⟩ = some (.int .i64 q14) := B14.out.cell 3
  have ef0 : W8.cell? ⟨w7.heap.size, 0, none⟩ = some (.slice X16 n16 c16) := B16.out.cell 0
  have ef1 : W8.cell? ⟨w7.heap.size, 1, none⟩ = some (.int .i64 k16) := B16.out.cell 1
  have ef2 : W8.cell? ⟨w7.heap.size, 2, none⟩ = some (.slice Y16 p16 d16) := B16.out.cell 2
  have ef3 : W8.cell? ⟨w7.heap.size, 3, none⟩ = some (.int .i64 q16) := B16.out.cell 3
  have kq0 := cell_regrown ea0
  have kq1 := cell_regrown ea1
  have kq2 := cell_regrown ea2
  have kq3 := cell_regrown ea3
  have kq4 := cell_regrown eb0
  have kq5 := cell_regrown eb1
  have kq6 := cell_regrown eb2
  have kq7 := cell_regrown eb3
  have kq8 := cell_regrown ec0
  have kq9 := cell_regrown ec1
  have kq10 := cell_regrown ec2
  have kq11 := cell_regrown ec3
  have kq12 := cell_regrown ed0
  have kq13 := cell_regrown ed1
  have kq14 := cell_regrown ed2
  have kq15 := cell_regrown ed3
  have kq16 := cell_regrown ee0
  have kq17 := cell_regrown ee1
  have kq18 := cell_regrown ee2
  have kq19 := cell_regrown ee3
  have kq20 := cell_regrown ef0
  have kq21 := cell_regrown ef1
  have kq22 := cell_regrown ef2
  have kq23 := cell_regrown ef3
  go_wp2_with fail
  refine wp_region_quiet_below (by kernel_rfl) (by kernel_rfl) ?_
  repeat (go_big_quiet_step (first | fail | (exact Calls.regrown_of (lCheck x y X1 c1 Y1 d1 _)) | (exact Calls.regrown_of (rCheck x y X ca Y cb _)) | (exact Calls.regrown_of (HS9.out _ _ _ (below_regrown _ _ _) (by first | exact Or.inl ⟨rfl, rfl⟩ | exact Or.inr ⟨rfl, rfl⟩)))))
  refine wpQuiet_nil ?_
  intro _ hw'
  obtain ⟨⟨dq, osq⟩, hw''⟩ := hw'
  subst hw''
  have hBq := below_regrown W8 dq osq
  clear HS9 kq0 kq1 kq2 kq3 kq4 kq5 kq6 kq7 kq8 kq9 kq10 kq11 kq12 kq13 kq14 kq15 kq16 kq17 kq18 kq19 kq20 kq21 kq22 kq23 ea0 ea1 ea2 ea3 eb0 eb1 eb2 eb3 ec0 ec1 ec2 ec3 ed0 ed1 ed2 ed3 ee0 ee1 ee2 ee3 ef0 ef1 ef2 ef3
  generalize grow (redrawn W8 dq) osq = w90 at *
  have t0 := FL.out.up hBq
  have t1 := FO.out.up hBq
  have t2 := FX.out.up hBq
  have t3 := FY.out.up hBq
  have t4 := FT.out.up hBq
  have t5 := below_up HB.out hBq
  have t6 := BL.out.below hBq BL.out.lt
  have t7 := BO.out.below hBq BO.out.lt
  have t8 := BA.out.below hBq BA.out.lt
  have t9 := BK.out.below hBq BK.out.lt
  have t10 := FX1.out.up hBq
  have t11 := FY1.out.up hBq
  have t12 := B9.out.below hBq B9.out.lt
  have t13 := below_up HW.out hBq
  have t14 := F10.out.up hBq
  have t15 := B10.out.below hBq B10.out.lt
  have t16 := F12.out.up hBq
  have t17 := B12.out.below hBq B12.out.lt
  have t18 := F14.out.up hBq
  have t19 := B14.out.below hBq B14.out.lt
  have t20 := F16.out.up hBq
  have t21 := B16.out.below hBq B16.out.lt
  have t22 := F18.out.up hBq
  have t23 := B18.out.below hBq B18.out.lt
  clear FL FO FX FY FT HB BL BO BA BK FX1 FY1 B9 HW F10 B10 F12 B12 F14 B14 F16 B16 F18 B18 hBq
  have FL := Lib.hid t0
  have FO := Lib.hid t1
  have FX := Lib.hid t2
  have FY := Lib.hid t3
  have FT := Lib.hid t4
  have HB := Lib.hid t5
  have BL := Lib.hid t6
  have BO := Lib.hid t7
  have BA := Lib.hid t8
  have BK := Lib.hid t9
  have FX1 := Lib.hid t10
  have FY1 := Lib.hid t11
  have B9 := Lib.hid t12
  have HW := Lib.hid t13
  have F10 := Lib.hid t14
  have B10 := Lib.hid t15
  have F12 := Lib.hid t16
  have B12 := Lib.hid t17
  have F14 := Lib.hid t18
  have B14 := Lib.hid t19
  have F16 := Lib.hid t20
  have B16 := Lib.hid t21
  have F18 := Lib.hid t22
  have B18 := Lib.hid t23
  clear t0 t1 t2 t3 t4 t5 t6 t7 t8 t9 t10 t11 t12 t13 t14 t15 t16 t17 t18 t19 t20 t21 t22 t23
  have eb0 : w90.cell? ⟨w.heap.size, 0, none⟩ = some (.slice X x.t.length ca) := BL.out.cell 0
  have eb1 : w90.cell? ⟨w.heap.size, 1, none⟩ = some (.int .i64 x.k) := BL.out.cell 1
  have eb2 : w90.cell? ⟨w.heap.size, 2, none⟩ = some (.slice Y y.t.length cb) := BL.out.cell 2
  have eb3 : w90.cell? ⟨w.heap.size, 3, none⟩ = some (.int .i64 y.k) := BL.out.cell 3
  have eo0 : w90.cell? ⟨w.heap.size + 1, 0, none⟩ = some (.slice X' x'.t.length ca') := BO.out.cell 0
  have eo1 : w90.cell? ⟨w.heap.size + 1, 1, none⟩ = some (.int .i64 x'.k) := BO.out.cell 1
  have eo2 : w90.cell? ⟨w.heap.size + 1, 2, none⟩ = some (.slice Y' y'.t.length cb') := BO.out.cell 2
  have eo3 : w90.cell? ⟨w.heap.size + 1, 3, none⟩ = some (.int .i64 y'.k) := BO.out.cell 3
  have et0 : w90.cell? ⟨w8.heap.size, 0, none⟩ = some (.slice X18 x.t.length c18) := B18.out.cell 0
  have et1 : w90.cell? ⟨w8.heap.size, 1, none⟩ = some (.int .i64 x.k) := B18.out.cell 1
  have et2 : w90.cell? ⟨w8.heap.size, 2, none⟩ = some (.slice Y18 y.t.length d18) := B18.out.cell 2
  have et3 : w90.cell? ⟨w8.heap.size, 3, none⟩ = some (.int .i64 y.k) := B18.out.cell 3
  have kq0 := cell_regrown eb0
  have kq1 := cell_regrown eb1
  have kq2 := cell_regrown eb2
  have kq3 := cell_regrown eb3
  have kq4 := cell_regrown eo0
  have kq5 := cell_regrown eo1
  have kq6 := cell_regrown eo2
  have kq7 := cell_regrown eo3
  have kq8 := cell_regrown et0
  have kq9 := cell_regrown et1
  have kq10 := cell_regrown et2
  have kq11 := cell_regrown et3
  have HS10 : Hid (∀ (v v' : Value) (W : World) (b : Bool), Below w90.heap.size w90 W → ((v = (.agg #[.slice X x.t.length ca, .int .i64 x.k, .slice Y y.t.length cb, .int .i64 y.k]) ∧ v' = (.agg #[.slice X' x'.t.length ca', .int .i64 x'.k, .slice Y' y'.t.length cb', .int .i64 y'.k]) ∧ b = sameL ⟨x, y⟩ ⟨x', y'⟩) ∨ (v = (.agg #[.slice X18 x.t.length c18, .int .i64 x.k, .slice Y18 y.t.length d18, .int .i64 y.k]) ∧ v' = (.agg #[.slice X x.t.length ca, .int .i64 x.k, .slice Y y.t.length cb, .int .i64 y.k]) ∧ b = true)) → Calls Try.prog 35 #[v, v'] W fun e w' => e = .returned (.bool b) ∧ Below W.heap.size W w') := fun v v' W b hW h => by
    rcases h with ⟨rfl, rfl, rfl⟩ | ⟨rfl, rfl, rfl⟩
    · exact rSameI (FL.out.up hW) (FO.out.up hW)
    · have := rSameI ((RetL.is_ F18.out).up hW) (FL.out.up hW)
      rwa [sameL_self] at this
  have HL10 : Hid (∀ W : World, Below w90.heap.size w90 W → Calls Try.prog 36 #[(.agg #[.slice X x.t.length ca, .int .i64 x.k, .slice Y y.t.length cb, .int .i64 y.k]), (.agg #[.slice X' x'.t.length ca', .int .i64 x'.k, .slice Y' y'.t.length cb', .int .i64 y'.k])] W fun e w' => e = .returned (.bool (sameL ⟨x, y⟩ ⟨x', y'⟩)) ∧ Below W.heap.size W w') := fun W hW => lSameI (FL.out.up hW) (FO.out.up hW)
  generalize sameL ⟨x, y⟩ ⟨x', y'⟩ = sb at *
  go_wp2_with fail
  refine wp_region_quiet_below (by kernel_rfl) (by kernel_rfl) ?_
  repeat (go_big_quiet_step (first | fail | (exact Calls.regrown_of (HL10.out _ (below_regrown _ _ _))) | (exact Calls.regrown_of (HS10.out _ _ _ sb (below_regrown _ _ _) (Or.inl ⟨rfl, rfl, rfl⟩))) | (exact Calls.regrown_of (HS10.out _ _ _ true (below_regrown _ _ _) (Or.inr ⟨rfl, rfl, rfl⟩)))))
  refine wpQuiet_nil ?_
  intro _ hw'
  obtain ⟨⟨dq, osq⟩, hw''⟩ := hw'
  subst hw''
  have hBq := below_regrown w90 dq osq
  clear HS10 HL10 kq0 kq1 kq2 kq3 kq4 kq5 kq6 kq7 kq8 kq9 kq10 kq11 eb0 eb1 eb2 eb3 eo0 eo1 eo2 eo3 et0 et1 et2 et3
  generalize grow (redrawn w90 dq) osq = w91 at *
  have t0 := FL.out.up hBq
  have t1 := FO.out.up hBq
  have t2 := FX.out.up hBq
  have t3 := FY.out.up hBq
  have t4 := FT.out.up hBq
  have t5 := below_up HB.out hBq
  have t6 := BL.out.below hBq BL.out.lt
  have t7 := BO.out.below hBq BO.out.lt
  have t8 := BA.out.below hBq BA.out.lt
  have t9 := BK.out.below hBq BK.out.lt
  have t10 := FX1.out.up hBq
  have t11 := FY1.out.up hBq
  have t12 := B9.out.below hBq B9.out.lt
  have t13 := below_up HW.out hBq
  have t14 := F10.out.up hBq
  have t15 := B10.out.below hBq B10.out.lt
  have t16 := F12.out.up hBq
  have t17 := B12.out.below hBq B12.out.lt
  have t18 := F14.out.up hBq
  have t19 := B14.out.below hBq B14.out.lt
  have t20 := F16.out.up hBq
  have t21 := B16.out.below hBq B16.out.lt
  have t22 := F18.out.up hBq
  have t23 := B18.out.below hBq B18.out.lt
  clear FL FO FX FY FT HB BL BO BA BK FX1 FY1 B9 HW F10 B10 F12 B12 F14 B14 F16 B16 F18 B18 hBq
  have FL := Lib.hid t0
  have FO := Lib.hid t1
  have FX := Lib.hid t2
  have FY := Lib.hid t3
  have FT := Lib.hid t4
  have HB := Lib.hid t5
  have BL := Lib.hid t6
  have BO := Lib.hid t7
  have BA := Lib.hid t8
  have BK := Lib.hid t9
  have FX1 := Lib.hid t10
  have FY1 := Lib.hid t11
  have B9 := Lib.hid t12
  have HW := Lib.hid t13
  have F10 := Lib.hid t14
  have B10 := Lib.hid t15
  have F12 := Lib.hid t16
  have B12 := Lib.hid t17
  have F14 := Lib.hid t18
  have B14 := Lib.hid t19
  have F16 := Lib.hid t20
  have B16 := Lib.hid t21
  have F18 := Lib.hid t22
  have B18 := Lib.hid t23
  clear t0 t1 t2 t3 t4 t5 t6 t7 t8 t9 t10 t11 t12 t13 t14 t15 t16 t17 t18 t19 t20 t21 t22 t23
  have HI : Hid (Inv w W3 (w8.heap.size) (w4.heap.size) (w6.heap.size) w91) := ⟨HB.out, HW.out, RetL.box F18.out ⟨by show x.t.length ≤ _; omega, by show y.t.length ≤ _; omega⟩ B18.out hs18, RetL.box F10.out (doL_len hx hy ht) B10.out (Nat.le_refl _), RetL.box F14.out (crashL_len hx hy) B14.out hs14⟩
  clear FL FO FX FY FT HB BL BO BA BK FX1 FY1 B9 HW F10 B10 F12 B12 F14 B14 F16 B16 F18 B18
  go_wp2_with fail
  go_loopw [21, 22, 23, 24] (fun i _ _ _ wr => ∃ k : Nat, k ≤ 2 ∧ i = .int .i64 k ∧ Hid (Inv w W3 (w8.heap.size) (w4.heap.size) (w6.heap.size) wr))
    (fun i _ _ _ _ => 2 - (intOf i).toNat)
  case atStart => exact ⟨0, by omega, rfl, HI.out⟩
  case round =>
    obtain ⟨k, hk, rfl, hI⟩ := hrel
    clear HI
    by_cases hlt : k < 2
    · have hki : (k : Int) < 2 := by omega
      have hki0 : (0 : Int) ≤ (k : Int) := by omega
      obtain ⟨A0, n0, c0, ca0, hn0, hF0⟩ := hI.out.2.2.1 k hlt
      go_wp2_with fail
      go_loopw [22] (fun i wi => ∃ j : Nat, j ≤ n0 ∧ i = .int .i64 j ∧ Hid (Inv w W3 (w8.heap.size) (w4.heap.size) (w6.heap.size) wi) ∧ wi.cell? ⟨w8.heap.size, k * 2, none⟩ = some (.slice A0 n0 c0) ∧ Hid (TFree wi W3.heap.size A0 n0))
        (fun i _ => n0 - (intOf i).toNat)
      case atStart => exact ⟨0, Nat.zero_le _, rfl, hI.out, ca0, hF0⟩
      case round =>
        obtain ⟨j0, hj0, rfl, hI0, cr0, hG0⟩ := hrel
        clear ca0 hF0
        by_cases hjn : j0 < n0
        · obtain ⟨g, o, v, rfl, hg, hgs, hc, hf⟩ := hG0.out j0 hjn
          have hji : (j0 : Int) < (n0 : Int) := by omega
          have hji0 : (0 : Int) ≤ (j0 : Int) := by omega
          go_wp2_with fail
          go_roundw
          case rel => exact ⟨j0 + 1, by omega, by go_num, Inv.store hI0.out hsb hc hg _, cell_not_byte (v := 0) cr0 hc (fun j e => by cases e), hG0.out.set_ _ _⟩
          case measure => simp [intOf]; omega
        · obtain rfl : j0 = n0 := by omega
          obtain ⟨A1, n1, c1, ca1, hn1, hF1⟩ := hI0.out.2.2.2.1 k hlt
          go_wp2_with fail
          go_loopw [23] (fun i wi => ∃ j : Nat, j ≤ n1 ∧ i = .int .i64 j ∧ Hid (Inv w W3 (w8.heap.size) (w4.heap.size) (w6.heap.size) wi) ∧ wi.cell? ⟨w4.heap.size, k * 2, none⟩ = some (.slice A1 n1 c1) ∧ Hid (TFree wi W3.heap.size A1 n1))
            (fun i _ => n1 - (intOf i).toNat)
          case atStart => exact ⟨0, Nat.zero_le _, rfl, hI0.out, ca1, hF1⟩
          case round =>
            obtain ⟨j1, hj1, rfl, hI1, cr1, hG1⟩ := hrel
            clear ca1 hF1
            by_cases hjn : j1 < n1
            · obtain ⟨g, o, v, rfl, hg, hgs, hc, hf⟩ := hG1.out j1 hjn
              have hji : (j1 : Int) < (n1 : Int) := by omega
              have hji0 : (0 : Int) ≤ (j1 : Int) := by omega
              go_wp2_with fail
              go_roundw
              case rel => exact ⟨j1 + 1, by omega, by go_num, Inv.store hI1.out hsb hc hg _, cell_not_byte (v := 0) cr1 hc (fun j e => by cases e), hG1.out.set_ _ _⟩
              case measure => simp [intOf]; omega
            · obtain rfl : j1 = n1 := by omega
              obtain ⟨A2, n2, c2, ca2, hn2, hF2⟩ := hI1.out.2.2.2.2 k hlt
              go_wp2_with fail
              go_loopw [24] (fun i wi => ∃ j : Nat, j ≤ n2 ∧ i = .int .i64 j ∧ Hid (Inv w W3 (w8.heap.size) (w4.heap.size) (w6.heap.size) wi) ∧ wi.cell? ⟨w6.heap.size, k * 2, none⟩ = some (.slice A2 n2 c2) ∧ Hid (TFree wi W3.heap.size A2 n2))
                (fun i _ => n2 - (intOf i).toNat)
              case atStart => exact ⟨0, Nat.zero_le _, rfl, hI1.out, ca2, hF2⟩
              case round =>
                obtain ⟨j2, hj2, rfl, hI2, cr2, hG2⟩ := hrel
                clear ca2 hF2
                by_cases hjn : j2 < n2
                · obtain ⟨g, o, v, rfl, hg, hgs, hc, hf⟩ := hG2.out j2 hjn
                  have hji : (j2 : Int) < (n2 : Int) := by omega
                  have hji0 : (0 : Int) ≤ (j2 : Int) := by omega
                  go_wp2_with fail
                  go_roundw
                  case rel => exact ⟨j2 + 1, by omega, by go_num, Inv.store hI2.out hsb hc hg _, cell_not_byte (v := 0) cr2 hc (fun j e => by cases e), hG2.out.set_ _ _⟩
                  case measure => simp [intOf]; omega
                · obtain rfl : j2 = n2 := by omega
                  go_wp2_with fail
                  go_roundw
                  case rel => exact ⟨k + 1, by omega, by go_num, hI2.out⟩
                  case measure => simp [intOf]; omega
    · obtain rfl : k = 2 := by omega
      have B9 := KB.out.1.below hI.out.2.1 KB.out.1.lt
      have BL := KB.out.2.1.below hI.out.2.1 KB.out.2.1.lt
      have F1 := KB.out.2.2.1.up hI.out.2.1
      have F2 := KB.out.2.2.2.up hI.out.2.1
      have HF := Lib.hid (And.intro F1 F2)
      have e0 : wr.cell? ⟨w3.heap.size, 0, none⟩ = some (.slice X1 x.t.length c1) := B9.cell 0
      have e1 : wr.cell? ⟨w3.heap.size, 1, none⟩ = some (.int .i64 x.k) := B9.cell 1
      have e2 : wr.cell? ⟨w3.heap.size, 2, none⟩ = some (.slice Y1 y.t.length d1) := B9.cell 2
      have e3 : wr.cell? ⟨w3.heap.size, 3, none⟩ = some (.int .i64 y.k) := B9.cell 3
      have f0 : wr.cell? ⟨w.heap.size, 0, none⟩ = some (.slice X x.t.length ca) := BL.cell 0
      have f1 : wr.cell? ⟨w.heap.size, 1, none⟩ = some (.int .i64 x.k) := BL.cell 1
      have f2 : wr.cell? ⟨w.heap.size, 2, none⟩ = some (.slice Y y.t.length cb) := BL.cell 2
      have f3 : wr.cell? ⟨w.heap.size, 3, none⟩ = some (.int .i64 y.k) := BL.cell 3
      clear B9 BL F1 F2
      go_wp2_with fail
      refine (rSameI HF.out.1 HF.out.2).mono ?_
      rintro e w95 ⟨rfl, hB95⟩
      rw [sameL_self]
      have HZ := Lib.hid (below_up hI.out.1 hB95)
      clear hB95 hI
      go_wp2_with fail
      go_ret
      exact ⟨rfl, HZ.out⟩
end Go.Proofs.Ytfdldbfjeamlcaa.LogTellsWalk
