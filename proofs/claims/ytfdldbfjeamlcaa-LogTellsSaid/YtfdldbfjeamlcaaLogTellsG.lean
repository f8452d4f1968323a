/- The law LogTells, where an argument is great. -/
import Derived.BigQuiet
import Derived.Deep.QuietTactic
import Derived.Deep.DeepCutAuto
import Derived.Lib.SliceRun
import Derived.Lib.QuietBelow
import Derived.IntWalk
import Derived.ProofKit
import Derived.Test.YtfdldbfjeamlcaaLogInv
namespace Go.Proofs.Ytfdldbfjeamlcaa.LogTellsG
open Go.RowKit Mem LogMath LogProg LogRef1 LogRef2 LogCrash LogAll LogInv
open Go.Sort (grow)
set_option linter.unusedVariables false
set_option linter.unusedSimpArgs false

set_option maxRecDepth 100000 in
set_option maxHeartbeats 8000000 in
theorem tells_A (x y : AV) (X : Option Addr) (ca : Nat) (Y : Option Addr) (cb : Nat) (x' y' : AV) (X' : Option Addr) (ca' : Nat) (Y' : Option Addr) (cb' : Nat) (kd ar : Int) (T : Option Addr) (ct : Nat) (tx : List Int) (m n : Int) (h0 : greatL x y = true) (w : World) :
    Calls Try.prog 8 #[.agg #[.slice X x.t.length ca, .int .i64 x.k, .slice Y y.t.length cb, .int .i64 y.k], .agg #[.slice X' x'.t.length ca', .int .i64 x'.k, .slice Y' y'.t.length cb', .int .i64 y'.k], .agg #[.int .u8 kd, .int .i64 ar, .slice T tx.length ct], .agg #[.int .i64 m, .int .i64 n]] w fun e w' => e = .returned (.bool true) ∧ Below w.heap.size w w' := by
  have G0 := Lib.hid h0
  clear h0
  go_enter Try.func8, Try.ntmps8
  go_upto_region 1 with fail
  have t5 := below_alloc (o := (.cells #[.int .i64 m, .int .i64 n] 73)) (below_alloc (o := (.cells #[.int .u8 kd, .int .i64 ar, .slice T tx.length ct] 72)) (below_alloc (o := (.cells #[.slice X' x'.t.length ca', .int .i64 x'.k, .slice Y' y'.t.length cb', .int .i64 y'.k] 70)) (below_alloc (o := (.cells #[.slice X x.t.length ca, .int .i64 x.k, .slice Y y.t.length cb, .int .i64 y.k] 70)) (Below.refl w.heap.size w))))
  have t6 := (((Blk.new w 70 #[.slice X x.t.length ca, .int .i64 x.k, .slice Y y.t.length cb, .int .i64 y.k]).alloc (.cells #[.slice X' x'.t.length ca', .int .i64 x'.k, .slice Y' y'.t.length cb', .int .i64 y'.k] 70)).alloc (.cells #[.int .u8 kd, .int .i64 ar, .slice T tx.length ct] 72)).alloc (.cells #[.int .i64 m, .int .i64 n] 73)
  have t7 := ((blk1 w 70 #[.slice X' x'.t.length ca', .int .i64 x'.k, .slice Y' y'.t.length cb', .int .i64 y'.k] (o := (.cells #[.slice X x.t.length ca, .int .i64 x.k, .slice Y y.t.length cb, .int .i64 y.k] 70))).alloc (.cells #[.int .u8 kd, .int .i64 ar, .slice T tx.length ct] 72)).alloc (.cells #[.int .i64 m, .int .i64 n] 73)
  have t8 := (blk2 w 72 #[.int .u8 kd, .int .i64 ar, .slice T tx.length ct] (o := (.cells #[.slice X x.t.length ca, .int .i64 x.k, .slice Y y.t.length cb, .int .i64 y.k] 70)) (o' := (.cells #[.slice X' x'.t.length ca', .int .i64 x'.k, .slice Y' y'.t.length cb', .int .i64 y'.k] 70))).alloc (.cells #[.int .i64 m, .int .i64 n] 73)
  generalize (((w.alloc (.cells #[.slice X x.t.length ca, .int .i64 x.k, .slice Y y.t.length cb, .int .i64 y.k] 70)).alloc (.cells #[.slice X' x'.t.length ca', .int .i64 x'.k, .slice Y' y'.t.length cb', .int .i64 y'.k] 70)).alloc (.cells #[.int .u8 kd, .int .i64 ar, .slice T tx.length ct] 72)).alloc (.cells #[.int .i64 m, .int .i64 n] 73) = w0 at *
  have HB := Lib.hid t5
  have BL := Lib.hid t6
  have BO := Lib.hid t7
  have BA := Lib.hid t8
  clear t5 t6 t7 t8
  have e0 : w0.cell? ⟨w.heap.size, 0, none⟩ = some (.slice X x.t.length ca) := BL.out.cell 0
  have e1 : w0.cell? ⟨w.heap.size, 1, none⟩ = some (.int .i64 x.k) := BL.out.cell 1
  have e2 : w0.cell? ⟨w.heap.size, 2, none⟩ = some (.slice Y y.t.length cb) := BL.out.cell 2
  have e3 : w0.cell? ⟨w.heap.size, 3, none⟩ = some (.int .i64 y.k) := BL.out.cell 3
  go_wp2_with fail
  refine (rGreat x y X ca Y cb _).mono ?_
  rintro e w1 ⟨rfl, hB1⟩
  clear e0 e1 e2 e3
  rw [G0.out]
  have t0 := below_up HB.out hB1
  have t1 := BL.out.below hB1 BL.out.lt
  have t2 := BO.out.below hB1 BO.out.lt
  have t3 := BA.out.below hB1 BA.out.lt
  clear HB BL BO BA hB1
  have HB := Lib.hid t0
  have BL := Lib.hid t1
  have BO := Lib.hid t2
  have BA := Lib.hid t3
  clear t0 t1 t2 t3
  go_wp2_with fail
  go_ret
  exact ⟨rfl, HB.out⟩
set_option maxRecDepth 100000 in
set_option maxHeartbeats 8000000 in
theorem tells_B (x y : AV) (X : Option Addr) (ca : Nat) (Y : Option Addr) (cb : Nat) (x' y' : AV) (X' : Option Addr) (ca' : Nat) (Y' : Option Addr) (cb' : Nat) (kd ar : Int) (T : Option Addr) (ct : Nat) (tx : List Int) (m n : Int) (h0 : greatL x y = false) (h1 : greatL x' y' = true) (w : World) :
    Calls Try.prog 8 #[.agg #[.slice X x.t.length ca, .int .i64 x.k, .slice Y y.t.length cb, .int .i64 y.k], .agg #[.slice X' x'.t.length ca', .int .i64 x'.k, .slice Y' y'.t.length cb', .int .i64 y'.k], .agg #[.int .u8 kd, .int .i64 ar, .slice T tx.length ct], .agg #[.int .i64 m, .int .i64 n]] w fun e w' => e = .returned (.bool true) ∧ Below w.heap.size w w' := by
  have G0 := Lib.hid h0
  clear h0
  have G1 := Lib.hid h1
  clear h1
  go_enter Try.func8, Try.ntmps8
  go_upto_region 1 with fail
  have t5 := below_alloc (o := (.cells #[.int .i64 m, .int .i64 n] 73)) (below_alloc (o := (.cells #[.int .u8 kd, .int .i64 ar, .slice T tx.length ct] 72)) (below_alloc (o := (.cells #[.slice X' x'.t.length ca', .int .i64 x'.k, .slice Y' y'.t.length cb', .int .i64 y'.k] 70)) (below_alloc (o := (.cells #[.slice X x.t.length ca, .int .i64 x.k, .slice Y y.t.length cb, .int .i64 y.k] 70)) (Below.refl w.heap.size w))))
  have t6 := (((Blk.new w 70 #[.slice X x.t.length ca, .int .i64 x.k, .slice Y y.t.length cb, .int .i64 y.k]).alloc (.cells #[.slice X' x'.t.length ca', .int .i64 x'.k, .slice Y' y'.t.length cb', .int .i64 y'.k] 70)).alloc (.cells #[.int .u8 kd, .int .i64 ar, .slice T tx.length ct] 72)).alloc (.cells #[.int .i64 m, .int .i64 n] 73)
  have t7 := ((blk1 w 70 #[.slice X' x'.t.length ca', .int .i64 x'.k, .slice Y' y'.t.length cb', .int .i64 y'.k] (o := (.cells #[.slice X x.t.length ca, .int .i64 x.k, .slice Y y.t.length cb, .int .i64 y.k] 70))).alloc (.cells #[.int .u8 kd, .int .i64 ar, .slice T tx.length ct] 72)).alloc (.cells #[.int .i64 m, .int .i64 n] 73)
  have t8 := (blk2 w 72 #[.int .u8 kd, .int .i64 ar, .slice T tx.length ct] (o := (.cells #[.slice X x.t.length ca, .int .i64 x.k, .slice Y y.t.length cb, .int .i64 y.k] 70)) (o' := (.cells #[.slice X' x'.t.length ca', .int .i64 x'.k, .slice Y' y'.t.length cb', .int .i64 y'.k] 70))).alloc (.cells #[.int .i64 m, .int .i64 n] 73)
  generalize (((w.alloc (.cells #[.slice X x.t.length ca, .int .i64 x.k, .slice Y y.t.length cb, .int .i64 y.k] 70)).alloc (.cells #[.slice X' x'.t.length ca', .int .i64 x'.k, .slice Y' y'.t.length cb', .int .i64 y'.k] 70)).alloc (.cells #[.int .u8 kd, .int .i64 ar, .slice T tx.length ct] 72)).alloc (.cells #[.int .i64 m, .int .i64 n] 73) = w0 at *
  have HB := Lib.hid t5
  have BL := Lib.hid t6
  have BO := Lib.hid t7
  have BA := Lib.hid t8
  clear t5 t6 t7 t8
  have e0 : w0.cell? ⟨w.heap.size, 0, none⟩ = some (.slice X x.t.length ca) := BL.out.cell 0
  have e1 : w0.cell? ⟨w.heap.size, 1, none⟩ = some (.int .i64 x.k) := BL.out.cell 1
  have e2 : w0.cell? ⟨w.heap.size, 2, none⟩ = some (.slice Y y.t.length cb) := BL.out.cell 2
  have e3 : w0.cell? ⟨w.heap.size, 3, none⟩ = some (.int .i64 y.k) := BL.out.cell 3
  go_wp2_with fail
  refine (rGreat x y X ca Y cb _).mono ?_
  rintro e w1 ⟨rfl, hB1⟩
  clear e0 e1 e2 e3
  rw [G0.out]
  have t0 := below_up HB.out hB1
  have t1 := BL.out.below hB1 BL.out.lt
  have t2 := BO.out.below hB1 BO.out.lt
  have t3 := BA.out.below hB1 BA.out.lt
  clear HB BL BO BA hB1
  have HB := Lib.hid t0
  have BL := Lib.hid t1
  have BO := Lib.hid t2
  have BA := Lib.hid t3
  clear t0 t1 t2 t3
  have e0 : w1.cell? ⟨w.heap.size + 1, 0, none⟩ = some (.slice X' x'.t.length ca') := BO.out.cell 0
  have e1 : w1.cell? ⟨w.heap.size + 1, 1, none⟩ = some (.int .i64 x'.k) := BO.out.cell 1
  have e2 : w1.cell? ⟨w.heap.size + 1, 2, none⟩ = some (.slice Y' y'.t.length cb') := BO.out.cell 2
  have e3 : w1.cell? ⟨w.heap.size + 1, 3, none⟩ = some (.int .i64 y'.k) := BO.out.cell 3
  go_wp2_with fail
  refine (rGreat x' y' X' ca' Y' cb' _).mono ?_
  rintro e w2 ⟨rfl, hB2⟩
  clear e0 e1 e2 e3
  rw [G1.out]
  have t0 := below_up HB.out hB2
  have t1 := BL.out.below hB2 BL.out.lt
  have t2 := BO.out.below hB2 BO.out.lt
  have t3 := BA.out.below hB2 BA.out.lt
  clear HB BL BO BA hB2
  have HB := Lib.hid t0
  have BL := Lib.hid t1
  have BO := Lib.hid t2
  have BA := Lib.hid t3
  clear t0 t1 t2 t3
  go_wp2_with fail
  go_ret
  exact ⟨rfl, HB.out⟩
set_option maxRecDepth 100000 in
set_option maxHeartbeats 8000000 in
theorem tells_C (x y : AV) (X : Option Addr) (ca : Nat) (Y : Option Addr) (cb : Nat) (x' y' : AV) (X' : Option Addr) (ca' : Nat) (Y' : Option Addr) (cb' : Nat) (kd ar : Int) (T : Option Addr) (ct : Nat) (tx : List Int) (m n : Int) (h0 : greatL x y = false) (h1 : greatL x' y' = false) (gt : (300000 : Int) < (tx.length : Int)) (w : World) :
    Calls Try.prog 8 #[.agg #[.slice X x.t.length ca, .int .i64 x.k, .slice Y y.t.length cb, .int .i64 y.k], .agg #[.slice X' x'.t.length ca', .int .i64 x'.k, .slice Y' y'.t.length cb', .int .i64 y'.k], .agg #[.int .u8 kd, .int .i64 ar, .slice T tx.length ct], .agg #[.int .i64 m, .int .i64 n]] w fun e w' => e = .returned (.bool true) ∧ Below w.heap.size w w' := by
  have G0 := Lib.hid h0
  clear h0
  have G1 := Lib.hid h1
  clear h1
  go_enter Try.func8, Try.ntmps8
  go_upto_region 1 with fail
  have t5 := below_alloc (o := (.cells #[.int .i64 m, .int .i64 n] 73)) (below_alloc (o := (.cells #[.int .u8 kd, .int .i64 ar, .slice T tx.length ct] 72)) (below_alloc (o := (.cells #[.slice X' x'.t.length ca', .int .i64 x'.k, .slice Y' y'.t.length cb', .int .i64 y'.k] 70)) (below_alloc (o := (.cells #[.slice X x.t.length ca, .int .i64 x.k, .slice Y y.t.length cb, .int .i64 y.k] 70)) (Below.refl w.heap.size w))))
  have t6 := (((Blk.new w 70 #[.slice X x.t.length ca, .int .i64 x.k, .slice Y y.t.length cb, .int .i64 y.k]).alloc (.cells #[.slice X' x'.t.length ca', .int .i64 x'.k, .slice Y' y'.t.length cb', .int .i64 y'.k] 70)).alloc (.cells #[.int .u8 kd, .int .i64 ar, .slice T tx.length ct] 72)).alloc (.cells #[.int .i64 m, .int .i64 n] 73)
  have t7 := ((blk1 w 70 #[.slice X' x'.t.length ca', .int .i64 x'.k, .slice Y' y'.t.length cb', .int .i64 y'.k] (o := (.cells #[.slice X x.t.length ca, .int .i64 x.k, .slice Y y.t.length cb, .int .i64 y.k] 70))).alloc (.cells #[.int .u8 kd, .int .i64 ar, .slice T tx.length ct] 72)).alloc (.cells #[.int .i64 m, .int .i64 n] 73)
  have t8 := (blk2 w 72 #[.int .u8 kd, .int .i64 ar, .slice T tx.length ct] (o := (.cells #[.slice X x.t.length ca, .int .i64 x.k, .slice Y y.t.length cb, .int .i64 y.k] 70)) (o' := (.cells #[.slice X' x'.t.length ca', .int .i64 x'.k, .slice Y' y'.t.length cb', .int .i64 y'.k] 70))).alloc (.cells #[.int .i64 m, .int .i64 n] 73)
  generalize (((w.alloc (.cells #[.slice X x.t.length ca, .int .i64 x.k, .slice Y y.t.length cb, .int .i64 y.k] 70)).alloc (.cells #[.slice X' x'.t.length ca', .int .i64 x'.k, .slice Y' y'.t.length cb', .int .i64 y'.k] 70)).alloc (.cells #[.int .u8 kd, .int .i64 ar, .slice T tx.length ct] 72)).alloc (.cells #[.int .i64 m, .int .i64 n] 73) = w0 at *
  have HB := Lib.hid t5
  have BL := Lib.hid t6
  have BO := Lib.hid t7
  have BA := Lib.hid t8
  clear t5 t6 t7 t8
  have e0 : w0.cell? ⟨w.heap.size, 0, none⟩ = some (.slice X x.t.length ca) := BL.out.cell 0
  have e1 : w0.cell? ⟨w.heap.size, 1, none⟩ = some (.int .i64 x.k) := BL.out.cell 1
  have e2 : w0.cell? ⟨w.heap.size, 2, none⟩ = some (.slice Y y.t.length cb) := BL.out.cell 2
  have e3 : w0.cell? ⟨w.heap.size, 3, none⟩ = some (.int .i64 y.k) := BL.out.cell 3
  go_wp2_with fail
  refine (rGreat x y X ca Y cb _).mono ?_
  rintro e w1 ⟨rfl, hB1⟩
  clear e0 e1 e2 e3
  rw [G0.out]
  have t0 := below_up HB.out hB1
  have t1 := BL.out.below hB1 BL.out.lt
  have t2 := BO.out.below hB1 BO.out.lt
  have t3 := BA.out.below hB1 BA.out.lt
  clear HB BL BO BA hB1
  have HB := Lib.hid t0
  have BL := Lib.hid t1
  have BO := Lib.hid t2
  have BA := Lib.hid t3
  clear t0 t1 t2 t3
  have e0 : w1.cell? ⟨w.heap.size + 1, 0, none⟩ = some (.slice X' x'.t.length ca') := BO.out.cell 0
  have e1 : w1.cell? ⟨w.heap.size + 1, 1, none⟩ = some (.int .i64 x'.k) := BO.out.cell 1
  have e2 : w1.cell? ⟨w.heap.size + 1, 2, none⟩ = some (.slice Y' y'.t.length cb') := BO.out.cell 2
  have e3 : w1.cell? ⟨w.heap.size + 1, 3, none⟩ = some (.int .i64 y'.k) := BO.out.cell 3
  go_wp2_with fail
  refine (rGreat x' y' X' ca' Y' cb' _).mono ?_
  rintro e w2 ⟨rfl, hB2⟩
  clear e0 e1 e2 e3
  rw [G1.out]
  have t0 := below_up HB.out hB2
  have t1 := BL.out.below hB2 BL.out.lt
  have t2 := BO.out.below hB2 BO.out.lt
  have t3 := BA.out.below hB2 BA.out.lt
  clear HB BL BO BA hB2
  have HB := Lib.hid t0
  have BL := Lib.hid t1
  have BO := Lib.hid t2
  have BA := Lib.hid t3
  clear t0 t1 t2 t3
  have e2 : w2.cell? ⟨w.heap.size + 1 + 1, 2, none⟩ = some (.slice T tx.length ct) := BA.out.cell 2
  go_wp2_with fail
  go_ret
  exact ⟨rfl, HB.out⟩
end Go.Proofs.Ytfdldbfjeamlcaa.LogTellsG
