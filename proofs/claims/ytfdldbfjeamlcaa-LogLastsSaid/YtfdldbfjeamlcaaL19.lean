/- Several texts joined: The walk of LogLasts. No conditions but those named. -/
import Derived.BigQuiet
import Derived.Deep.QuietTactic
import Derived.Deep.DeepCutAuto
import Derived.Lib.QuietBelow
import Derived.Test.YtfdldbfjeamlcaaL17
import Derived.Test.YtfdldbfjeamlcaaL18
/-! The walk of LogLasts. No conditions but those named. -/
namespace Go.Proofs.Ytfdldbfjeamlcaa.LogLastsW
open Go Go.RowKit Mem LogMath LogProg LogRef1 LogRetC LogDoC LogCrashC LogLastC LogAlive
open Go.Sort (grow)
set_option linter.unusedVariables false
set_option linter.unusedSimpArgs false

theorem reads_n {w : World} {X : Option Addr} {n : Nat} {l : List Int} (hn : n = l.length) (h : TAt w X l) : Reads w w.heap.size 1 X n (l.map (Value.int .u8)) := by subst hn; exact h.reads
theorem HL6 (t u : List Int) (m : Nat) (h : m ≤ u.length) : Hid (m = (u.take m).length) := Lib.hid (by rw [List.length_take]; omega)
theorem HLT (t : List Int) (n m : Nat) (h : n ≤ m) (h2 : n ≤ t.length) : Hid (n = (t.take n).length) := Lib.hid (by rw [List.length_take]; omega)
set_option maxRecDepth 100000 in
set_option maxHeartbeats 8000000 in
theorem lastGreat (x y : AV) (X : Option Addr) (ca : Nat) (Y : Option Addr) (cb : Nat) (a m n m2 n2 : Int) (HG : Hid (greatL x y = true)) (w : World) (hX : TAt w X x.t) (hY : TAt w Y y.t) :
    Calls Try.prog 14 #[.agg #[.slice X x.t.length ca, .int .i64 x.k, .slice Y y.t.length cb, .int .i64 y.k], .int .u8 a, .agg #[.int .i64 m, .int .i64 n], .agg #[.int .i64 m2, .int .i64 n2]] w fun e w' => e = .returned (.bool true) ∧ Below w.heap.size w w' := by
  have HX := Lib.hid (And.intro hX hY)
  clear hX hY
  go_enter Try.func14, Try.ntmps14
  go_upto_region 1 with fail
  have Kl := Lib.hid (((Blk.new w 70 #[.slice X x.t.length ca, .int .i64 x.k, .slice Y y.t.length cb, .int .i64 y.k]).alloc (.cells #[.int .i64 m, .int .i64 n] 73)).alloc (.cells #[.int .i64 m2, .int .i64 n2] 73))
  have Kk := Lib.hid ((blk1 w 73 #[.int .i64 m, .int .i64 n] (o := .cells #[.slice X x.t.length ca, .int .i64 x.k, .slice Y y.t.length cb, .int .i64 y.k] 70)).alloc (.cells #[.int .i64 m2, .int .i64 n2] 73))
  have Ka := Lib.hid (blk2 w 73 #[.int .i64 m2, .int .i64 n2] (o := .cells #[.slice X x.t.length ca, .int .i64 x.k, .slice Y y.t.length cb, .int .i64 y.k] 70) (o' := .cells #[.int .i64 m, .int .i64 n] 73))
  have HB := Lib.hid (below_alloc (o := .cells #[.int .i64 m2, .int .i64 n2] 73) (below_alloc (o := .cells #[.int .i64 m, .int .i64 n] 73) (below_alloc (o := .cells #[.slice X x.t.length ca, .int .i64 x.k, .slice Y y.t.length cb, .int .i64 y.k] 70) (Below.refl w.heap.size w))))
  have Tx := Lib.hid (HX.out.1.up (below_alloc (o := .cells #[.int .i64 m2, .int .i64 n2] 73) (below_alloc (o := .cells #[.int .i64 m, .int .i64 n] 73) (below_alloc (o := .cells #[.slice X x.t.length ca, .int .i64 x.k, .slice Y y.t.length cb, .int .i64 y.k] 70) (Below.refl w.heap.size w)))))
  have Ty := Lib.hid (HX.out.2.up (below_alloc (o := .cells #[.int .i64 m2, .int .i64 n2] 73) (below_alloc (o := .cells #[.int .i64 m, .int .i64 n] 73) (below_alloc (o := .cells #[.slice X x.t.length ca, .int .i64 x.k, .slice Y y.t.length cb, .int .i64 y.k] 70) (Below.refl w.heap.size w)))))
  generalize ((w.alloc (.cells #[.slice X x.t.length ca, .int .i64 x.k, .slice Y y.t.length cb, .int .i64 y.k] 70)).alloc (.cells #[.int .i64 m, .int .i64 n] 73)).alloc (.cells #[.int .i64 m2, .int .i64 n2] 73) = W0 at *
  clear HX
  go_wp2_with fail
  refine (alive29 W0).mono ?_
  rintro e w1 ⟨rfl, hB1⟩
  have HBn := Lib.hid (below_up HB.out hB1)
  have Knl := Lib.hid (Kl.out.below hB1 Kl.out.lt)
  have Knk := Lib.hid (Kk.out.below hB1 Kk.out.lt)
  have Kna := Lib.hid (Ka.out.below hB1 Ka.out.lt)
  have Tnx := Lib.hid (Tx.out.up hB1)
  have Tny := Lib.hid (Ty.out.up hB1)
  clear HB Kl Kk Ka Tx Ty
  have HB := Lib.hid HBn.out
  have Kl := Lib.hid Knl.out
  have Kk := Lib.hid Knk.out
  have Ka := Lib.hid Kna.out
  have Tx := Lib.hid Tnx.out
  have Ty := Lib.hid Tny.out
  clear HBn Knl Knk Kna Tnx Tny
  clear hB1
  have cl0 : w1.cell? ⟨w.heap.size, 0, none⟩ = some (.slice X x.t.length ca) := Kl.out.cell 0
  have cl1 : w1.cell? ⟨w.heap.size, 1, none⟩ = some (.int .i64 x.k) := Kl.out.cell 1
  have cl2 : w1.cell? ⟨w.heap.size, 2, none⟩ = some (.slice Y y.t.length cb) := Kl.out.cell 2
  have cl3 : w1.cell? ⟨w.heap.size, 3, none⟩ = some (.int .i64 y.k) := Kl.out.cell 3
  go_wp2_with fail
  clear cl0 cl1 cl2 cl3
  refine (rGreat x y X ca Y cb w1).mono ?_
  rintro e w2 ⟨rfl, hB2⟩
  rw [HG.out]
  have HBn := Lib.hid (below_up HB.out hB2)
  have Knl := Lib.hid (Kl.out.below hB2 Kl.out.lt)
  have Knk := Lib.hid (Kk.out.below hB2 Kk.out.lt)
  have Kna := Lib.hid (Ka.out.below hB2 Ka.out.lt)
  have Tnx := Lib.hid (Tx.out.up hB2)
  have Tny := Lib.hid (Ty.out.up hB2)
  clear HB Kl Kk Ka Tx Ty
  have HB := Lib.hid HBn.out
  have Kl := Lib.hid Knl.out
  have Kk := Lib.hid Knk.out
  have Ka := Lib.hid Kna.out
  have Tx := Lib.hid Tnx.out
  have Ty := Lib.hid Tny.out
  clear HBn Knl Knk Kna Tnx Tny
  clear hB2
  go_wp2_with fail
  go_ret
  exact ⟨rfl, HB.out⟩
set_option maxRecDepth 100000 in
set_option maxHeartbeats 8000000 in
theorem lastBad0 (x y : AV) (X : Option Addr) (ca : Nat) (Y : Option Addr) (cb : Nat) (a m n m2 n2 : Int) (HG : Hid (greatL x y = false)) (HMB : Hid (mayL ⟨x, y⟩ = false)) (HR : Hid (Int.tmod a 2 = 0)) (w : World) (hX : TAt w X x.t) (hY : TAt w Y y.t) :
    Calls Try.prog 14 #[.agg #[.slice X x.t.length ca, .int .i64 x.k, .slice Y y.t.length cb, .int .i64 y.k], .int .u8 a, .agg #[.int .i64 m, .int .i64 n], .agg #[.int .i64 m2, .int .i64 n2]] w fun e w' => e = .returned (.bool true) ∧ Below w.heap.size w w' := by
  have HX := Lib.hid (And.intro hX hY)
  clear hX hY
  go_enter Try.func14, Try.ntmps14
  go_upto_region 1 with fail
  have Kl := Lib.hid (((Blk.new w 70 #[.slice X x.t.length ca, .int .i64 x.k, .slice Y y.t.length cb, .int .i64 y.k]).alloc (.cells #[.int .i64 m, .int .i64 n] 73)).alloc (.cells #[.int .i64 m2, .int .i64 n2] 73))
  have Kk := Lib.hid ((blk1 w 73 #[.int .i64 m, .int .i64 n] (o := .cells #[.slice X x.t.length ca, .int .i64 x.k, .slice Y y.t.length cb, .int .i64 y.k] 70)).alloc (.cells #[.int .i64 m2, .int .i64 n2] 73))
  have Ka := Lib.hid (blk2 w 73 #[.int .i64 m2, .int .i64 n2] (o := .cells #[.slice X x.t.length ca, .int .i64 x.k, .slice Y y.t.length cb, .int .i64 y.k] 70) (o' := .cells #[.int .i64 m, .int .i64 n] 73))
  have HB := Lib.hid (below_alloc (o := .cells #[.int .i64 m2, .int .i64 n2] 73) (below_alloc (o := .cells #[.int .i64 m, .int .i64 n] 73) (below_alloc (o := .cells #[.slice X x.t.length ca, .int .i64 x.k, .slice Y y.t.length cb, .int .i64 y.k] 70) (Below.refl w.heap.size w))))
  have Tx := Lib.hid (HX.out.1.up (below_alloc (o := .cells #[.int .i64 m2, .int .i64 n2] 73) (below_alloc (o := .cells #[.int .i64 m, .int .i64 n] 73) (below_alloc (o := .cells #[.slice X x.t.length ca, .int .i64 x.k, .slice Y y.t.length cb, .int .i64 y.k] 70) (Below.refl w.heap.size w)))))
  have Ty := Lib.hid (HX.out.2.up (below_alloc (o := .cells #[.int .i64 m2, .int .i64 n2] 73) (below_alloc (o := .cells #[.int .i64 m, .int .i64 n] 73) (below_alloc (o := .cells #[.slice X x.t.length ca, .int .i64 x.k, .slice Y y.t.length cb, .int .i64 y.k] 70) (Below.refl w.heap.size w)))))
  generalize ((w.alloc (.cells #[.slice X x.t.length ca, .int .i64 x.k, .slice Y y.t.length cb, .int .i64 y.k] 70)).alloc (.cells #[.int .i64 m, .int .i64 n] 73)).alloc (.cells #[.int .i64 m2, .int .i64 n2] 73) = W0 at *
  clear HX
  go_wp2_with fail
  refine (alive29 W0).mono ?_
  rintro e w1 ⟨rfl, hB1⟩
  have HBn := Lib.hid (below_up HB.out hB1)
  have Knl := Lib.hid (Kl.out.below hB1 Kl.out.lt)
  have Knk := Lib.hid (Kk.out.below hB1 Kk.out.lt)
  have Kna := Lib.hid (Ka.out.below hB1 Ka.out.lt)
  have Tnx := Lib.hid (Tx.out.up hB1)
  have Tny := Lib.hid (Ty.out.up hB1)
  clear HB Kl Kk Ka Tx Ty
  have HB := Lib.hid HBn.out
  have Kl := Lib.hid Knl.out
  have Kk := Lib.hid Knk.out
  have Ka := Lib.hid Kna.out
  have Tx := Lib.hid Tnx.out
  have Ty := Lib.hid Tny.out
  clear HBn Knl Knk Kna Tnx Tny
  clear hB1
  have cl0 : w1.cell? ⟨w.heap.size, 0, none⟩ = some (.slice X x.t.length ca) := Kl.out.cell 0
  have cl1 : w1.cell? ⟨w.heap.size, 1, none⟩ = some (.int .i64 x.k) := Kl.out.cell 1
  have cl2 : w1.cell? ⟨w.heap.size, 2, none⟩ = some (.slice Y y.t.length cb) := Kl.out.cell 2
  have cl3 : w1.cell? ⟨w.heap.size, 3, none⟩ = some (.int .i64 y.k) := Kl.out.cell 3
  go_wp2_with fail
  clear cl0 cl1 cl2 cl3
  refine (rGreat x y X ca Y cb w1).mono ?_
  rintro e w2 ⟨rfl, hB2⟩
  rw [HG.out]
  have HBn := Lib.hid (below_up HB.out hB2)
  have Knl := Lib.hid (Kl.out.below hB2 Kl.out.lt)
  have Knk := Lib.hid (Kk.out.below hB2 Kk.out.lt)
  have Kna := Lib.hid (Ka.out.below hB2 Ka.out.lt)
  have Tnx := Lib.hid (Tx.out.up hB2)
  have Tny := Lib.hid (Ty.out.up hB2)
  clear HB Kl Kk Ka Tx Ty
  have HB := Lib.hid HBn.out
  have Kl := Lib.hid Knl.out
  have Kk := Lib.hid Knk.out
  have Ka := Lib.hid Kna.out
  have Tx := Lib.hid Tnx.out
  have Ty := Lib.hid Tny.out
  clear HBn Knl Knk Kna Tnx Tny
  clear hB2
  have cl0 : w2.cell? ⟨w.heap.size, 0, none⟩ = some (.slice X x.t.length ca) := Kl.out.cell 0
  have cl1 : w2.cell? ⟨w.heap.size, 1, none⟩ = some (.int .i64 x.k) := Kl.out.cell 1
  have cl2 : w2.cell? ⟨w.heap.size, 2, none⟩ = some (.slice Y y.t.length cb) := Kl.out.cell 2
  have cl3 : w2.cell? ⟨w.heap.size, 3, none⟩ = some (.int .i64 y.k) := Kl.out.cell 3
  have hrem := HR.out
  go_wp2_with fail
  clear hrem cl0 cl1 cl2 cl3
  have HD := lDoBad x y X ca Y cb 3 0 none 0 [] HMB.out w2
  refine HD.mono ?_
  rintro e w3 ⟨v, rfl, hv, hB3⟩
  obtain ⟨X3, ca3, Y3, cb3, hv, _⟩ := hv
  rw [(doE_bad (kd := 3) (ar := 0) (tx := []) HMB.out).2] at hv
  obtain rfl : v = .agg #[.slice X3 0 ca3, .int .i64 0, .slice Y3 0 cb3, .int .i64 0] := hv
  rw [(doE_bad (kd := 3) (ar := 0) (tx := []) HMB.out).1]
  have HBn := Lib.hid (below_up HB.out hB3)
  have Knl := Lib.hid (Kl.out.below hB3 Kl.out.lt)
  have Knk := Lib.hid (Kk.out.below hB3 Kk.out.lt)
  have Kna := Lib.hid (Ka.out.below hB3 Ka.out.lt)
  have Tnx := Lib.hid (Tx.out.up hB3)
  have Tny := Lib.hid (Ty.out.up hB3)
  clear HB Kl Kk Ka Tx Ty
  have HB := Lib.hid HBn.out
  have Kl := Lib.hid Knl.out
  have Kk := Lib.hid Knk.out
  have Ka := Lib.hid Kna.out
  have Tx := Lib.hid Tnx.out
  have Ty := Lib.hid Tny.out
  clear HBn Knl Knk Kna Tnx Tny
  clear hB3 HD
  go_upto_region 6 with fail
  have hKn := Blk.new w3 70 #[.slice X3 0 ca3, .int .i64 0, .slice Y3 0 cb3, .int .i64 0]
  have hBn := below_alloc (o := .cells #[.slice X3 0 ca3, .int .i64 0, .slice Y3 0 cb3, .int .i64 0] 70) (Below.refl w3.heap.size w3)
  generalize w3.alloc (.cells #[.slice X3 0 ca3, .int .i64 0, .slice Y3 0 cb3, .int .i64 0] 70) = V3 at *
  have HBn := Lib.hid (below_up HB.out hBn)
  have Knl := Lib.hid (Kl.out.below hBn Kl.out.lt)
  have Knk := Lib.hid (Kk.out.below hBn Kk.out.lt)
  have Kna := Lib.hid (Ka.out.below hBn Ka.out.lt)
  have Tnx := Lib.hid (Tx.out.up hBn)
  have Tny := Lib.hid (Ty.out.up hBn)
  clear HB Kl Kk Ka Tx Ty
  have HB := Lib.hid HBn.out
  have Kl := Lib.hid Knl.out
  have Kk := Lib.hid Knk.out
  have Ka := Lib.hid Kna.out
  have Tx := Lib.hid Tnx.out
  have Ty := Lib.hid Tny.out
  clear HBn Knl Knk Kna Tnx Tny
  obtain ⟨gs, hg⟩ : ∃ n, n = w3.heap.size := ⟨_, rfl⟩
  rw [← hg] at hKn ⊢
  have Ks := Lib.hid hKn
  clear hKn hBn hg
  have cl0 : V3.cell? ⟨w.heap.size, 0, none⟩ = some (.slice X x.t.length ca) := Kl.out.cell 0
  have cl1 : V3.cell? ⟨w.heap.size, 1, none⟩ = some (.int .i64 x.k) := Kl.out.cell 1
  have cl2 : V3.cell? ⟨w.heap.size, 2, none⟩ = some (.slice Y y.t.length cb) := Kl.out.cell 2
  have cl3 : V3.cell? ⟨w.heap.size, 3, none⟩ = some (.int .i64 y.k) := Kl.out.cell 3
  go_wp2_with fail
  refine (lCheck x y X ca Y cb V3).mono ?_
  rintro e w4 ⟨rfl, hB4⟩
  rw [check_bad HMB.out]
  have HBn := Lib.hid (below_up HB.out hB4)
  have Knl := Lib.hid (Kl.out.below hB4 Kl.out.lt)
  have Knk := Lib.hid (Kk.out.below hB4 Kk.out.lt)
  have Kna := Lib.hid (Ka.out.below hB4 Ka.out.lt)
  have Kns := Lib.hid (Ks.out.below hB4 Ks.out.lt)
  have Tnx := Lib.hid (Tx.out.up hB4)
  have Tny := Lib.hid (Ty.out.up hB4)
  clear HB Kl Kk Ka Ks Tx Ty
  have HB := Lib.hid HBn.out
  have Kl := Lib.hid Knl.out
  have Kk := Lib.hid Knk.out
  have Ka := Lib.hid Kna.out
  have Ks := Lib.hid Kns.out
  have Tx := Lib.hid Tnx.out
  have Ty := Lib.hid Tny.out
  clear HBn Knl Knk Kna Kns Tnx Tny
  clear hB4
  go_wp2_with fail
  go_ret
  exact ⟨rfl, HB.out⟩
set_option maxRecDepth 100000 in
set_option maxHeartbeats 8000000 in
theorem lastBad1 (x y : AV) (X : Option Addr) (ca : Nat) (Y : Option Addr) (cb : Nat) (a m n m2 n2 : Int) (HG : Hid (greatL x y = false)) (HMB : Hid (mayL ⟨x, y⟩ = false)) (HR : Hid (Int.tmod a 2 = 1)) (w : World) (hX : TAt w X x.t) (hY : TAt w Y y.t) :
    Calls Try.prog 14 #[.agg #[.slice X x.t.length ca, .int .i64 x.k, .slice Y y.t.length cb, .int .i64 y.k], .int .u8 a, .agg #[.int .i64 m, .int .i64 n], .agg #[.int .i64 m2, .int .i64 n2]] w fun e w' => e = .returned (.bool true) ∧ Below w.heap.size w w' := by
  have HX := Lib.hid (And.intro hX hY)
  clear hX hY
  go_enter Try.func14, Try.ntmps14
  go_upto_region 1 with fail
  have Kl := Lib.hid (((Blk.new w 70 #[.slice X x.t.length ca, .int .i64 x.k, .slice Y y.t.length cb, .int .i64 y.k]).alloc (.cells #[.int .i64 m, .int .i64 n] 73)).alloc (.cells #[.int .i64 m2, .int .i64 n2] 73))
  have Kk := Lib.hid ((blk1 w 73 #[.int .i64 m, .int .i64 n] (o := .cells #[.slice X x.t.length ca, .int .i64 x.k, .slice Y y.t.length cb, .int .i64 y.k] 70)).alloc (.cells #[.int .i64 m2, .int .i64 n2] 73))
  have Ka := Lib.hid (blk2 w 73 #[.int .i64 m2, .int .i64 n2] (o := .cells #[.slice X x.t.length ca, .int .i64 x.k, .slice Y y.t.length cb, .int .i64 y.k] 70) (o' := .cells #[.int .i64 m, .int .i64 n] 73))
  have HB := Lib.hid (below_alloc (o := .cells #[.int .i64 m2, .int .i64 n2] 73) (below_alloc (o := .cells #[.int .i64 m, .int .i64 n] 73) (below_alloc (o := .cells #[.slice X x.t.length ca, .int .i64 x.k, .slice Y y.t.length cb, .int .i64 y.k] 70) (Below.refl w.heap.size w))))
  have Tx := Lib.hid (HX.out.1.up (below_alloc (o := .cells #[.int .i64 m2, .int .i64 n2] 73) (below_alloc (o := .cells #[.int .i64 m, .int .i64 n] 73) (below_alloc (o := .cells #[.slice X x.t.length ca, .int .i64 x.k, .slice Y y.t.length cb, .int .i64 y.k] 70) (Below.refl w.heap.size w)))))
  have Ty := Lib.hid (HX.out.2.up (below_alloc (o := .cells #[.int .i64 m2, .int .i64 n2] 73) (below_alloc (o := .cells #[.int .i64 m, .int .i64 n] 73) (below_alloc (o := .cells #[.slice X x.t.length ca, .int .i64 x.k, .slice Y y.t.length cb, .int .i64 y.k] 70) (Below.refl w.heap.size w)))))
  generalize ((w.alloc (.cells #[.slice X x.t.length ca, .int .i64 x.k, .slice Y y.t.length cb, .int .i64 y.k] 70)).alloc (.cells #[.int .i64 m, .int .i64 n] 73)).alloc (.cells #[.int .i64 m2, .int .i64 n2] 73) = W0 at *
  clear HX
  go_wp2_with fail
  refine (alive29 W0).mono ?_
  rintro e w1 ⟨rfl, hB1⟩
  have HBn := Lib.hid (below_up HB.out hB1)
  have Knl := Lib.hid (Kl.out.below hB1 Kl.out.lt)
  have Knk := Lib.hid (Kk.out.below hB1 Kk.out.lt)
  have Kna := Lib.hid (Ka.out.below hB1 Ka.out.lt)
  have Tnx := Lib.hid (Tx.out.up hB1)
  have Tny := Lib.hid (Ty.out.up hB1)
  clear HB Kl Kk Ka Tx Ty
  have HB := Lib.hid HBn.out
  have Kl := Lib.hid Knl.out
  have Kk := Lib.hid Knk.out
  have Ka := Lib.hid Kna.out
  have Tx := Lib.hid Tnx.out
  have Ty := Lib.hid Tny.out
  clear HBn Knl Knk Kna Tnx Tny
  clear hB1
  have cl0 : w1.cell? ⟨w.heap.size, 0, none⟩ = some (.slice X x.t.length ca) := Kl.out.cell 0
  have cl1 : w1.cell? ⟨w.heap.size, 1, none⟩ = some (.int .i64 x.k) := Kl.out.cell 1
  have cl2 : w1.cell? ⟨w.heap.size, 2, none⟩ = some (.slice Y y.t.length cb) := Kl.out.cell 2
  have cl3 : w1.cell? ⟨w.heap.size, 3, none⟩ = some (.int .i64 y.k) := Kl.out.cell 3
  go_wp2_with fail
  clear cl0 cl1 cl2 cl3
  refine (rGreat x y X ca Y cb w1).mono ?_
  rintro e w2 ⟨rfl, hB2⟩
  rw [HG.out]
  have HBn := Lib.hid (below_up HB.out hB2)
  have Knl := Lib.hid (Kl.out.below hB2 Kl.out.lt)
  have Knk := Lib.hid (Kk.out.below hB2 Kk.out.lt)
  have Kna := Lib.hid (Ka.out.below hB2 Ka.out.lt)
  have Tnx := Lib.hid (Tx.out.up hB2)
  have Tny := Lib.hid (Ty.out.up hB2)
  clear HB Kl Kk Ka Tx Ty
  have HB := Lib.hid HBn.out
  have Kl := Lib.hid Knl.out
  have Kk := Lib.hid Knk.out
  have Ka := Lib.hid Kna.out
  have Tx := Lib.hid Tnx.out
  have Ty := Lib.hid Tny.out
  clear HBn Knl Knk Kna Tnx Tny
  clear hB2
  have cl0 : w2.cell? ⟨w.heap.size, 0, none⟩ = some (.slice X x.t.length ca) := Kl.out.cell 0
  have cl1 : w2.cell? ⟨w.heap.size, 1, none⟩ = some (.int .i64 x.k) := Kl.out.cell 1
  have cl2 : w2.cell? ⟨w.heap.size, 2, none⟩ = some (.slice Y y.t.length cb) := Kl.out.cell 2
  have cl3 : w2.cell? ⟨w.heap.size, 3, none⟩ = some (.int .i64 y.k) := Kl.out.cell 3
  have hrem := HR.out
  go_wp2_with fail
  clear hrem cl0 cl1 cl2 cl3
  have HD := lDoBad x y X ca Y cb 3 1 none 0 [] HMB.out w2
  refine HD.mono ?_
  rintro e w3 ⟨v, rfl, hv, hB3⟩
  obtain ⟨X3, ca3, Y3, cb3, hv, _⟩ := hv
  rw [(doE_bad (kd := 3) (ar := 1) (tx := []) HMB.out).2] at hv
  obtain rfl : v = .agg #[.slice X3 0 ca3, .int .i64 0, .slice Y3 0 cb3, .int .i64 0] := hv
  rw [(doE_bad (kd := 3) (ar := 1) (tx := []) HMB.out).1]
  have HBn := Lib.hid (below_up HB.out hB3)
  have Knl := Lib.hid (Kl.out.below hB3 Kl.out.lt)
  have Knk := Lib.hid (Kk.out.below hB3 Kk.out.lt)
  have Kna := Lib.hid (Ka.out.below hB3 Ka.out.lt)
  have Tnx := Lib.hid (Tx.out.up hB3)
  have Tny := Lib.hid (Ty.out.up hB3)
  clear HB Kl Kk Ka Tx Ty
  have HB := Lib.hid HBn.out
  have Kl := Lib.hid Knl.out
  have Kk := Lib.hid Knk.out
  have Ka := Lib.hid Kna.out
  have Tx := Lib.hid Tnx.out
  have Ty := Lib.hid Tny.out
  clear HBn Knl Knk Kna Tnx Tny
  clear hB3 HD
  go_upto_region 6 with fail
  have hKn := Blk.new w3 70 #[.slice X3 0 ca3, .int .i64 0, .slice Y3 0 cb3, .int .i64 0]
  have hBn := below_alloc (o := .cells #[.slice X3 0 ca3, .int .i64 0, .slice Y3 0 cb3, .int .i64 0] 70) (Below.refl w3.heap.size w3)
  generalize w3.alloc (.cells #[.slice X3 0 ca3, .int .i64 0, .slice Y3 0 cb3, .int .i64 0] 70) = V3 at *
  have HBn := Lib.hid (below_up HB.out hBn)
  have Knl := Lib.hid (Kl.out.below hBn Kl.out.lt)
  have Knk := Lib.hid (Kk.out.below hBn Kk.out.lt)
  have Kna := Lib.hid (Ka.out.below hBn Ka.out.lt)
  have Tnx := Lib.hid (Tx.out.up hBn)
  have Tny := Lib.hid (Ty.out.up hBn)
  clear HB Kl Kk Ka Tx Ty
  have HB := Lib.hid HBn.out
  have Kl := Lib.hid Knl.out
  have Kk := Lib.hid Knk.out
  have Ka := Lib.hid Kna.out
  have Tx := Lib.hid Tnx.out
  have Ty := Lib.hid Tny.out
  clear HBn Knl Knk Kna Tnx Tny
  obtain ⟨gs, hg⟩ : ∃ n, n = w3.heap.size := ⟨_, rfl⟩
  rw [← hg] at hKn ⊢
  have Ks := Lib.hid hKn
  clear hKn hBn hg
  have cl0 : V3.cell? ⟨w.heap.size, 0, none⟩ = some (.slice X x.t.length ca) := Kl.out.cell 0
  have cl1 : V3.cell? ⟨w.heap.size, 1, none⟩ = some (.int .i64 x.k) := Kl.out.cell 1
  have cl2 : V3.cell? ⟨w.heap.size, 2, none⟩ = some (.slice Y y.t.length cb) := Kl.out.cell 2
  have cl3 : V3.cell? ⟨w.heap.size, 3, none⟩ = some (.int .i64 y.k) := Kl.out.cell 3
  go_wp2_with fail
  refine (lCheck x y X ca Y cb V3).mono ?_
  rintro e w4 ⟨rfl, hB4⟩
  rw [check_bad HMB.out]
  have HBn := Lib.hid (below_up HB.out hB4)
  have Knl := Lib.hid (Kl.out.below hB4 Kl.out.lt)
  have Knk := Lib.hid (Kk.out.below hB4 Kk.out.lt)
  have Kna := Lib.hid (Ka.out.below hB4 Ka.out.lt)
  have Kns := Lib.hid (Ks.out.below hB4 Ks.out.lt)
  have Tnx := Lib.hid (Tx.out.up hB4)
  have Tny := Lib.hid (Ty.out.up hB4)
  clear HB Kl Kk Ka Ks Tx Ty
  have HB := Lib.hid HBn.out
  have Kl := Lib.hid Knl.out
  have Kk := Lib.hid Knk.out
  have Ka := Lib.hid Kna.out
  have Ks := Lib.hid Kns.out
  have Tx := Lib.hid Tnx.out
  have Ty := Lib.hid Tny.out
  clear HBn Knl Knk Kna Kns Tnx Tny
  clear hB4
  go_wp2_with fail
  go_ret
  exact ⟨rfl, HB.out⟩
set_option maxRecDepth 100000 in
set_option maxHeartbeats 8000000 in
theorem lastOk0 (t u : List Int) (p q : Nat) (X : Option Addr) (ca : Nat) (Y : Option Addr) (cb : Nat) (a m n m2 n2 : Int) (HG : Hid (greatL ⟨t, (p : Int)⟩ ⟨u, (q : Int)⟩ = false)) (HM : Hid (May t u p q)) (HMS : Hid (May t u t.length q)) (HCA : Hid (t.length ≤ ca ∧ u.length ≤ cb)) (HR : Hid (Int.tmod a 2 = 0)) (HMX : Hid (max m m2 = max m m2)) (HMY : Hid (max n n2 = max n n2)) (w : World) (hX : TAt w X t) (hY : TAt w Y u) :
    Calls Try.prog 14 #[.agg #[.slice X t.length ca, .int .i64 (p : Int), .slice Y u.length cb, .int .i64 (q : Int)], .int .u8 a, .agg #[.int .i64 m, .int .i64 n], .agg #[.int .i64 m2, .int .i64 n2]] w fun e w' => e = .returned (.bool true) ∧ Below w.heap.size w w' := by
  have HX := Lib.hid (And.intro hX hY)
  clear hX hY
  go_enter Try.func14, Try.ntmps14
  go_upto_region 1 with fail
  have Kl := Lib.hid (((Blk.new w 70 #[.slice X t.length ca, .int .i64 (p : Int), .slice Y u.length cb, .int .i64 (q : Int)]).alloc (.cells #[.int .i64 m, .int .i64 n] 73)).alloc (.cells #[.int .i64 m2, .int .i64 n2] 73))
  have Kk := Lib.hid ((blk1 w 73 #[.int .i64 m, .int .i64 n] (o := .cells #[.slice X t.length ca, .int .i64 (p : Int), .slice Y u.length cb, .int .i64 (q : Int)] 70)).alloc (.cells #[.int .i64 m2, .int .i64 n2] 73))
  have Ka := Lib.hid (blk2 w 73 #[.int .i64 m2, .int .i64 n2] (o := .cells #[.slice X t.length ca, .int .i64 (p : Int), .slice Y u.length cb, .int .i64 (q : Int)] 70) (o' := .cells #[.int .i64 m, .int .i64 n] 73))
  have HB := Lib.hid (below_alloc (o := .cells #[.int .i64 m2, .int .i64 n2] 73) (below_alloc (o := .cells #[.int .i64 m, .int .i64 n] 73) (below_alloc (o := .cells #[.slice X t.length ca, .int .i64 (p : Int), .slice Y u.length cb, .int .i64 (q : Int)] 70) (Below.refl w.heap.size w))))
  have Tx := Lib.hid (HX.out.1.up (below_alloc (o := .cells #[.int .i64 m2, .int .i64 n2] 73) (below_alloc (o := .cells #[.int .i64 m, .int .i64 n] 73) (below_alloc (o := .cells #[.slice X t.length ca, .int .i64 (p : Int), .slice Y u.length cb, .int .i64 (q : Int)] 70) (Below.refl w.heap.size w)))))
  have Ty := Lib.hid (HX.out.2.up (below_alloc (o := .cells #[.int .i64 m2, .int .i64 n2] 73) (below_alloc (o := .cells #[.int .i64 m, .int .i64 n] 73) (below_alloc (o := .cells #[.slice X t.length ca, .int .i64 (p : Int), .slice Y u.length cb, .int .i64 (q : Int)] 70) (Below.refl w.heap.size w)))))
  generalize ((w.alloc (.cells #[.slice X t.length ca, .int .i64 (p : Int), .slice Y u.length cb, .int .i64 (q : Int)] 70)).alloc (.cells #[.int .i64 m, .int .i64 n] 73)).alloc (.cells #[.int .i64 m2, .int .i64 n2] 73) = W0 at *
  clear HX
  go_wp2_with fail
  refine (alive29 W0).mono ?_
  rintro e w1 ⟨rfl, hB1⟩
  have HBn := Lib.hid (below_up HB.out hB1)
  have Knl := Lib.hid (Kl.out.below hB1 Kl.out.lt)
  have Knk := Lib.hid (Kk.out.below hB1 Kk.out.lt)
  have Kna := Lib.hid (Ka.out.below hB1 Ka.out.lt)
  have Tnx := Lib.hid (Tx.out.up hB1)
  have Tny := Lib.hid (Ty.out.up hB1)
  clear HB Kl Kk Ka Tx Ty
  have HB := Lib.hid HBn.out
  have Kl := Lib.hid Knl.out
  have Kk := Lib.hid Knk.out
  have Ka := Lib.hid Kna.out
  have Tx := Lib.hid Tnx.out
  have Ty := Lib.hid Tny.out
  clear HBn Knl Knk Kna Tnx Tny
  clear hB1
  have cl0 : w1.cell? ⟨w.heap.size, 0, none⟩ = some (.slice X t.length ca) := Kl.out.cell 0
  have cl1 : w1.cell? ⟨w.heap.size, 1, none⟩ = some (.int .i64 (p : Int)) := Kl.out.cell 1
  have cl2 : w1.cell? ⟨w.heap.size, 2, none⟩ = some (.slice Y u.length cb) := Kl.out.cell 2
  have cl3 : w1.cell? ⟨w.heap.size, 3, none⟩ = some (.int .i64 (q : Int)) := Kl.out.cell 3
  go_wp2_with fail
  clear cl0 cl1 cl2 cl3
  refine (rGreat ⟨t, (p : Int)⟩ ⟨u, (q : Int)⟩ X ca Y cb w1).mono ?_
  rintro e w2 ⟨rfl, hB2⟩
  rw [HG.out]
  have HBn := Lib.hid (below_up HB.out hB2)
  have Knl := Lib.hid (Kl.out.below hB2 Kl.out.lt)
  have Knk := Lib.hid (Kk.out.below hB2 Kk.out.lt)
  have Kna := Lib.hid (Ka.out.below hB2 Ka.out.lt)
  have Tnx := Lib.hid (Tx.out.up hB2)
  have Tny := Lib.hid (Ty.out.up hB2)
  clear HB Kl Kk Ka Tx Ty
  have HB := Lib.hid HBn.out
  have Kl := Lib.hid Knl.out
  have Kk := Lib.hid Knk.out
  have Ka := Lib.hid Kna.out
  have Tx := Lib.hid Tnx.out
  have Ty := Lib.hid Tny.out
  clear HBn Knl Knk Kna Tnx Tny
  clear hB2
  have cl0 : w2.cell? ⟨w.heap.size, 0, none⟩ = some (.slice X t.length ca) := Kl.out.cell 0
  have cl1 : w2.cell? ⟨w.heap.size, 1, none⟩ = some (.int .i64 (p : Int)) := Kl.out.cell 1
  have cl2 : w2.cell? ⟨w.heap.size, 2, none⟩ = some (.slice Y u.length cb) := Kl.out.cell 2
  have cl3 : w2.cell? ⟨w.heap.size, 3, none⟩ = some (.int .i64 (q : Int)) := Kl.out.cell 3
  have hrem := HR.out
  go_wp2_with fail
  clear hrem cl0 cl1 cl2 cl3
  refine (lSync0 t u p q X ca Y cb HM.out w2 Tx.out Ty.out).mono ?_
  rintro e w3 ⟨⟨X3, ca3, Y3, cb3, rfl, hX3, hY3, hc3, hd3⟩, hB3⟩
  have HBn := Lib.hid (below_up HB.out hB3)
  have Knl := Lib.hid (Kl.out.below hB3 Kl.out.lt)
  have Knk := Lib.hid (Kk.out.below hB3 Kk.out.lt)
  have Kna := Lib.hid (Ka.out.below hB3 Ka.out.lt)
  have Tnx := Lib.hid (Tx.out.up hB3)
  have Tny := Lib.hid (Ty.out.up hB3)
  clear HB Kl Kk Ka Tx Ty
  have HB := Lib.hid HBn.out
  have Kl := Lib.hid Knl.out
  have Kk := Lib.hid Knk.out
  have Ka := Lib.hid Kna.out
  have Tx := Lib.hid Tnx.out
  have Ty := Lib.hid Tny.out
  clear HBn Knl Knk Kna Tnx Tny
  have T3x := Lib.hid hX3
  have T3y := Lib.hid hY3
  have HC3 := Lib.hid (And.intro hc3 hd3)
  clear hB3 hX3 hY3 hc3 hd3
  go_upto_region 6 with fail
  have hKn := Blk.new w3 70 #[.slice X3 t.length ca3, .int .i64 (t.length : Int), .slice Y3 u.length cb3, .int .i64 (q : Int)]
  have hBn := below_alloc (o := .cells #[.slice X3 t.length ca3, .int .i64 (t.length : Int), .slice Y3 u.length cb3, .int .i64 (q : Int)] 70) (Below.refl w3.heap.size w3)
  generalize w3.alloc (.cells #[.slice X3 t.length ca3, .int .i64 (t.length : Int), .slice Y3 u.length cb3, .int .i64 (q : Int)] 70) = V3 at *
  have HBn := Lib.hid (below_up HB.out hBn)
  have Knl := Lib.hid (Kl.out.below hBn Kl.out.lt)
  have Knk := Lib.hid (Kk.out.below hBn Kk.out.lt)
  have Kna := Lib.hid (Ka.out.below hBn Ka.out.lt)
  have Tnx := Lib.hid (Tx.out.up hBn)
  have Tny := Lib.hid (Ty.out.up hBn)
  have Tn3x := Lib.hid (T3x.out.up hBn)
  have Tn3y := Lib.hid (T3y.out.up hBn)
  clear HB Kl Kk Ka Tx Ty T3x T3y
  have HB := Lib.hid HBn.out
  have Kl := Lib.hid Knl.out
  have Kk := Lib.hid Knk.out
  have Ka := Lib.hid Kna.out
  have Tx := Lib.hid Tnx.out
  have Ty := Lib.hid Tny.out
  have T3x := Lib.hid Tn3x.out
  have T3y := Lib.hid Tn3y.out
  clear HBn Knl Knk Kna Tnx Tny Tn3x Tn3y
  obtain ⟨gs, hg⟩ : ∃ n, n = w3.heap.size := ⟨_, rfl⟩
  rw [← hg] at hKn ⊢
  have Ks := Lib.hid hKn
  clear hKn hBn hg
  have ck0 : V3.cell? ⟨w.heap.size + 1, 0, none⟩ = some (.int .i64 m) := Kk.out.cell 0
  have ck1 : V3.cell? ⟨w.heap.size + 1, 1, none⟩ = some (.int .i64 n) := Kk.out.cell 1
  have cs0 : V3.cell? ⟨gs, 0, none⟩ = some (.slice X3 t.length ca3) := Ks.out.cell 0
  have cs1 : V3.cell? ⟨gs, 1, none⟩ = some (.int .i64 (t.length : Int)) := Ks.out.cell 1
  have cs2 : V3.cell? ⟨gs, 2, none⟩ = some (.slice Y3 u.length cb3) := Ks.out.cell 2
  have cs3 : V3.cell? ⟨gs, 3, none⟩ = some (.int .i64 (q : Int)) := Ks.out.cell 3
  go_wp2_with fail
  clear ck0 ck1 cs0 cs1 cs2 cs3
  refine (lCrashN t u t.length u.length t.length q X3 ca3 Y3 cb3 m n rfl rfl HMS.out HC3.out.1 HC3.out.2 V3 T3x.out T3y.out).mono ?_
  rintro e w4 ⟨⟨N4, M4, X4, ca4, Y4, cb4, rfl, hN4, hM4, hX4, hY4, hc4, hd4⟩, hB4⟩
  obtain rfl : t.length = N4 := by rw [hN4, leftN_all]
  rw [List.take_length] at hX4
  have hM4l : M4 ≤ u.length := by rw [hM4]; exact leftN_le _ HM.out.hq
  have hN4l : t.length ≤ t.length := Nat.le_refl _
  have HBn := Lib.hid (below_up HB.out hB4)
  have Knl := Lib.hid (Kl.out.below hB4 Kl.out.lt)
  have Knk := Lib.hid (Kk.out.below hB4 Kk.out.lt)
  have Kna := Lib.hid (Ka.out.below hB4 Ka.out.lt)
  have Kns := Lib.hid (Ks.out.below hB4 Ks.out.lt)
  have Tnx := Lib.hid (Tx.out.up hB4)
  have Tny := Lib.hid (Ty.out.up hB4)
  have Tn3x := Lib.hid (T3x.out.up hB4)
  have Tn3y := Lib.hid (T3y.out.up hB4)
  clear HB Kl Kk Ka Ks Tx Ty T3x T3y
  have HB := Lib.hid HBn.out
  have Kl := Lib.hid Knl.out
  have Kk := Lib.hid Knk.out
  have Ka := Lib.hid Kna.out
  have Ks := Lib.hid Kns.out
  have Tx := Lib.hid Tnx.out
  have Ty := Lib.hid Tny.out
  have T3x := Lib.hid Tn3x.out
  have T3y := Lib.hid Tn3y.out
  clear HBn Knl Knk Kna Kns Tnx Tny Tn3x Tn3y
  have T4x := Lib.hid hX4
  have T4y := Lib.hid hY4
  have HC4 := Lib.hid (And.intro hc4 (And.intro hd4 (And.intro hN4l hM4l)))
  clear hB4 hX4 hY4 hc4 hd4 hN4 hM4 hN4l hM4l
  go_upto_region 9 with fail
  have hKn := Blk.new w4 70 #[.slice X4 t.length ca4, .int .i64 (t.length : Int), .slice Y4 M4 cb4, .int .i64 (M4 : Int)]
  have hBn := below_alloc (o := .cells #[.slice X4 t.length ca4, .int .i64 (t.length : Int), .slice Y4 M4 cb4, .int .i64 (M4 : Int)] 70) (Below.refl w4.heap.size w4)
  generalize w4.alloc (.cells #[.slice X4 t.length ca4, .int .i64 (t.length : Int), .slice Y4 M4 cb4, .int .i64 (M4 : Int)] 70) = V4 at *
  have HBn := Lib.hid (below_up HB.out hBn)
  have Knl := Lib.hid (Kl.out.below hBn Kl.out.lt)
  have Knk := Lib.hid (Kk.out.below hBn Kk.out.lt)
  have Kna := Lib.hid (Ka.out.below hBn Ka.out.lt)
  have Kns := Lib.hid (Ks.out.below hBn Ks.out.lt)
  have Tnx := Lib.hid (Tx.out.up hBn)
  have Tny := Lib.hid (Ty.out.up hBn)
  have Tn3x := Lib.hid (T3x.out.up hBn)
  have Tn3y := Lib.hid (T3y.out.up hBn)
  have Tn4x := Lib.hid (T4x.out.up hBn)
  have Tn4y := Lib.hid (T4y.out.up hBn)
  clear HB Kl Kk Ka Ks Tx Ty T3x T3y T4x T4y
  have HB := Lib.hid HBn.out
  have Kl := Lib.hid Knl.out
  have Kk := Lib.hid Knk.out
  have Ka := Lib.hid Kna.out
  have Ks := Lib.hid Kns.out
  have Tx := Lib.hid Tnx.out
  have Ty := Lib.hid Tny.out
  have T3x := Lib.hid Tn3x.out
  have T3y := Lib.hid Tn3y.out
  have T4x := Lib.hid Tn4x.out
  have T4y := Lib.hid Tn4y.out
  clear HBn Knl Knk Kna Kns Tnx Tny Tn3x Tn3y Tn4x Tn4y
  obtain ⟨gx, hg⟩ : ∃ n, n = w4.heap.size := ⟨_, rfl⟩
  rw [← hg] at hKn ⊢
  have Kx := Lib.hid hKn
  clear hKn hBn hg
  have ca0 : V4.cell? ⟨w.heap.size + 1 + 1, 0, none⟩ = some (.int .i64 m2) := Ka.out.cell 0
  have ca1 : V4.cell? ⟨w.heap.size + 1 + 1, 1, none⟩ = some (.int .i64 n2) := Ka.out.cell 1
  have cx0 : V4.cell? ⟨gx, 0, none⟩ = some (.slice X4 t.length ca4) := Kx.out.cell 0
  have cx1 : V4.cell? ⟨gx, 1, none⟩ = some (.int .i64 (t.length : Int)) := Kx.out.cell 1
  have cx2 : V4.cell? ⟨gx, 2, none⟩ = some (.slice Y4 M4 cb4) := Kx.out.cell 2
  have cx3 : V4.cell? ⟨gx, 3, none⟩ = some (.int .i64 (M4 : Int)) := Kx.out.cell 3
  go_wp2_with fail
  clear ca0 ca1 cx0 cx1 cx2 cx3
  have h5 : M4 = (u.take M4).length := by rw [List.length_take]; have := HC4.out; omega
  have HM5 := Lib.hid (show May t (u.take M4) t.length M4 from ⟨HM.out.ht, by rw [← h5]; have := HC4.out; have := HM.out.hu; omega, Nat.le_refl _, by rw [← h5]; exact Nat.le_refl _⟩)
  have H5 := Lib.hid (And.intro (Eq.refl t.length) h5)
  clear h5
  refine (lCrashN t (u.take M4) t.length M4 t.length M4 X4 ca4 Y4 cb4 m2 n2 H5.out.1 H5.out.2 HM5.out HC4.out.1 HC4.out.2.1 V4 T4x.out T4y.out).mono ?_
  rintro e w5 ⟨⟨N5, M5, X5, ca5, Y5, cb5, rfl, hN5, hM5, hX5, hY5, hc5, hd5⟩, hB5⟩
  obtain rfl : t.length = N5 := by rw [hN5, leftN_all]
  obtain rfl : M4 = M5 := by rw [hM5, leftN_all]
  rw [List.take_length] at hX5
  rw [List.take_take, Nat.min_self] at hY5
  have HBn := Lib.hid (below_up HB.out hB5)
  have Knl := Lib.hid (Kl.out.below hB5 Kl.out.lt)
  have Knk := Lib.hid (Kk.out.below hB5 Kk.out.lt)
  have Kna := Lib.hid (Ka.out.below hB5 Ka.out.lt)
  have Kns := Lib.hid (Ks.out.below hB5 Ks.out.lt)
  have Knx := Lib.hid (Kx.out.below hB5 Kx.out.lt)
  have Tnx := Lib.hid (Tx.out.up hB5)
  have Tny := Lib.hid (Ty.out.up hB5)
  have Tn3x := Lib.hid (T3x.out.up hB5)
  have Tn3y := Lib.hid (T3y.out.up hB5)
  have Tn4x := Lib.hid (T4x.out.up hB5)
  have Tn4y := Lib.hid (T4y.out.up hB5)
  clear HB Kl Kk Ka Ks Kx Tx Ty T3x T3y T4x T4y
  have HB := Lib.hid HBn.out
  have Kl := Lib.hid Knl.out
  have Kk := Lib.hid Knk.out
  have Ka := Lib.hid Kna.out
  have Ks := Lib.hid Kns.out
  have Kx := Lib.hid Knx.out
  have Tx := Lib.hid Tnx.out
  have Ty := Lib.hid Tny.out
  have T3x := Lib.hid Tn3x.out
  have T3y := Lib.hid Tn3y.out
  have T4x := Lib.hid Tn4x.out
  have T4y := Lib.hid Tn4y.out
  clear HBn Knl Knk Kna Kns Knx Tnx Tny Tn3x Tn3y Tn4x Tn4y
  have T5x := Lib.hid hX5
  have T5y := Lib.hid hY5
  clear hB5 hX5 hY5 hc5 hd5 hN5 hM5
  go_upto_region 10 with fail
  have hKn := Blk.new w5 70 #[.slice X5 t.length ca5, .int .i64 (t.length : Int), .slice Y5 M4 cb5, .int .i64 (M4 : Int)]
  have hBn := below_alloc (o := .cells #[.slice X5 t.length ca5, .int .i64 (t.length : Int), .slice Y5 M4 cb5, .int .i64 (M4 : Int)] 70) (Below.refl w5.heap.size w5)
  generalize w5.alloc (.cells #[.slice X5 t.length ca5, .int .i64 (t.length : Int), .slice Y5 M4 cb5, .int .i64 (M4 : Int)] 70) = V5 at *
  have HBn := Lib.hid (below_up HB.out hBn)
  have Knl := Lib.hid (Kl.out.below hBn Kl.out.lt)
  have Knk := Lib.hid (Kk.out.below hBn Kk.out.lt)
  have Kna := Lib.hid (Ka.out.below hBn Ka.out.lt)
  have Kns := Lib.hid (Ks.out.below hBn Ks.out.lt)
  have Knx := Lib.hid (Kx.out.below hBn Kx.out.lt)
  have Tnx := Lib.hid (Tx.out.up hBn)
  have Tny := Lib.hid (Ty.out.up hBn)
  have Tn3x := Lib.hid (T3x.out.up hBn)
  have Tn3y := Lib.hid (T3y.out.up hBn)
  have Tn4x := Lib.hid (T4x.out.up hBn)
  have Tn4y := Lib.hid (T4y.out.up hBn)
  have Tn5x := Lib.hid (T5x.out.up hBn)
  have Tn5y := Lib.hid (T5y.out.up hBn)
  clear HB Kl Kk Ka Ks Kx Tx Ty T3x T3y T4x T4y T5x T5y
  have HB := Lib.hid HBn.out
  have Kl := Lib.hid Knl.out
  have Kk := Lib.hid Knk.out
  have Ka := Lib.hid Kna.out
  have Ks := Lib.hid Kns.out
  have Kx := Lib.hid Knx.out
  have Tx := Lib.hid Tnx.out
  have Ty := Lib.hid Tny.out
  have T3x := Lib.hid Tn3x.out
  have T3y := Lib.hid Tn3y.out
  have T4x := Lib.hid Tn4x.out
  have T4y := Lib.hid Tn4y.out
  have T5x := Lib.hid Tn5x.out
  have T5y := Lib.hid Tn5y.out
  clear HBn Knl Knk Kna Kns Knx Tnx Tny Tn3x Tn3y Tn4x Tn4y Tn5x Tn5y
  obtain ⟨gy, hg⟩ : ∃ n, n = w5.heap.size := ⟨_, rfl⟩
  rw [← hg] at hKn ⊢
  have Ky := Lib.hid hKn
  clear hKn hBn hg
  have cl0 : V5.cell? ⟨w.heap.size, 0, none⟩ = some (.slice X t.length ca) := Kl.out.cell 0
  have cl1 : V5.cell? ⟨w.heap.size, 1, none⟩ = some (.int .i64 (p : Int)) := Kl.out.cell 1
  have cl2 : V5.cell? ⟨w.heap.size, 2, none⟩ = some (.slice Y u.length cb) := Kl.out.cell 2
  have cl3 : V5.cell? ⟨w.heap.size, 3, none⟩ = some (.int .i64 (q : Int)) := Kl.out.cell 3
  have ck0 : V5.cell? ⟨w.heap.size + 1, 0, none⟩ = some (.int .i64 m) := Kk.out.cell 0
  have ck1 : V5.cell? ⟨w.heap.size + 1, 1, none⟩ = some (.int .i64 n) := Kk.out.cell 1
  go_wp2_with fail
  clear cl0 cl1 cl2 cl3 ck0 ck1
  refine (lCrashN t u t.length u.length p q X ca Y cb m n rfl rfl HM.out HCA.out.1 HCA.out.2 V5 Tx.out Ty.out).mono ?_
  rintro e w6 ⟨⟨N6, M6, X6, ca6, Y6, cb6, rfl, hN6, hM6, hX6, hY6, hc6, hd6⟩, hB6⟩
  have HBn := Lib.hid (below_up HB.out hB6)
  have Knl := Lib.hid (Kl.out.below hB6 Kl.out.lt)
  have Knk := Lib.hid (Kk.out.below hB6 Kk.out.lt)
  have Kna := Lib.hid (Ka.out.below hB6 Ka.out.lt)
  have Kns := Lib.hid (Ks.out.below hB6 Ks.out.lt)
  have Knx := Lib.hid (Kx.out.below hB6 Kx.out.lt)
  have Kny := Lib.hid (Ky.out.below hB6 Ky.out.lt)
  have Tnx := Lib.hid (Tx.out.up hB6)
  have Tny := Lib.hid (Ty.out.up hB6)
  have Tn3x := Lib.hid (T3x.out.up hB6)
  have Tn3y := Lib.hid (T3y.out.up hB6)
  have Tn4x := Lib.hid (T4x.out.up hB6)
  have Tn4y := Lib.hid (T4y.out.up hB6)
  have Tn5x := Lib.hid (T5x.out.up hB6)
  have Tn5y := Lib.hid (T5y.out.up hB6)
  clear HB Kl Kk Ka Ks Kx Ky Tx Ty T3x T3y T4x T4y T5x T5y
  have HB := Lib.hid HBn.out
  have Kl := Lib.hid Knl.out
  have Kk := Lib.hid Knk.out
  have Ka := Lib.hid Kna.out
  have Ks := Lib.hid Kns.out
  have Kx := Lib.hid Knx.out
  have Ky := Lib.hid Kny.out
  have Tx := Lib.hid Tnx.out
  have Ty := Lib.hid Tny.out
  have T3x := Lib.hid Tn3x.out
  have T3y := Lib.hid Tn3y.out
  have T4x := Lib.hid Tn4x.out
  have T4y := Lib.hid Tn4y.out
  have T5x := Lib.hid Tn5x.out
  have T5y := Lib.hid Tn5y.out
  clear HBn Knl Knk Kna Kns Knx Kny Tnx Tny Tn3x Tn3y Tn4x Tn4y Tn5x Tn5y
  have T6x := Lib.hid hX6
  have T6y := Lib.hid hY6
  have HC6 := Lib.hid (And.intro hN6 hM6)
  clear hB6 hX6 hY6 hc6 hd6 hN6 hM6
  go_upto_region 11 with fail
  have hKn := Blk.new w6 70 #[.slice X6 N6 ca6, .int .i64 (N6 : Int), .slice Y6 M6 cb6, .int .i64 (M6 : Int)]
  have hBn := below_alloc (o := .cells #[.slice X6 N6 ca6, .int .i64 (N6 : Int), .slice Y6 M6 cb6, .int .i64 (M6 : Int)] 70) (Below.refl w6.heap.size w6)
  generalize w6.alloc (.cells #[.slice X6 N6 ca6, .int .i64 (N6 : Int), .slice Y6 M6 cb6, .int .i64 (M6 : Int)] 70) = V6 at *
  have HBn := Lib.hid (below_up HB.out hBn)
  have Knl := Lib.hid (Kl.out.below hBn Kl.out.lt)
  have Knk := Lib.hid (Kk.out.below hBn Kk.out.lt)
  have Kna := Lib.hid (Ka.out.below hBn Ka.out.lt)
  have Kns := Lib.hid (Ks.out.below hBn Ks.out.lt)
  have Knx := Lib.hid (Kx.out.below hBn Kx.out.lt)
  have Kny := Lib.hid (Ky.out.below hBn Ky.out.lt)
  have Tnx := Lib.hid (Tx.out.up hBn)
  have Tny := Lib.hid (Ty.out.up hBn)
  have Tn3x := Lib.hid (T3x.out.up hBn)
  have Tn3y := Lib.hid (T3y.out.up hBn)
  have Tn4x := Lib.hid (T4x.out.up hBn)
  have Tn4y := Lib.hid (T4y.out.up hBn)
  have Tn5x := Lib.hid (T5x.out.up hBn)
  have Tn5y := Lib.hid (T5y.out.up hBn)
  have Tn6x := Lib.hid (T6x.out.up hBn)
  have Tn6y := Lib.hid (T6y.out.up hBn)
  clear HB Kl Kk Ka Ks Kx Ky Tx Ty T3x T3y T4x T4y T5x T5y T6x T6y
  have HB := Lib.hid HBn.out
  have Kl := Lib.hid Knl.out
  have Kk := Lib.hid Knk.out
  have Ka := Lib.hid Kna.out
  have Ks := Lib.hid Kns.out
  have Kx := Lib.hid Knx.out
  have Ky := Lib.hid Kny.out
  have Tx := Lib.hid Tnx.out
  have Ty := Lib.hid Tny.out
  have T3x := Lib.hid Tn3x.out
  have T3y := Lib.hid Tn3y.out
  have T4x := Lib.hid Tn4x.out
  have T4y := Lib.hid Tn4y.out
  have T5x := Lib.hid Tn5x.out
  have T5y := Lib.hid Tn5y.out
  have T6x := Lib.hid Tn6x.out
  have T6y := Lib.hid Tn6y.out
  clear HBn Knl Knk Kna Kns Knx Kny Tnx Tny Tn3x Tn3y Tn4x Tn4y Tn5x Tn5y Tn6x Tn6y
  obtain ⟨gz, hg⟩ : ∃ n, n = w6.heap.size := ⟨_, rfl⟩
  rw [← hg] at hKn ⊢
  have Kz := Lib.hid hKn
  clear hKn hBn hg
  have cl0 : V6.cell? ⟨w.heap.size, 0, none⟩ = some (.slice X t.length ca) := Kl.out.cell 0
  have cl1 : V6.cell? ⟨w.heap.size, 1, none⟩ = some (.int .i64 (p : Int)) := Kl.out.cell 1
  have cl2 : V6.cell? ⟨w.heap.size, 2, none⟩ = some (.slice Y u.length cb) := Kl.out.cell 2
  have cl3 : V6.cell? ⟨w.heap.size, 3, none⟩ = some (.int .i64 (q : Int)) := Kl.out.cell 3
  have ck0 : V6.cell? ⟨w.heap.size + 1, 0, none⟩ = some (.int .i64 m) := Kk.out.cell 0
  have ck1 : V6.cell? ⟨w.heap.size + 1, 1, none⟩ = some (.int .i64 n) := Kk.out.cell 1
  have ca0 : V6.cell? ⟨w.heap.size + 1 + 1, 0, none⟩ = some (.int .i64 m2) := Ka.out.cell 0
  have ca1 : V6.cell? ⟨w.heap.size + 1 + 1, 1, none⟩ = some (.int .i64 n2) := Ka.out.cell 1
  have hmx := HMX.out
  have hmy := HMY.out
  go_wp2_with fail
  clear hmx hmy cl0 cl1 cl2 cl3 ck0 ck1 ca0 ca1
  refine (lCrashN t u t.length u.length p q X ca Y cb (max m m2) (max n n2) rfl rfl HM.out HCA.out.1 HCA.out.2 V6 Tx.out Ty.out).mono ?_
  rintro e w7 ⟨⟨N7, M7, X7, ca7, Y7, cb7, rfl, hN7, hM7, hX7, hY7, hc7, hd7⟩, hB7⟩
  have HBn := Lib.hid (below_up HB.out hB7)
  have Knl := Lib.hid (Kl.out.below hB7 Kl.out.lt)
  have Knk := Lib.hid (Kk.out.below hB7 Kk.out.lt)
  have Kna := Lib.hid (Ka.out.below hB7 Ka.out.lt)
  have Kns := Lib.hid (Ks.out.below hB7 Ks.out.lt)
  have Knx := Lib.hid (Kx.out.below hB7 Kx.out.lt)
  have Kny := Lib.hid (Ky.out.below hB7 Ky.out.lt)
  have Knz := Lib.hid (Kz.out.below hB7 Kz.out.lt)
  have Tnx := Lib.hid (Tx.out.up hB7)
  have Tny := Lib.hid (Ty.out.up hB7)
  have Tn3x := Lib.hid (T3x.out.up hB7)
  have Tn3y := Lib.hid (T3y.out.up hB7)
  have Tn4x := Lib.hid (T4x.out.up hB7)
  have Tn4y := Lib.hid (T4y.out.up hB7)
  have Tn5x := Lib.hid (T5x.out.up hB7)
  have Tn5y := Lib.hid (T5y.out.up hB7)
  have Tn6x := Lib.hid (T6x.out.up hB7)
  have Tn6y := Lib.hid (T6y.out.up hB7)
  clear HB Kl Kk Ka Ks Kx Ky Kz Tx Ty T3x T3y T4x T4y T5x T5y T6x T6y
  have HB := Lib.hid HBn.out
  have Kl := Lib.hid Knl.out
  have Kk := Lib.hid Knk.out
  have Ka := Lib.hid Kna.out
  have Ks := Lib.hid Kns.out
  have Kx := Lib.hid Knx.out
  have Ky := Lib.hid Kny.out
  have Kz := Lib.hid Knz.out
  have Tx := Lib.hid Tnx.out
  have Ty := Lib.hid Tny.out
  have T3x := Lib.hid Tn3x.out
  have T3y := Lib.hid Tn3y.out
  have T4x := Lib.hid Tn4x.out
  have T4y := Lib.hid Tn4y.out
  have T5x := Lib.hid Tn5x.out
  have T5y := Lib.hid Tn5y.out
  have T6x := Lib.hid Tn6x.out
  have T6y := Lib.hid Tn6y.out
  clear HBn Knl Knk Kna Kns Knx Kny Knz Tnx Tny Tn3x Tn3y Tn4x Tn4y Tn5x Tn5y Tn6x Tn6y
  have T7x := Lib.hid hX7
  have T7y := Lib.hid hY7
  have HC7 := Lib.hid (show (p ≤ N6 ∧ N6 ≤ N7 ∧ N6 ≤ t.length ∧ N7 ≤ t.length) ∧ (q ≤ M6 ∧ M6 ≤ M7 ∧ M6 ≤ u.length ∧ M7 ≤ u.length) ∧ N7 ≤ ca7 ∧ M7 ≤ cb7 from by rw [HC6.out.1, HC6.out.2, hN7, hM7] at *; exact ⟨⟨leftN_ge _ HM.out.hp, leftN_mono _ _ HM.out.hp, leftN_le _ HM.out.hp, leftN_le _ HM.out.hp⟩, ⟨leftN_ge _ HM.out.hq, leftN_mono _ _ HM.out.hq, leftN_le _ HM.out.hq, leftN_le _ HM.out.hq⟩, hc7, hd7⟩)
  clear hB7 hX7 hY7 hc7 hd7 hN7 hM7 HC6
  go_upto_region 12 with fail
  have hKn := Blk.new w7 70 #[.slice X7 N7 ca7, .int .i64 (N7 : Int), .slice Y7 M7 cb7, .int .i64 (M7 : Int)]
  have hBn := below_alloc (o := .cells #[.slice X7 N7 ca7, .int .i64 (N7 : Int), .slice Y7 M7 cb7, .int .i64 (M7 : Int)] 70) (Below.refl w7.heap.size w7)
  generalize w7.alloc (.cells #[.slice X7 N7 ca7, .int .i64 (N7 : Int), .slice Y7 M7 cb7, .int .i64 (M7 : Int)] 70) = V7 at *
  have HBn := Lib.hid (below_up HB.out hBn)
  have Knl := Lib.hid (Kl.out.below hBn Kl.out.lt)
  have Knk := Lib.hid (Kk.out.below hBn Kk.out.lt)
  have Kna := Lib.hid (Ka.out.below hBn Ka.out.lt)
  have Kns := Lib.hid (Ks.out.below hBn Ks.out.lt)
  have Knx := Lib.hid (Kx.out.below hBn Kx.out.lt)
  have Kny := Lib.hid (Ky.out.below hBn Ky.out.lt)
  have Knz := Lib.hid (Kz.out.below hBn Kz.out.lt)
  have Tnx := Lib.hid (Tx.out.up hBn)
  have Tny := Lib.hid (Ty.out.up hBn)
  have Tn3x := Lib.hid (T3x.out.up hBn)
  have Tn3y := Lib.hid (T3y.out.up hBn)
  have Tn4x := Lib.hid (T4x.out.up hBn)
  have Tn4y := Lib.hid (T4y.out.up hBn)
  have Tn5x := Lib.hid (T5x.out.up hBn)
  have Tn5y := Lib.hid (T5y.out.up hBn)
  have Tn6x := Lib.hid (T6x.out.up hBn)
  have Tn6y := Lib.hid (T6y.out.up hBn)
  have Tn7x := Lib.hid (T7x.out.up hBn)
  have Tn7y := Lib.hid (T7y.out.up hBn)
  clear HB Kl Kk Ka Ks Kx Ky Kz Tx Ty T3x T3y T4x T4y T5x T5y T6x T6y T7x T7y
  have HB := Lib.hid HBn.out
  have Kl := Lib.hid Knl.out
  have Kk := Lib.hid Knk.out
  have Ka := Lib.hid Kna.out
  have Ks := Lib.hid Kns.out
  have Kx := Lib.hid Knx.out
  have Ky := Lib.hid Kny.out
  have Kz := Lib.hid Knz.out
  have Tx := Lib.hid Tnx.out
  have Ty := Lib.hid Tny.out
  have T3x := Lib.hid Tn3x.out
  have T3y := Lib.hid Tn3y.out
  have T4x := Lib.hid Tn4x.out
  have T4y := Lib.hid Tn4y.out
  have T5x := Lib.hid Tn5x.out
  have T5y := Lib.hid Tn5y.out
  have T6x := Lib.hid Tn6x.out
  have T6y := Lib.hid Tn6y.out
  have T7x := Lib.hid Tn7x.out
  have T7y := Lib.hid Tn7y.out
  clear HBn Knl Knk Kna Kns Knx Kny Knz Tnx Tny Tn3x Tn3y Tn4x Tn4y Tn5x Tn5y Tn6x Tn6y Tn7x Tn7y
  obtain ⟨gw, hg⟩ : ∃ n, n = w7.heap.size := ⟨_, rfl⟩
  rw [← hg] at hKn ⊢
  have Kw := Lib.hid hKn
  clear hKn hBn hg
  have cl0 : V7.cell? ⟨w.heap.size, 0, none⟩ = some (.slice X t.length ca) := Kl.out.cell 0
  have cl1 : V7.cell? ⟨w.heap.size, 1, none⟩ = some (.int .i64 (p : Int)) := Kl.out.cell 1
  have cl2 : V7.cell? ⟨w.heap.size, 2, none⟩ = some (.slice Y u.length cb) := Kl.out.cell 2
  have cl3 : V7.cell? ⟨w.heap.size, 3, none⟩ = some (.int .i64 (q : Int)) := Kl.out.cell 3
  have cx0 : V7.cell? ⟨gx, 0, none⟩ = some (.slice X4 t.length ca4) := Kx.out.cell 0
  have cx1 : V7.cell? ⟨gx, 1, none⟩ = some (.int .i64 (t.length : Int)) := Kx.out.cell 1
  have cx2 : V7.cell? ⟨gx, 2, none⟩ = some (.slice Y4 M4 cb4) := Kx.out.cell 2
  have cx3 : V7.cell? ⟨gx, 3, none⟩ = some (.int .i64 (M4 : Int)) := Kx.out.cell 3
  have cy0 : V7.cell? ⟨gy, 0, none⟩ = some (.slice X5 t.length ca5) := Ky.out.cell 0
  have cy1 : V7.cell? ⟨gy, 1, none⟩ = some (.int .i64 (t.length : Int)) := Ky.out.cell 1
  have cy2 : V7.cell? ⟨gy, 2, none⟩ = some (.slice Y5 M4 cb5) := Ky.out.cell 2
  have cy3 : V7.cell? ⟨gy, 3, none⟩ = some (.int .i64 (M4 : Int)) := Ky.out.cell 3
  have H6 := HL6 t u M4 (by have := HC4.out; omega)
  have kq0 := cell_regrown cl0
  have kq1 := cell_regrown cl1
  have kq2 := cell_regrown cl2
  have kq3 := cell_regrown cl3
  have kq4 := cell_regrown cx0
  have kq5 := cell_regrown cx1
  have kq6 := cell_regrown cx2
  have kq7 := cell_regrown cx3
  have kq8 := cell_regrown cy0
  have kq9 := cell_regrown cy1
  have kq10 := cell_regrown cy2
  have kq11 := cell_regrown cy3
  have kv0 := fun (dq : _) (osq : _) => run_strOf (n := t.length) (c := ca4) (reads_n (l := t) (rfl) (TAt.up T4x.out (below_regrown V7 dq osq)))
  have kv1 := fun (dq : _) (osq : _) => run_strOf (n := t.length) (c := ca) (reads_n (l := t) (rfl) (TAt.up Tx.out (below_regrown V7 dq osq)))
  refine wp_region_quiet_below (by kernel_rfl) (by kernel_rfl) ?_
  repeat (go_big_quiet_step (first | fail | exact Calls.regrown_of (lSameN t (u.take M4) t.length M4 (t.length : Int) (M4 : Int) X4 ca4 Y4 cb4 X5 ca5 Y5 cb5 rfl H6.out _ (T4x.out.up (below_regrown _ _ _)) (T4y.out.up (below_regrown _ _ _)) (T5x.out.up (below_regrown _ _ _)) (T5y.out.up (below_regrown _ _ _)))))
  refine wpQuiet_nil ?_
  intro _ hw'
  obtain ⟨⟨dq, osq⟩, hw''⟩ := hw'
  subst hw''
  have hBq := below_regrown V7 dq osq
  clear kq0 kq1 kq2 kq3 kq4 kq5 kq6 kq7 kq8 kq9 kq10 kq11 kv0 kv1
  generalize grow (redrawn V7 dq) osq = V8 at *
  clear cl0 cl1 cl2 cl3 cx0 cx1 cx2 cx3 cy0 cy1 cy2 cy3 H6
  have HBn := Lib.hid (below_up HB.out hBq)
  have Knl := Lib.hid (Kl.out.below hBq Kl.out.lt)
  have Knk := Lib.hid (Kk.out.below hBq Kk.out.lt)
  have Kna := Lib.hid (Ka.out.below hBq Ka.out.lt)
  have Kns := Lib.hid (Ks.out.below hBq Ks.out.lt)
  have Knx := Lib.hid (Kx.out.below hBq Kx.out.lt)
  have Kny := Lib.hid (Ky.out.below hBq Ky.out.lt)
  have Knz := Lib.hid (Kz.out.below hBq Kz.out.lt)
  have Knw := Lib.hid (Kw.out.below hBq Kw.out.lt)
  have Tnx := Lib.hid (Tx.out.up hBq)
  have Tny := Lib.hid (Ty.out.up hBq)
  have Tn3x := Lib.hid (T3x.out.up hBq)
  have Tn3y := Lib.hid (T3y.out.up hBq)
  have Tn4x := Lib.hid (T4x.out.up hBq)
  have Tn4y := Lib.hid (T4y.out.up hBq)
  have Tn5x := Lib.hid (T5x.out.up hBq)
  have Tn5y := Lib.hid (T5y.out.up hBq)
  have Tn6x := Lib.hid (T6x.out.up hBq)
  have Tn6y := Lib.hid (T6y.out.up hBq)
  have Tn7x := Lib.hid (T7x.out.up hBq)
  have Tn7y := Lib.hid (T7y.out.up hBq)
  clear HB Kl Kk Ka Ks Kx Ky Kz Kw Tx Ty T3x T3y T4x T4y T5x T5y T6x T6y T7x T7y
  have HB := Lib.hid HBn.out
  have Kl := Lib.hid Knl.out
  have Kk := Lib.hid Knk.out
  have Ka := Lib.hid Kna.out
  have Ks := Lib.hid Kns.out
  have Kx := Lib.hid Knx.out
  have Ky := Lib.hid Kny.out
  have Kz := Lib.hid Knz.out
  have Kw := Lib.hid Knw.out
  have Tx := Lib.hid Tnx.out
  have Ty := Lib.hid Tny.out
  have T3x := Lib.hid Tn3x.out
  have T3y := Lib.hid Tn3y.out
  have T4x := Lib.hid Tn4x.out
  have T4y := Lib.hid Tn4y.out
  have T5x := Lib.hid Tn5x.out
  have T5y := Lib.hid Tn5y.out
  have T6x := Lib.hid Tn6x.out
  have T6y := Lib.hid Tn6y.out
  have T7x := Lib.hid Tn7x.out
  have T7y := Lib.hid Tn7y.out
  clear HBn Knl Knk Kna Kns Knx Kny Knz Knw Tnx Tny Tn3x Tn3y Tn4x Tn4y Tn5x Tn5y Tn6x Tn6y Tn7x Tn7y
  clear hBq
  go_wp2_with fail
  go_loopw [21, 22] (fun i nv wr => ∃ j : Nat, j ≤ 2 ∧ i = .int .i64 j ∧ Hid (Below V8.heap.size V8 wr))
    (fun i nv _ => 2 - (intOf i).toNat)
  case atStart => exact ⟨0, by omega, rfl, Below.refl _ _⟩
  case round =>
    obtain ⟨j, hj, rfl, hBr⟩ := hrel
    have HBn := Lib.hid (below_up HB.out hBr.out)
    have Knl := Lib.hid (Kl.out.below hBr.out Kl.out.lt)
    have Knk := Lib.hid (Kk.out.below hBr.out Kk.out.lt)
    have Kna := Lib.hid (Ka.out.below hBr.out Ka.out.lt)
    have Kns := Lib.hid (Ks.out.below hBr.out Ks.out.lt)
    have Knx := Lib.hid (Kx.out.below hBr.out Kx.out.lt)
    have Kny := Lib.hid (Ky.out.below hBr.out Ky.out.lt)
    have Knz := Lib.hid (Kz.out.below hBr.out Kz.out.lt)
    have Knw := Lib.hid (Kw.out.below hBr.out Kw.out.lt)
    have Tnx := Lib.hid (Tx.out.up hBr.out)
    have Tny := Lib.hid (Ty.out.up hBr.out)
    have Tn3x := Lib.hid (T3x.out.up hBr.out)
    have Tn3y := Lib.hid (T3y.out.up hBr.out)
    have Tn4x := Lib.hid (T4x.out.up hBr.out)
    have Tn4y := Lib.hid (T4y.out.up hBr.out)
    have Tn5x := Lib.hid (T5x.out.up hBr.out)
    have Tn5y := Lib.hid (T5y.out.up hBr.out)
    have Tn6x := Lib.hid (T6x.out.up hBr.out)
    have Tn6y := Lib.hid (T6y.out.up hBr.out)
    have Tn7x := Lib.hid (T7x.out.up hBr.out)
    have Tn7y := Lib.hid (T7y.out.up hBr.out)
    clear HB Kl Kk Ka Ks Kx Ky Kz Kw Tx Ty T3x T3y T4x T4y T5x T5y T6x T6y T7x T7y
    have HB := Lib.hid HBn.out
    have Kl := Lib.hid Knl.out
    have Kk := Lib.hid Knk.out
    have Ka := Lib.hid Kna.out
    have Ks := Lib.hid Kns.out
    have Kx := Lib.hid Knx.out
    have Ky := Lib.hid Kny.out
    have Kz := Lib.hid Knz.out
    have Kw := Lib.hid Knw.out
    have Tx := Lib.hid Tnx.out
    have Ty := Lib.hid Tny.out
    have T3x := Lib.hid Tn3x.out
    have T3y := Lib.hid Tn3y.out
    have T4x := Lib.hid Tn4x.out
    have T4y := Lib.hid Tn4y.out
    have T5x := Lib.hid Tn5x.out
    have T5y := Lib.hid Tn5y.out
    have T6x := Lib.hid Tn6x.out
    have T6y := Lib.hid Tn6y.out
    have T7x := Lib.hid Tn7x.out
    have T7y := Lib.hid Tn7y.out
    clear HBn Knl Knk Kna Kns Knx Kny Knz Knw Tnx Tny Tn3x Tn3y Tn4x Tn4y Tn5x Tn5y Tn6x Tn6y Tn7x Tn7y
    match j, hj with
    | 0, _ =>
      have cl0 : wr.cell? ⟨w.heap.size, 0, none⟩ = some (.slice X t.length ca) := Kl.out.cell 0
      have cl1 : wr.cell? ⟨w.heap.size, 1, none⟩ = some (.int .i64 (p : Int)) := Kl.out.cell 1
      have cl2 : wr.cell? ⟨w.heap.size, 2, none⟩ = some (.slice Y u.length cb) := Kl.out.cell 2
      have cl3 : wr.cell? ⟨w.heap.size, 3, none⟩ = some (.int .i64 (q : Int)) := Kl.out.cell 3
      have cz0 : wr.cell? ⟨gz, 0, none⟩ = some (.slice X6 N6 ca6) := Kz.out.cell 0
      have cz1 : wr.cell? ⟨gz, 1, none⟩ = some (.int .i64 (N6 : Int)) := Kz.out.cell 1
      have cz2 : wr.cell? ⟨gz, 2, none⟩ = some (.slice Y6 M6 cb6) := Kz.out.cell 2
      have cz3 : wr.cell? ⟨gz, 3, none⟩ = some (.int .i64 (M6 : Int)) := Kz.out.cell 3
      have cw0 : wr.cell? ⟨gw, 0, none⟩ = some (.slice X7 N7 ca7) := Kw.out.cell 0
      have cw1 : wr.cell? ⟨gw, 1, none⟩ = some (.int .i64 (N7 : Int)) := Kw.out.cell 1
      have cw2 : wr.cell? ⟨gw, 2, none⟩ = some (.slice Y7 M7 cb7) := Kw.out.cell 2
      have cw3 : wr.cell? ⟨gw, 3, none⟩ = some (.int .i64 (M7 : Int)) := Kw.out.cell 3
      have d1 : decide ((N6 : Int) < (p : Int)) = false := decide_eq_false (by have := HC7.out.1; omega)
      have d2 : decide ((N7 : Int) < (N6 : Int)) = false := decide_eq_false (by have := HC7.out.1; omega)
      have D1 := Lib.hid (And.intro d1 d2)
      clear d1 d2
      have i3 : (N6 : Int) ≤ (ca7 : Int) := by have := HC7.out; omega
      have hl := HLT t N6 N7 (by have := HC7.out; omega) (by have := HC7.out; omega)
      have HTw := Lib.hid (show TAt wr X7 (t.take N6) from by have h := TAt.take T7x.out N6; rw [List.take_take, Nat.min_eq_left (by have := HC7.out; omega)] at h; exact h)
      go_wp2_with fail
      have d1 := D1.out.1
      have d2 := D1.out.2
      have e1 : decide (N6 < p) = false := decide_eq_false (by have := HC7.out.1; omega)
      have e2 : decide (N7 < N6) = false := decide_eq_false (by have := HC7.out.1; omega)
      have kq0 := cell_regrown cl0
      have kq1 := cell_regrown cl1
      have kq2 := cell_regrown cl2
      have kq3 := cell_regrown cl3
      have kq4 := cell_regrown cz0
      have kq5 := cell_regrown cz1
      have kq6 := cell_regrown cz2
      have kq7 := cell_regrown cz3
      have kq8 := cell_regrown cw0
      have kq9 := cell_regrown cw1
      have kq10 := cell_regrown cw2
      have kq11 := cell_regrown cw3
      have kv0 := fun (dq : _) (osq : _) => run_strOf (n := N6) (c := ca7) (reads_n (l := t.take N6) (hl.out) (TAt.up HTw.out (below_regrown wr dq osq)))
      have kv1 := fun (dq : _) (osq : _) => run_strOf (n := N6) (c := ca6) (reads_n (l := t.take N6) (hl.out) (TAt.up T6x.out (below_regrown wr dq osq)))
      refine wp_region_quiet_below (by kernel_rfl) (by kernel_rfl) ?_
      repeat (go_big_quiet_step (first | fail))
      refine wpQuiet_nil ?_
      intro _ hw'
      obtain ⟨⟨dq, osq⟩, hw''⟩ := hw'
      subst hw''
      have hBq := below_regrown wr dq osq
      clear kq0 kq1 kq2 kq3 kq4 kq5 kq6 kq7 kq8 kq9 kq10 kq11 kv0 kv1
      generalize grow (redrawn wr dq) osq = wq at *
      clear d1 d2 e1 e2 i3 hl cl0 cl1 cl2 cl3 cz0 cz1 cz2 cz3 cw0 cw1 cw2 cw3
      go_wp2_with fail
      go_roundw
      case rel => exact ⟨1, by omega, by go_num, below_up hBr.out hBq⟩
      case measure => simp [intOf]
    | 1, _ =>
      have cl0 : wr.cell? ⟨w.heap.size, 0, none⟩ = some (.slice X t.length ca) := Kl.out.cell 0
      have cl1 : wr.cell? ⟨w.heap.size, 1, none⟩ = some (.int .i64 (p : Int)) := Kl.out.cell 1
      have cl2 : wr.cell? ⟨w.heap.size, 2, none⟩ = some (.slice Y u.length cb) := Kl.out.cell 2
      have cl3 : wr.cell? ⟨w.heap.size, 3, none⟩ = some (.int .i64 (q : Int)) := Kl.out.cell 3
      have cz0 : wr.cell? ⟨gz, 0, none⟩ = some (.slice X6 N6 ca6) := Kz.out.cell 0
      have cz1 : wr.cell? ⟨gz, 1, none⟩ = some (.int .i64 (N6 : Int)) := Kz.out.cell 1
      have cz2 : wr.cell? ⟨gz, 2, none⟩ = some (.slice Y6 M6 cb6) := Kz.out.cell 2
      have cz3 : wr.cell? ⟨gz, 3, none⟩ = some (.int .i64 (M6 : Int)) := Kz.out.cell 3
      have cw0 : wr.cell? ⟨gw, 0, none⟩ = some (.slice X7 N7 ca7) := Kw.out.cell 0
      have cw1 : wr.cell? ⟨gw, 1, none⟩ = some (.int .i64 (N7 : Int)) := Kw.out.cell 1
      have cw2 : wr.cell? ⟨gw, 2, none⟩ = some (.slice Y7 M7 cb7) := Kw.out.cell 2
      have cw3 : wr.cell? ⟨gw, 3, none⟩ = some (.int .i64 (M7 : Int)) := Kw.out.cell 3
      have d1 : decide ((M6 : Int) < (q : Int)) = false := decide_eq_false (by have := HC7.out.2.1; omega)
      have d2 : decide ((M7 : Int) < (M6 : Int)) = false := decide_eq_false (by have := HC7.out.2.1; omega)
      have D1 := Lib.hid (And.intro d1 d2)
      clear d1 d2
      have i3 : (M6 : Int) ≤ (cb7 : Int) := by have := HC7.out; omega
      have hl := HLT u M6 M7 (by have := HC7.out; omega) (by have := HC7.out; omega)
      have HTw := Lib.hid (show TAt wr Y7 (u.take M6) from by have h := TAt.take T7y.out M6; rw [List.take_take, Nat.min_eq_left (by have := HC7.out; omega)] at h; exact h)
      go_wp2_with fail
      have d1 := D1.out.1
      have d2 := D1.out.2
      have e1 : decide (M6 < q) = false := decide_eq_false (by have := HC7.out.2.1; omega)
      have e2 : decide (M7 < M6) = false := decide_eq_false (by have := HC7.out.2.1; omega)
      have kq0 := cell_regrown cl0
      have kq1 := cell_regrown cl1
      have kq2 := cell_regrown cl2
      have kq3 := cell_regrown cl3
      have kq4 := cell_regrown cz0
      have kq5 := cell_regrown cz1
      have kq6 := cell_regrown cz2
      have kq7 := cell_regrown cz3
      have kq8 := cell_regrown cw0
      have kq9 := cell_regrown cw1
      have kq10 := cell_regrown cw2
      have kq11 := cell_regrown cw3
      have kv0 := fun (dq : _) (osq : _) => run_strOf (n := M6) (c := cb7) (reads_n (l := u.take M6) (hl.out) (TAt.up HTw.out (below_regrown wr dq osq)))
      have kv1 := fun (dq : _) (osq : _) => run_strOf (n := M6) (c := cb6) (reads_n (l := u.take M6) (hl.out) (TAt.up T6y.out (below_regrown wr dq osq)))
      refine wp_region_quiet_below (by kernel_rfl) (by kernel_rfl) ?_
      repeat (go_big_quiet_step (first | fail))
      refine wpQuiet_nil ?_
      intro _ hw'
      obtain ⟨⟨dq, osq⟩, hw''⟩ := hw'
      subst hw''
      have hBq := below_regrown wr dq osq
      clear kq0 kq1 kq2 kq3 kq4 kq5 kq6 kq7 kq8 kq9 kq10 kq11 kv0 kv1
      generalize grow (redrawn wr dq) osq = wq at *
      clear d1 d2 e1 e2 i3 hl cl0 cl1 cl2 cl3 cz0 cz1 cz2 cz3 cw0 cw1 cw2 cw3
      go_wp2_with fail
      go_roundw
      case rel => exact ⟨2, by omega, by go_num, below_up hBr.out hBq⟩
      case measure => simp [intOf]
    | 2, _ =>
      go_wp2_with fail
      go_ret
      exact ⟨rfl, HB.out⟩
    | j + 3, h => omega
set_option maxRecDepth 100000 in
set_option maxHeartbeats 8000000 in
theorem lastOk1 (t u : List Int) (p q : Nat) (X : Option Addr) (ca : Nat) (Y : Option Addr) (cb : Nat) (a m n m2 n2 : Int) (HG : Hid (greatL ⟨t, (p : Int)⟩ ⟨u, (q : Int)⟩ = false)) (HM : Hid (May t u p q)) (HMS : Hid (May t u p u.length)) (HCA : Hid (t.length ≤ ca ∧ u.length ≤ cb)) (HR : Hid (Int.tmod a 2 = 1)) (HMX : Hid (max m m2 = max m m2)) (HMY : Hid (max n n2 = max n n2)) (w : World) (hX : TAt w X t) (hY : TAt w Y u) :
    Calls Try.prog 14 #[.agg #[.slice X t.length ca, .int .i64 (p : Int), .slice Y u.length cb, .int .i64 (q : Int)], .int .u8 a, .agg #[.int .i64 m, .int .i64 n], .agg #[.int .i64 m2, .int .i64 n2]] w fun e w' => e = .returned (.bool true) ∧ Below w.heap.size w w' := by
  have HX := Lib.hid (And.intro hX hY)
  clear hX hY
  go_enter Try.func14, Try.ntmps14
  go_upto_region 1 with fail
  have Kl := Lib.hid (((Blk.new w 70 #[.slice X t.length ca, .int .i64 (p : Int), .slice Y u.length cb, .int .i64 (q : Int)]).alloc (.cells #[.int .i64 m, .int .i64 n] 73)).alloc (.cells #[.int .i64 m2, .int .i64 n2] 73))
  have Kk := Lib.hid ((blk1 w 73 #[.int .i64 m, .int .i64 n] (o := .cells #[.slice X t.length ca, .int .i64 (p : Int), .slice Y u.length cb, .int .i64 (q : Int)] 70)).alloc (.cells #[.int .i64 m2, .int .i64 n2] 73))
  have Ka := Lib.hid (blk2 w 73 #[.int .i64 m2, .int .i64 n2] (o := .cells #[.slice X t.length ca, .int .i64 (p : Int), .slice Y u.length cb, .int .i64 (q : Int)] 70) (o' := .cells #[.int .i64 m, .int .i64 n] 73))
  have HB := Lib.hid (below_alloc (o := .cells #[.int .i64 m2, .int .i64 n2] 73) (below_alloc (o := .cells #[.int .i64 m, .int .i64 n] 73) (below_alloc (o := .cells #[.slice X t.length ca, .int .i64 (p : Int), .slice Y u.length cb, .int .i64 (q : Int)] 70) (Below.refl w.heap.size w))))
  have Tx := Lib.hid (HX.out.1.up (below_alloc (o := .cells #[.int .i64 m2, .int .i64 n2] 73) (below_alloc (o := .cells #[.int .i64 m, .int .i64 n] 73) (below_alloc (o := .cells #[.slice X t.length ca, .int .i64 (p : Int), .slice Y u.length cb, .int .i64 (q : Int)] 70) (Below.refl w.heap.size w)))))
  have Ty := Lib.hid (HX.out.2.up (below_alloc (o := .cells #[.int .i64 m2, .int .i64 n2] 73) (below_alloc (o := .cells #[.int .i64 m, .int .i64 n] 73) (below_alloc (o := .cells #[.slice X t.length ca, .int .i64 (p : Int), .slice Y u.length cb, .int .i64 (q : Int)] 70) (Below.refl w.heap.size w)))))
  generalize ((w.alloc (.cells #[.slice X t.length ca, .int .i64 (p : Int), .slice Y u.length cb, .int .i64 (q : Int)] 70)).alloc (.cells #[.int .i64 m, .int .i64 n] 73)).alloc (.cells #[.int .i64 m2, .int .i64 n2] 73) = W0 at *
  clear HX
  go_wp2_with fail
  refine (alive29 W0).mono ?_
  rintro e w1 ⟨rfl, hB1⟩
  have HBn := Lib.hid (below_up HB.out hB1)
  have Knl := Lib.hid (Kl.out.below hB1 Kl.out.lt)
  have Knk := Lib.hid (Kk.out.below hB1 Kk.out.lt)
  have Kna := Lib.hid (Ka.out.below hB1 Ka.out.lt)
  have Tnx := Lib.hid (Tx.out.up hB1)
  have Tny := Lib.hid (Ty.out.up hB1)
  clear HB Kl Kk Ka Tx Ty
  have HB := Lib.hid HBn.out
  have Kl := Lib.hid Knl.out
  have Kk := Lib.hid Knk.out
  have Ka := Lib.hid Kna.out
  have Tx := Lib.hid Tnx.out
  have Ty := Lib.hid Tny.out
  clear HBn Knl Knk Kna Tnx Tny
  clear hB1
  have cl0 : w1.cell? ⟨w.heap.size, 0, none⟩ = some (.slice X t.length ca) := Kl.out.cell 0
  have cl1 : w1.cell? ⟨w.heap.size, 1, none⟩ = some (.int .i64 (p : Int)) := Kl.out.cell 1
  have cl2 : w1.cell? ⟨w.heap.size, 2, none⟩ = some (.slice Y u.length cb) := Kl.out.cell 2
  have cl3 : w1.cell? ⟨w.heap.size, 3, none⟩ = some (.int .i64 (q : Int)) := Kl.out.cell 3
  go_wp2_with fail
  clear cl0 cl1 cl2 cl3
  refine (rGreat ⟨t, (p : Int)⟩ ⟨u, (q : Int)⟩ X ca Y cb w1).mono ?_
  rintro e w2 ⟨rfl, hB2⟩
  rw [HG.out]
  have HBn := Lib.hid (below_up HB.out hB2)
  have Knl := Lib.hid (Kl.out.below hB2 Kl.out.lt)
  have Knk := Lib.hid (Kk.out.below hB2 Kk.out.lt)
  have Kna := Lib.hid (Ka.out.below hB2 Ka.out.lt)
  have Tnx := Lib.hid (Tx.out.up hB2)
  have Tny := Lib.hid (Ty.out.up hB2)
  clear HB Kl Kk Ka Tx Ty
  have HB := Lib.hid HBn.out
  have Kl := Lib.hid Knl.out
  have Kk := Lib.hid Knk.out
  have Ka := Lib.hid Kna.out
  have Tx := Lib.hid Tnx.out
  have Ty := Lib.hid Tny.out
  clear HBn Knl Knk Kna Tnx Tny
  clear hB2
  have cl0 : w2.cell? ⟨w.heap.size, 0, none⟩ = some (.slice X t.length ca) := Kl.out.cell 0
  have cl1 : w2.cell? ⟨w.heap.size, 1, none⟩ = some (.int .i64 (p : Int)) := Kl.out.cell 1
  have cl2 : w2.cell? ⟨w.heap.size, 2, none⟩ = some (.slice Y u.length cb) := Kl.out.cell 2
  have cl3 : w2.cell? ⟨w.heap.size, 3, none⟩ = some (.int .i64 (q : Int)) := Kl.out.cell 3
  have hrem := HR.out
  go_wp2_with fail
  clear hrem cl0 cl1 cl2 cl3
  refine (lSync1 t u p q X ca Y cb HM.out w2 Tx.out Ty.out).mono ?_
  rintro e w3 ⟨⟨X3, ca3, Y3, cb3, rfl, hX3, hY3, hc3, hd3⟩, hB3⟩
  have HBn := Lib.hid (below_up HB.out hB3)
  have Knl := Lib.hid (Kl.out.below hB3 Kl.out.lt)
  have Knk := Lib.hid (Kk.out.below hB3 Kk.out.lt)
  have Kna := Lib.hid (Ka.out.below hB3 Ka.out.lt)
  have Tnx := Lib.hid (Tx.out.up hB3)
  have Tny := Lib.hid (Ty.out.up hB3)
  clear HB Kl Kk Ka Tx Ty
  have HB := Lib.hid HBn.out
  have Kl := Lib.hid Knl.out
  have Kk := Lib.hid Knk.out
  have Ka := Lib.hid Kna.out
  have Tx := Lib.hid Tnx.out
  have Ty := Lib.hid Tny.out
  clear HBn Knl Knk Kna Tnx Tny
  have T3x := Lib.hid hX3
  have T3y := Lib.hid hY3
  have HC3 := Lib.hid (And.intro hc3 hd3)
  clear hB3 hX3 hY3 hc3 hd3
  go_upto_region 6 with fail
  have hKn := Blk.new w3 70 #[.slice X3 t.length ca3, .int .i64 (p : Int), .slice Y3 u.length cb3, .int .i64 (u.length : Int)]
  have hBn := below_alloc (o := .cells #[.slice X3 t.length ca3, .int .i64 (p : Int), .slice Y3 u.length cb3, .int .i64 (u.length : Int)] 70) (Below.refl w3.heap.size w3)
  generalize w3.alloc (.cells #[.slice X3 t.length ca3, .int .i64 (p : Int), .slice Y3 u.length cb3, .int .i64 (u.length : Int)] 70) = V3 at *
  have HBn := Lib.hid (below_up HB.out hBn)
  have Knl := Lib.hid (Kl.out.below hBn Kl.out.lt)
  have Knk := Lib.hid (Kk.out.below hBn Kk.out.lt)
  have Kna := Lib.hid (Ka.out.below hBn Ka.out.lt)
  have Tnx := Lib.hid (Tx.out.up hBn)
  have Tny := Lib.hid (Ty.out.up hBn)
  have Tn3x := Lib.hid (T3x.out.up hBn)
  have Tn3y := Lib.hid (T3y.out.up hBn)
  clear HB Kl Kk Ka Tx Ty T3x T3y
  have HB := Lib.hid HBn.out
  have Kl := Lib.hid Knl.out
  have Kk := Lib.hid Knk.out
  have Ka := Lib.hid Kna.out
  have Tx := Lib.hid Tnx.out
  have Ty := Lib.hid Tny.out
  have T3x := Lib.hid Tn3x.out
  have T3y := Lib.hid Tn3y.out
  clear HBn Knl Knk Kna Tnx Tny Tn3x Tn3y
  obtain ⟨gs, hg⟩ : ∃ n, n = w3.heap.size := ⟨_, rfl⟩
  rw [← hg] at hKn ⊢
  have Ks := Lib.hid hKn
  clear hKn hBn hg
  have ck0 : V3.cell? ⟨w.heap.size + 1, 0, none⟩ = some (.int .i64 m) := Kk.out.cell 0
  have ck1 : V3.cell? ⟨w.heap.size + 1, 1, none⟩ = some (.int .i64 n) := Kk.out.cell 1
  have cs0 : V3.cell? ⟨gs, 0, none⟩ = some (.slice X3 t.length ca3) := Ks.out.cell 0
  have cs1 : V3.cell? ⟨gs, 1, none⟩ = some (.int .i64 (p : Int)) := Ks.out.cell 1
  have cs2 : V3.cell? ⟨gs, 2, none⟩ = some (.slice Y3 u.length cb3) := Ks.out.cell 2
  have cs3 : V3.cell? ⟨gs, 3, none⟩ = some (.int .i64 (u.length : Int)) := Ks.out.cell 3
  go_wp2_with fail
  clear ck0 ck1 cs0 cs1 cs2 cs3
  refine (lCrashN t u t.length u.length p u.length X3 ca3 Y3 cb3 m n rfl rfl HMS.out HC3.out.1 HC3.out.2 V3 T3x.out T3y.out).mono ?_
  rintro e w4 ⟨⟨N4, M4, X4, ca4, Y4, cb4, rfl, hN4, hM4, hX4, hY4, hc4, hd4⟩, hB4⟩
  obtain rfl : u.length = M4 := by rw [hM4, leftN_all]
  rw [List.take_length] at hY4
  have hN4l : N4 ≤ t.length := by rw [hN4]; exact leftN_le _ HM.out.hp
  have hM4l : u.length ≤ u.length := Nat.le_refl _
  have HBn := Lib.hid (below_up HB.out hB4)
  have Knl := Lib.hid (Kl.out.below hB4 Kl.out.lt)
  have Knk := Lib.hid (Kk.out.below hB4 Kk.out.lt)
  have Kna := Lib.hid (Ka.out.below hB4 Ka.out.lt)
  have Kns := Lib.hid (Ks.out.below hB4 Ks.out.lt)
  have Tnx := Lib.hid (Tx.out.up hB4)
  have Tny := Lib.hid (Ty.out.up hB4)
  have Tn3x := Lib.hid (T3x.out.up hB4)
  have Tn3y := Lib.hid (T3y.out.up hB4)
  clear HB Kl Kk Ka Ks Tx Ty T3x T3y
  have HB := Lib.hid HBn.out
  have Kl := Lib.hid Knl.out
  have Kk := Lib.hid Knk.out
  have Ka := Lib.hid Kna.out
  have Ks := Lib.hid Kns.out
  have Tx := Lib.hid Tnx.out
  have Ty := Lib.hid Tny.out
  have T3x := Lib.hid Tn3x.out
  have T3y := Lib.hid Tn3y.out
  clear HBn Knl Knk Kna Kns Tnx Tny Tn3x Tn3y
  have T4x := Lib.hid hX4
  have T4y := Lib.hid hY4
  have HC4 := Lib.hid (And.intro hc4 (And.intro hd4 (And.intro hN4l hM4l)))
  clear hB4 hX4 hY4 hc4 hd4 hN4 hM4 hN4l hM4l
  go_upto_region 9 with fail
  have hKn := Blk.new w4 70 #[.slice X4 N4 ca4, .int .i64 (N4 : Int), .slice Y4 u.length cb4, .int .i64 (u.length : Int)]
  have hBn := below_alloc (o := .cells #[.slice X4 N4 ca4, .int .i64 (N4 : Int), .slice Y4 u.length cb4, .int .i64 (u.length : Int)] 70) (Below.refl w4.heap.size w4)
  generalize w4.alloc (.cells #[.slice X4 N4 ca4, .int .i64 (N4 : Int), .slice Y4 u.length cb4, .int .i64 (u.length : Int)] 70) = V4 at *
  have HBn := Lib.hid (below_up HB.out hBn)
  have Knl := Lib.hid (Kl.out.below hBn Kl.out.lt)
  have Knk := Lib.hid (Kk.out.below hBn Kk.out.lt)
  have Kna := Lib.hid (Ka.out.below hBn Ka.out.lt)
  have Kns := Lib.hid (Ks.out.below hBn Ks.out.lt)
  have Tnx := Lib.hid (Tx.out.up hBn)
  have Tny := Lib.hid (Ty.out.up hBn)
  have Tn3x := Lib.hid (T3x.out.up hBn)
  have Tn3y := Lib.hid (T3y.out.up hBn)
  have Tn4x := Lib.hid (T4x.out.up hBn)
  have Tn4y := Lib.hid (T4y.out.up hBn)
  clear HB Kl Kk Ka Ks Tx Ty T3x T3y T4x T4y
  have HB := Lib.hid HBn.out
  have Kl := Lib.hid Knl.out
  have Kk := Lib.hid Knk.out
  have Ka := Lib.hid Kna.out
  have Ks := Lib.hid Kns.out
  have Tx := Lib.hid Tnx.out
  have Ty := Lib.hid Tny.out
  have T3x := Lib.hid Tn3x.out
  have T3y := Lib.hid Tn3y.out
  have T4x := Lib.hid Tn4x.out
  have T4y := Lib.hid Tn4y.out
  clear HBn Knl Knk Kna Kns Tnx Tny Tn3x Tn3y Tn4x Tn4y
  obtain ⟨gx, hg⟩ : ∃ n, n = w4.heap.size := ⟨_, rfl⟩
  rw [← hg] at hKn ⊢
  have Kx := Lib.hid hKn
  clear hKn hBn hg
  have ca0 : V4.cell? ⟨w.heap.size + 1 + 1, 0, none⟩ = some (.int .i64 m2) := Ka.out.cell 0
  have ca1 : V4.cell? ⟨w.heap.size + 1 + 1, 1, none⟩ = some (.int .i64 n2) := Ka.out.cell 1
  have cx0 : V4.cell? ⟨gx, 0, none⟩ = some (.slice X4 N4 ca4) := Kx.out.cell 0
  have cx1 : V4.cell? ⟨gx, 1, none⟩ = some (.int .i64 (N4 : Int)) := Kx.out.cell 1
  have cx2 : V4.cell? ⟨gx, 2, none⟩ = some (.slice Y4 u.length cb4) := Kx.out.cell 2
  have cx3 : V4.cell? ⟨gx, 3, none⟩ = some (.int .i64 (u.length : Int)) := Kx.out.cell 3
  go_wp2_with fail
  clear ca0 ca1 cx0 cx1 cx2 cx3
  have h5 : N4 = (t.take N4).length := by rw [List.length_take]; have := HC4.out; omega
  have HM5 := Lib.hid (show May (t.take N4) u N4 u.length from ⟨by rw [← h5]; have := HC4.out; have := HM.out.ht; omega, HM.out.hu, by rw [← h5]; exact Nat.le_refl _, Nat.le_refl _⟩)
  have H5 := Lib.hid (And.intro h5 (Eq.refl u.length))
  clear h5
  refine (lCrashN (t.take N4) u N4 u.length N4 u.length X4 ca4 Y4 cb4 m2 n2 H5.out.1 H5.out.2 HM5.out HC4.out.1 HC4.out.2.1 V4 T4x.out T4y.out).mono ?_
  rintro e w5 ⟨⟨N5, M5, X5, ca5, Y5, cb5, rfl, hN5, hM5, hX5, hY5, hc5, hd5⟩, hB5⟩
  obtain rfl : N4 = N5 := by rw [hN5, leftN_all]
  obtain rfl : u.length = M5 := by rw [hM5, leftN_all]
  rw [List.take_length] at hY5
  rw [List.take_take, Nat.min_self] at hX5
  have HBn := Lib.hid (below_up HB.out hB5)
  have Knl := Lib.hid (Kl.out.below hB5 Kl.out.lt)
  have Knk := Lib.hid (Kk.out.below hB5 Kk.out.lt)
  have Kna := Lib.hid (Ka.out.below hB5 Ka.out.lt)
  have Kns := Lib.hid (Ks.out.below hB5 Ks.out.lt)
  have Knx := Lib.hid (Kx.out.below hB5 Kx.out.lt)
  have Tnx := Lib.hid (Tx.out.up hB5)
  have Tny := Lib.hid (Ty.out.up hB5)
  have Tn3x := Lib.hid (T3x.out.up hB5)
  have Tn3y := Lib.hid (T3y.out.up hB5)
  have Tn4x := Lib.hid (T4x.out.up hB5)
  have Tn4y := Lib.hid (T4y.out.up hB5)
  clear HB Kl Kk Ka Ks Kx Tx Ty T3x T3y T4x T4y
  have HB := Lib.hid HBn.out
  have Kl := Lib.hid Knl.out
  have Kk := Lib.hid Knk.out
  have Ka := Lib.hid Kna.out
  have Ks := Lib.hid Kns.out
  have Kx := Lib.hid Knx.out
  have Tx := Lib.hid Tnx.out
  have Ty := Lib.hid Tny.out
  have T3x := Lib.hid Tn3x.out
  have T3y := Lib.hid Tn3y.out
  have T4x := Lib.hid Tn4x.out
  have T4y := Lib.hid Tn4y.out
  clear HBn Knl Knk Kna Kns Knx Tnx Tny Tn3x Tn3y Tn4x Tn4y
  have T5x := Lib.hid hX5
  have T5y := Lib.hid hY5
  clear hB5 hX5 hY5 hc5 hd5 hN5 hM5
  go_upto_region 10 with fail
  have hKn := Blk.new w5 70 #[.slice X5 N4 ca5, .int .i64 (N4 : Int), .slice Y5 u.length cb5, .int .i64 (u.length : Int)]
  have hBn := below_alloc (o := .cells #[.slice X5 N4 ca5, .int .i64 (N4 : Int), .slice Y5 u.length cb5, .int .i64 (u.length : Int)] 70) (Below.refl w5.heap.size w5)
  generalize w5.alloc (.cells #[.slice X5 N4 ca5, .int .i64 (N4 : Int), .slice Y5 u.length cb5, .int .i64 (u.length : Int)] 70) = V5 at *
  have HBn := Lib.hid (below_up HB.out hBn)
  have Knl := Lib.hid (Kl.out.below hBn Kl.out.lt)
  have Knk := Lib.hid (Kk.out.below hBn Kk.out.lt)
  have Kna := Lib.hid (Ka.out.below hBn Ka.out.lt)
  have Kns := Lib.hid (Ks.out.below hBn Ks.out.lt)
  have Knx := Lib.hid (Kx.out.below hBn Kx.out.lt)
  have Tnx := Lib.hid (Tx.out.up hBn)
  have Tny := Lib.hid (Ty.out.up hBn)
  have Tn3x := Lib.hid (T3x.out.up hBn)
  have Tn3y := Lib.hid (T3y.out.up hBn)
  have Tn4x := Lib.hid (T4x.out.up hBn)
  have Tn4y := Lib.hid (T4y.out.up hBn)
  have Tn5x := Lib.hid (T5x.out.up hBn)
  have Tn5y := Lib.hid (T5y.out.up hBn)
  clear HB Kl Kk Ka Ks Kx Tx Ty T3x T3y T4x T4y T5x T5y
  have HB := Lib.hid HBn.out
  have Kl := Lib.hid Knl.out
  have Kk := Lib.hid Knk.out
  have Ka := Lib.hid Kna.out
  have Ks := Lib.hid Kns.out
  have Kx := Lib.hid Knx.out
  have Tx := Lib.hid Tnx.out
  have Ty := Lib.hid Tny.out
  have T3x := Lib.hid Tn3x.out
  have T3y := Lib.hid Tn3y.out
  have T4x := Lib.hid Tn4x.out
  have T4y := Lib.hid Tn4y.out
  have T5x := Lib.hid Tn5x.out
  have T5y := Lib.hid Tn5y.out
  clear HBn Knl Knk Kna Kns Knx Tnx Tny Tn3x Tn3y Tn4x Tn4y Tn5x Tn5y
  obtain ⟨gy, hg⟩ : ∃ n, n = w5.heap.size := ⟨_, rfl⟩
  rw [← hg] at hKn ⊢
  have Ky := Lib.hid hKn
  clear hKn hBn hg
  have cl0 : V5.cell? ⟨w.heap.size, 0, none⟩ = some (.slice X t.length ca) := Kl.out.cell 0
  have cl1 : V5.cell? ⟨w.heap.size, 1, none⟩ = some (.int .i64 (p : Int)) := Kl.out.cell 1
  have cl2 : V5.cell? ⟨w.heap.size, 2, none⟩ = some (.slice Y u.length cb) := Kl.out.cell 2
  have cl3 : V5.cell? ⟨w.heap.size, 3, none⟩ = some (.int .i64 (q : Int)) := Kl.out.cell 3
  have ck0 : V5.cell? ⟨w.heap.size + 1, 0, none⟩ = some (.int .i64 m) := Kk.out.cell 0
  have ck1 : V5.cell? ⟨w.heap.size + 1, 1, none⟩ = some (.int .i64 n) := Kk.out.cell 1
  go_wp2_with fail
  clear cl0 cl1 cl2 cl3 ck0 ck1
  refine (lCrashN t u t.length u.length p q X ca Y cb m n rfl rfl HM.out HCA.out.1 HCA.out.2 V5 Tx.out Ty.out).mono ?_
  rintro e w6 ⟨⟨N6, M6, X6, ca6, Y6, cb6, rfl, hN6, hM6, hX6, hY6, hc6, hd6⟩, hB6⟩
  have HBn := Lib.hid (below_up HB.out hB6)
  have Knl := Lib.hid (Kl.out.below hB6 Kl.out.lt)
  have Knk := Lib.hid (Kk.out.below hB6 Kk.out.lt)
  have Kna := Lib.hid (Ka.out.below hB6 Ka.out.lt)
  have Kns := Lib.hid (Ks.out.below hB6 Ks.out.lt)
  have Knx := Lib.hid (Kx.out.below hB6 Kx.out.lt)
  have Kny := Lib.hid (Ky.out.below hB6 Ky.out.lt)
  have Tnx := Lib.hid (Tx.out.up hB6)
  have Tny := Lib.hid (Ty.out.up hB6)
  have Tn3x := Lib.hid (T3x.out.up hB6)
  have Tn3y := Lib.hid (T3y.out.up hB6)
  have Tn4x := Lib.hid (T4x.out.up hB6)
  have Tn4y := Lib.hid (T4y.out.up hB6)
  have Tn5x := Lib.hid (T5x.out.up hB6)
  have Tn5y := Lib.hid (T5y.out.up hB6)
  clear HB Kl Kk Ka Ks Kx Ky Tx Ty T3x T3y T4x T4y T5x T5y
  have HB := Lib.hid HBn.out
  have Kl := Lib.hid Knl.out
  have Kk := Lib.hid Knk.out
  have Ka := Lib.hid Kna.out
  have Ks := Lib.hid Kns.out
  have Kx := Lib.hid Knx.out
  have Ky := Lib.hid Kny.out
  have Tx := Lib.hid Tnx.out
  have Ty := Lib.hid Tny.out
  have T3x := Lib.hid Tn3x.out
  have T3y := Lib.hid Tn3y.out
  have T4x := Lib.hid Tn4x.out
  have T4y := Lib.hid Tn4y.out
  have T5x := Lib.hid Tn5x.out
  have T5y := Lib.hid Tn5y.out
  clear HBn Knl Knk Kna Kns Knx Kny Tnx Tny Tn3x Tn3y Tn4x Tn4y Tn5x Tn5y
  have T6x := Lib.hid hX6
  have T6y := Lib.hid hY6
  have HC6 := Lib.hid (And.intro hN6 hM6)
  clear hB6 hX6 hY6 hc6 hd6 hN6 hM6
  go_upto_region 11 with fail
  have hKn := Blk.new w6 70 #[.slice X6 N6 ca6, .int .i64 (N6 : Int), .slice Y6 M6 cb6, .int .i64 (M6 : Int)]
  have hBn := below_alloc (o := .cells #[.slice X6 N6 ca6, .int .i64 (N6 : Int), .slice Y6 M6 cb6, .int .i64 (M6 : Int)] 70) (Below.refl w6.heap.size w6)
  generalize w6.alloc (.cells #[.slice X6 N6 ca6, .int .i64 (N6 : Int), .slice Y6 M6 cb6, .int .i64 (M6 : Int)] 70) = V6 at *
  have HBn := Lib.hid (below_up HB.out hBn)
  have Knl := Lib.hid (Kl.out.below hBn Kl.out.lt)
  have Knk := Lib.hid (Kk.out.below hBn Kk.out.lt)
  have Kna := Lib.hid (Ka.out.below hBn Ka.out.lt)
  have Kns := Lib.hid (Ks.out.below hBn Ks.out.lt)
  have Knx := Lib.hid (Kx.out.below hBn Kx.out.lt)
  have Kny := Lib.hid (Ky.out.below hBn Ky.out.lt)
  have Tnx := Lib.hid (Tx.out.up hBn)
  have Tny := Lib.hid (Ty.out.up hBn)
  have Tn3x := Lib.hid (T3x.out.up hBn)
  have Tn3y := Lib.hid (T3y.out.up hBn)
  have Tn4x := Lib.hid (T4x.out.up hBn)
  have Tn4y := Lib.hid (T4y.out.up hBn)
  have Tn5x := Lib.hid (T5x.out.up hBn)
  have Tn5y := Lib.hid (T5y.out.up hBn)
  have Tn6x := Lib.hid (T6x.out.up hBn)
  have Tn6y := Lib.hid (T6y.out.up hBn)
  clear HB Kl Kk Ka Ks Kx Ky Tx Ty T3x T3y T4x T4y T5x T5y T6x T6y
  have HB := Lib.hid HBn.out
  have Kl := Lib.hid Knl.out
  have Kk := Lib.hid Knk.out
  have Ka := Lib.hid Kna.out
  have Ks := Lib.hid Kns.out
  have Kx := Lib.hid Knx.out
  have Ky := Lib.hid Kny.out
  have Tx := Lib.hid Tnx.out
  have Ty := Lib.hid Tny.out
  have T3x := Lib.hid Tn3x.out
  have T3y := Lib.hid Tn3y.out
  have T4x := Lib.hid Tn4x.out
  have T4y := Lib.hid Tn4y.out
  have T5x := Lib.hid Tn5x.out
  have T5y := Lib.hid Tn5y.out
  have T6x := Lib.hid Tn6x.out
  have T6y := Lib.hid Tn6y.out
  clear HBn Knl Knk Kna Kns Knx Kny Tnx Tny Tn3x Tn3y Tn4x Tn4y Tn5x Tn5y Tn6x Tn6y
  obtain ⟨gz, hg⟩ : ∃ n, n = w6.heap.size := ⟨_, rfl⟩
  rw [← hg] at hKn ⊢
  have Kz := Lib.hid hKn
  clear hKn hBn hg
  have cl0 : V6.cell? ⟨w.heap.size, 0, none⟩ = some (.slice X t.length ca) := Kl.out.cell 0
  have cl1 : V6.cell? ⟨w.heap.size, 1, none⟩ = some (.int .i64 (p : Int)) := Kl.out.cell 1
  have cl2 : V6.cell? ⟨w.heap.size, 2, none⟩ = some (.slice Y u.length cb) := Kl.out.cell 2
  have cl3 : V6.cell? ⟨w.heap.size, 3, none⟩ = some (.int .i64 (q : Int)) := Kl.out.cell 3
  have ck0 : V6.cell? ⟨w.heap.size + 1, 0, none⟩ = some (.int .i64 m) := Kk.out.cell 0
  have ck1 : V6.cell? ⟨w.heap.size + 1, 1, none⟩ = some (.int .i64 n) := Kk.out.cell 1
  have ca0 : V6.cell? ⟨w.heap.size + 1 + 1, 0, none⟩ = some (.int .i64 m2) := Ka.out.cell 0
  have ca1 : V6.cell? ⟨w.heap.size + 1 + 1, 1, none⟩ = some (.int .i64 n2) := Ka.out.cell 1
  have hmx := HMX.out
  have hmy := HMY.out
  go_wp2_with fail
  clear hmx hmy cl0 cl1 cl2 cl3 ck0 ck1 ca0 ca1
  refine (lCrashN t u t.length u.length p q X ca Y cb (max m m2) (max n n2) rfl rfl HM.out HCA.out.1 HCA.out.2 V6 Tx.out Ty.out).mono ?_
  rintro e w7 ⟨⟨N7, M7, X7, ca7, Y7, cb7, rfl, hN7, hM7, hX7, hY7, hc7, hd7⟩, hB7⟩
  have HBn := Lib.hid (below_up HB.out hB7)
  have Knl := Lib.hid (Kl.out.below hB7 Kl.out.lt)
  have Knk := Lib.hid (Kk.out.below hB7 Kk.out.lt)
  have Kna := Lib.hid (Ka.out.below hB7 Ka.out.lt)
  have Kns := Lib.hid (Ks.out.below hB7 Ks.out.lt)
  have Knx := Lib.hid (Kx.out.below hB7 Kx.out.lt)
  have Kny := Lib.hid (Ky.out.below hB7 Ky.out.lt)
  have Knz := Lib.hid (Kz.out.below hB7 Kz.out.lt)
  have Tnx := Lib.hid (Tx.out.up hB7)
  have Tny := Lib.hid (Ty.out.up hB7)
  have Tn3x := Lib.hid (T3x.out.up hB7)
  have Tn3y := Lib.hid (T3y.out.up hB7)
  have Tn4x := Lib.hid (T4x.out.up hB7)
  have Tn4y := Lib.hid (T4y.out.up hB7)
  have Tn5x := Lib.hid (T5x.out.up hB7)
  have Tn5y := Lib.hid (T5y.out.up hB7)
  have Tn6x := Lib.hid (T6x.out.up hB7)
  have Tn6y := Lib.hid (T6y.out.up hB7)
  clear HB Kl Kk Ka Ks Kx Ky Kz Tx Ty T3x T3y T4x T4y T5x T5y T6x T6y
  have HB := Lib.hid HBn.out
  have Kl := Lib.hid Knl.out
  have Kk := Lib.hid Knk.out
  have Ka := Lib.hid Kna.out
  have Ks := Lib.hid Kns.out
  have Kx := Lib.hid Knx.out
  have Ky := Lib.hid Kny.out
  have Kz := Lib.hid Knz.out
  have Tx := Lib.hid Tnx.out
  have Ty := Lib.hid Tny.out
  have T3x := Lib.hid Tn3x.out
  have T3y := Lib.hid Tn3y.out
  have T4x := Lib.hid Tn4x.out
  have T4y := Lib.hid Tn4y.out
  have T5x := Lib.hid Tn5x.out
  have T5y := Lib.hid Tn5y.out
  have T6x := Lib.hid Tn6x.out
  have T6y := Lib.hid Tn6y.out
  clear HBn Knl Knk Kna Kns Knx Kny Knz Tnx Tny Tn3x Tn3y Tn4x Tn4y Tn5x Tn5y Tn6x Tn6y
  have T7x := Lib.hid hX7
  have T7y := Lib.hid hY7
  have HC7 := Lib.hid (show (p ≤ N6 ∧ N6 ≤ N7 ∧ N6 ≤ t.length ∧ N7 ≤ t.length) ∧ (q ≤ M6 ∧ M6 ≤ M7 ∧ M6 ≤ u.length ∧ M7 ≤ u.length) ∧ N7 ≤ ca7 ∧ M7 ≤ cb7 from by rw [HC6.out.1, HC6.out.2, hN7, hM7] at *; exact ⟨⟨leftN_ge _ HM.out.hp, leftN_mono _ _ HM.out.hp, leftN_le _ HM.out.hp, leftN_le _ HM.out.hp⟩, ⟨leftN_ge _ HM.out.hq, leftN_mono _ _ HM.out.hq, leftN_le _ HM.out.hq, leftN_le _ HM.out.hq⟩, hc7, hd7⟩)
  clear hB7 hX7 hY7 hc7 hd7 hN7 hM7 HC6
  go_upto_region 12 with fail
  have hKn := Blk.new w7 70 #[.slice X7 N7 ca7, .int .i64 (N7 : Int), .slice Y7 M7 cb7, .int .i64 (M7 : Int)]
  have hBn := below_alloc (o := .cells #[.slice X7 N7 ca7, .int .i64 (N7 : Int), .slice Y7 M7 cb7, .int .i64 (M7 : Int)] 70) (Below.refl w7.heap.size w7)
  generalize w7.alloc (.cells #[.slice X7 N7 ca7, .int .i64 (N7 : Int), .slice Y7 M7 cb7, .int .i64 (M7 : Int)] 70) = V7 at *
  have HBn := Lib.hid (below_up HB.out hBn)
  have Knl := Lib.hid (Kl.out.below hBn Kl.out.lt)
  have Knk := Lib.hid (Kk.out.below hBn Kk.out.lt)
  have Kna := Lib.hid (Ka.out.below hBn Ka.out.lt)
  have Kns := Lib.hid (Ks.out.below hBn Ks.out.lt)
  have Knx := Lib.hid (Kx.out.below hBn Kx.out.lt)
  have Kny := Lib.hid (Ky.out.below hBn Ky.out.lt)
  have Knz := Lib.hid (Kz.out.below hBn Kz.out.lt)
  have Tnx := Lib.hid (Tx.out.up hBn)
  have Tny := Lib.hid (Ty.out.up hBn)
  have Tn3x := Lib.hid (T3x.out.up hBn)
  have Tn3y := Lib.hid (T3y.out.up hBn)
  have Tn4x := Lib.hid (T4x.out.up hBn)
  have Tn4y := Lib.hid (T4y.out.up hBn)
  have Tn5x := Lib.hid (T5x.out.up hBn)
  have Tn5y := Lib.hid (T5y.out.up hBn)
  have Tn6x := Lib.hid (T6x.out.up hBn)
  have Tn6y := Lib.hid (T6y.out.up hBn)
  have Tn7x := Lib.hid (T7x.out.up hBn)
  have Tn7y := Lib.hid (T7y.out.up hBn)
  clear HB Kl Kk Ka Ks Kx Ky Kz Tx Ty T3x T3y T4x T4y T5x T5y T6x T6y T7x T7y
  have HB := Lib.hid HBn.out
  have Kl := Lib.hid Knl.out
  have Kk := Lib.hid Knk.out
  have Ka := Lib.hid Kna.out
  have Ks := Lib.hid Kns.out
  have Kx := Lib.hid Knx.out
  have Ky := Lib.hid Kny.out
  have Kz := Lib.hid Knz.out
  have Tx := Lib.hid Tnx.out
  have Ty := Lib.hid Tny.out
  have T3x := Lib.hid Tn3x.out
  have T3y := Lib.hid Tn3y.out
  have T4x := Lib.hid Tn4x.out
  have T4y := Lib.hid Tn4y.out
  have T5x := Lib.hid Tn5x.out
  have T5y := Lib.hid Tn5y.out
  have T6x := Lib.hid Tn6x.out
  have T6y := Lib.hid Tn6y.out
  have T7x := Lib.hid Tn7x.out
  have T7y := Lib.hid Tn7y.out
  clear HBn Knl Knk Kna Kns Knx Kny Knz Tnx Tny Tn3x Tn3y Tn4x Tn4y Tn5x Tn5y Tn6x Tn6y Tn7x Tn7y
  obtain ⟨gw, hg⟩ : ∃ n, n = w7.heap.size := ⟨_, rfl⟩
  rw [← hg] at hKn ⊢
  have Kw := Lib.hid hKn
  clear hKn hBn hg
  have cl0 : V7.cell? ⟨w.heap.size, 0, none⟩ = some (.slice X t.length ca) := Kl.out.cell 0
  have cl1 : V7.cell? ⟨w.heap.size, 1, none⟩ = some (.int .i64 (p : Int)) := Kl.out.cell 1
  have cl2 : V7.cell? ⟨w.heap.size, 2, none⟩ = some (.slice Y u.length cb) := Kl.out.cell 2
  have cl3 : V7.cell? ⟨w.heap.size, 3, none⟩ = some (.int .i64 (q : Int)) := Kl.out.cell 3
  have cx0 : V7.cell? ⟨gx, 0, none⟩ = some (.slice X4 N4 ca4) := Kx.out.cell 0
  have cx1 : V7.cell? ⟨gx, 1, none⟩ = some (.int .i64 (N4 : Int)) := Kx.out.cell 1
  have cx2 : V7.cell? ⟨gx, 2, none⟩ = some (.slice Y4 u.length cb4) := Kx.out.cell 2
  have cx3 : V7.cell? ⟨gx, 3, none⟩ = some (.int .i64 (u.length : Int)) := Kx.out.cell 3
  have cy0 : V7.cell? ⟨gy, 0, none⟩ = some (.slice X5 N4 ca5) := Ky.out.cell 0
  have cy1 : V7.cell? ⟨gy, 1, none⟩ = some (.int .i64 (N4 : Int)) := Ky.out.cell 1
  have cy2 : V7.cell? ⟨gy, 2, none⟩ = some (.slice Y5 u.length cb5) := Ky.out.cell 2
  have cy3 : V7.cell? ⟨gy, 3, none⟩ = some (.int .i64 (u.length : Int)) := Ky.out.cell 3
  have H6 := HL6 u t N4 (by have := HC4.out; omega)
  have kq0 := cell_regrown cl0
  have kq1 := cell_regrown cl1
  have kq2 := cell_regrown cl2
  have kq3 := cell_regrown cl3
  have kq4 := cell_regrown cx0
  have kq5 := cell_regrown cx1
  have kq6 := cell_regrown cx2
  have kq7 := cell_regrown cx3
  have kq8 := cell_regrown cy0
  have kq9 := cell_regrown cy1
  have kq10 := cell_regrown cy2
  have kq11 := cell_regrown cy3
  have kv0 := fun (dq : _) (osq : _) => run_strOf (n := u.length) (c := cb4) (reads_n (l := u) (rfl) (TAt.up T4y.out (below_regrown V7 dq osq)))
  have kv1 := fun (dq : _) (osq : _) => run_strOf (n := u.length) (c := cb) (reads_n (l := u) (rfl) (TAt.up Ty.out (below_regrown V7 dq osq)))
  refine wp_region_quiet_below (by kernel_rfl) (by kernel_rfl) ?_
  repeat (go_big_quiet_step (first | fail | exact Calls.regrown_of (lSameN (t.take N4) u N4 u.length (N4 : Int) (u.length : Int) X4 ca4 Y4 cb4 X5 ca5 Y5 cb5 H6.out rfl _ (T4x.out.up (below_regrown _ _ _)) (T4y.out.up (below_regrown _ _ _)) (T5x.out.up (below_regrown _ _ _)) (T5y.out.up (below_regrown _ _ _)))))
  refine wpQuiet_nil ?_
  intro _ hw'
  obtain ⟨⟨dq, osq⟩, hw''⟩ := hw'
  subst hw''
  have hBq := below_regrown V7 dq osq
  clear kq0 kq1 kq2 kq3 kq4 kq5 kq6 kq7 kq8 kq9 kq10 kq11 kv0 kv1
  generalize grow (redrawn V7 dq) osq = V8 at *
  clear cl0 cl1 cl2 cl3 cx0 cx1 cx2 cx3 cy0 cy1 cy2 cy3 H6
  have HBn := Lib.hid (below_up HB.out hBq)
  have Knl := Lib.hid (Kl.out.below hBq Kl.out.lt)
  have Knk := Lib.hid (Kk.out.below hBq Kk.out.lt)
  have Kna := Lib.hid (Ka.out.below hBq Ka.out.lt)
  have Kns := Lib.hid (Ks.out.below hBq Ks.out.lt)
  have Knx := Lib.hid (Kx.out.below hBq Kx.out.lt)
  have Kny := Lib.hid (Ky.out.below hBq Ky.out.lt)
  have Knz := Lib.hid (Kz.out.below hBq Kz.out.lt)
  have Knw := Lib.hid (Kw.out.below hBq Kw.out.lt)
  have Tnx := Lib.hid (Tx.out.up hBq)
  have Tny := Lib.hid (Ty.out.up hBq)
  have Tn3x := Lib.hid (T3x.out.up hBq)
  have Tn3y := Lib.hid (T3y.out.up hBq)
  have Tn4x := Lib.hid (T4x.out.up hBq)
  have Tn4y := Lib.hid (T4y.out.up hBq)
  have Tn5x := Lib.hid (T5x.out.up hBq)
  have Tn5y := Lib.hid (T5y.out.up hBq)
  have Tn6x := Lib.hid (T6x.out.up hBq)
  have Tn6y := Lib.hid (T6y.out.up hBq)
  have Tn7x := Lib.hid (T7x.out.up hBq)
  have Tn7y := Lib.hid (T7y.out.up hBq)
  clear HB Kl Kk Ka Ks Kx Ky Kz Kw Tx Ty T3x T3y T4x T4y T5x T5y T6x T6y T7x T7y
  have HB := Lib.hid HBn.out
  have Kl := Lib.hid Knl.out
  have Kk := Lib.hid Knk.out
  have Ka := Lib.hid Kna.out
  have Ks := Lib.hid Kns.out
  have Kx := Lib.hid Knx.out
  have Ky := Lib.hid Kny.out
  have Kz := Lib.hid Knz.out
  have Kw := Lib.hid Knw.out
  have Tx := Lib.hid Tnx.out
  have Ty := Lib.hid Tny.out
  have T3x := Lib.hid Tn3x.out
  have T3y := Lib.hid Tn3y.out
  have T4x := Lib.hid Tn4x.out
  have T4y := Lib.hid Tn4y.out
  have T5x := Lib.hid Tn5x.out
  have T5y := Lib.hid Tn5y.out
  have T6x := Lib.hid Tn6x.out
  have T6y := Lib.hid Tn6y.out
  have T7x := Lib.hid Tn7x.out
  have T7y := Lib.hid Tn7y.out
  clear HBn Knl Knk Kna Kns Knx Kny Knz Knw Tnx Tny Tn3x Tn3y Tn4x Tn4y Tn5x Tn5y Tn6x Tn6y Tn7x Tn7y
  clear hBq
  go_wp2_with fail
  go_loopw [21, 22] (fun i nv wr => ∃ j : Nat, j ≤ 2 ∧ i = .int .i64 j ∧ Hid (Below V8.heap.size V8 wr))
    (fun i nv _ => 2 - (intOf i).toNat)
  case atStart => exact ⟨0, by omega, rfl, Below.refl _ _⟩
  case round =>
    obtain ⟨j, hj, rfl, hBr⟩ := hrel
    have HBn := Lib.hid (below_up HB.out hBr.out)
    have Knl := Lib.hid (Kl.out.below hBr.out Kl.out.lt)
    have Knk := Lib.hid (Kk.out.below hBr.out Kk.out.lt)
    have Kna := Lib.hid (Ka.out.below hBr.out Ka.out.lt)
    have Kns := Lib.hid (Ks.out.below hBr.out Ks.out.lt)
    have Knx := Lib.hid (Kx.out.below hBr.out Kx.out.lt)
    have Kny := Lib.hid (Ky.out.below hBr.out Ky.out.lt)
    have Knz := Lib.hid (Kz.out.below hBr.out Kz.out.lt)
    have Knw := Lib.hid (Kw.out.below hBr.out Kw.out.lt)
    have Tnx := Lib.hid (Tx.out.up hBr.out)
    have Tny := Lib.hid (Ty.out.up hBr.out)
    have Tn3x := Lib.hid (T3x.out.up hBr.out)
    have Tn3y := Lib.hid (T3y.out.up hBr.out)
    have Tn4x := Lib.hid (T4x.out.up hBr.out)
    have Tn4y := Lib.hid (T4y.out.up hBr.out)
    have Tn5x := Lib.hid (T5x.out.up hBr.out)
    have Tn5y := Lib.hid (T5y.out.up hBr.out)
    have Tn6x := Lib.hid (T6x.out.up hBr.out)
    have Tn6y := Lib.hid (T6y.out.up hBr.out)
    have Tn7x := Lib.hid (T7x.out.up hBr.out)
    have Tn7y := Lib.hid (T7y.out.up hBr.out)
    clear HB Kl Kk Ka Ks Kx Ky Kz Kw Tx Ty T3x T3y T4x T4y T5x T5y T6x T6y T7x T7y
    have HB := Lib.hid HBn.out
    have Kl := Lib.hid Knl.out
    have Kk := Lib.hid Knk.out
    have Ka := Lib.hid Kna.out
    have Ks := Lib.hid Kns.out
    have Kx := Lib.hid Knx.out
    have Ky := Lib.hid Kny.out
    have Kz := Lib.hid Knz.out
    have Kw := Lib.hid Knw.out
    have Tx := Lib.hid Tnx.out
    have Ty := Lib.hid Tny.out
    have T3x := Lib.hid Tn3x.out
    have T3y := Lib.hid Tn3y.out
    have T4x := Lib.hid Tn4x.out
    have T4y := Lib.hid Tn4y.out
    have T5x := Lib.hid Tn5x.out
    have T5y := Lib.hid Tn5y.out
    have T6x := Lib.hid Tn6x.out
    have T6y := Lib.hid Tn6y.out
    have T7x := Lib.hid Tn7x.out
    have T7y := Lib.hid Tn7y.out
    clear HBn Knl Knk Kna Kns Knx Kny Knz Knw Tnx Tny Tn3x Tn3y Tn4x Tn4y Tn5x Tn5y Tn6x Tn6y Tn7x Tn7y
    match j, hj with
    | 0, _ =>
      have cl0 : wr.cell? ⟨w.heap.size, 0, none⟩ = some (.slice X t.length ca) := Kl.out.cell 0
      have cl1 : wr.cell? ⟨w.heap.size, 1, none⟩ = some (.int .i64 (p : Int)) := Kl.out.cell 1
      have cl2 : wr.cell? ⟨w.heap.size, 2, none⟩ = some (.slice Y u.length cb) := Kl.out.cell 2
      have cl3 : wr.cell? ⟨w.heap.size, 3, none⟩ = some (.int .i64 (q : Int)) := Kl.out.cell 3
      have cz0 : wr.cell? ⟨gz, 0, none⟩ = some (.slice X6 N6 ca6) := Kz.out.cell 0
      have cz1 : wr.cell? ⟨gz, 1, none⟩ = some (.int .i64 (N6 : Int)) := Kz.out.cell 1
      have cz2 : wr.cell? ⟨gz, 2, none⟩ = some (.slice Y6 M6 cb6) := Kz.out.cell 2
      have cz3 : wr.cell? ⟨gz, 3, none⟩ = some (.int .i64 (M6 : Int)) := Kz.out.cell 3
      have cw0 : wr.cell? ⟨gw, 0, none⟩ = some (.slice X7 N7 ca7) := Kw.out.cell 0
      have cw1 : wr.cell? ⟨gw, 1, none⟩ = some (.int .i64 (N7 : Int)) := Kw.out.cell 1
      have cw2 : wr.cell? ⟨gw, 2, none⟩ = some (.slice Y7 M7 cb7) := Kw.out.cell 2
      have cw3 : wr.cell? ⟨gw, 3, none⟩ = some (.int .i64 (M7 : Int)) := Kw.out.cell 3
      have d1 : decide ((N6 : Int) < (p : Int)) = false := decide_eq_false (by have := HC7.out.1; omega)
      have d2 : decide ((N7 : Int) < (N6 : Int)) = false := decide_eq_false (by have := HC7.out.1; omega)
      have D1 := Lib.hid (And.intro d1 d2)
      clear d1 d2
      have i3 : (N6 : Int) ≤ (ca7 : Int) := by have := HC7.out; omega
      have hl := HLT t N6 N7 (by have := HC7.out; omega) (by have := HC7.out; omega)
      have HTw := Lib.hid (show TAt wr X7 (t.take N6) from by have h := TAt.take T7x.out N6; rw [List.take_take, Nat.min_eq_left (by have := HC7.out; omega)] at h; exact h)
      go_wp2_with fail
      have d1 := D1.out.1
      have d2 := D1.out.2
      have e1 : decide (N6 < p) = false := decide_eq_false (by have := HC7.out.1; omega)
      have e2 : decide (N7 < N6) = false := decide_eq_false (by have := HC7.out.1; omega)
      have kq0 := cell_regrown cl0
      have kq1 := cell_regrown cl1
      have kq2 := cell_regrown cl2
      have kq3 := cell_regrown cl3
      have kq4 := cell_regrown cz0
      have kq5 := cell_regrown cz1
      have kq6 := cell_regrown cz2
      have kq7 := cell_regrown cz3
      have kq8 := cell_regrown cw0
      have kq9 := cell_regrown cw1
      have kq10 := cell_regrown cw2
      have kq11 := cell_regrown cw3
      have kv0 := fun (dq : _) (osq : _) => run_strOf (n := N6) (c := ca7) (reads_n (l := t.take N6) (hl.out) (TAt.up HTw.out (below_regrown wr dq osq)))
      have kv1 := fun (dq : _) (osq : _) => run_strOf (n := N6) (c := ca6) (reads_n (l := t.take N6) (hl.out) (TAt.up T6x.out (below_regrown wr dq osq)))
      refine wp_region_quiet_below (by kernel_rfl) (by kernel_rfl) ?_
      repeat (go_big_quiet_step (first | fail))
      refine wpQuiet_nil ?_
      intro _ hw'
      obtain ⟨⟨dq, osq⟩, hw''⟩ := hw'
      subst hw''
      have hBq := below_regrown wr dq osq
      clear kq0 kq1 kq2 kq3 kq4 kq5 kq6 kq7 kq8 kq9 kq10 kq11 kv0 kv1
      generalize grow (redrawn wr dq) osq = wq at *
      clear d1 d2 e1 e2 i3 hl cl0 cl1 cl2 cl3 cz0 cz1 cz2 cz3 cw0 cw1 cw2 cw3
      go_wp2_with fail
      go_roundw
      case rel => exact ⟨1, by omega, by go_num, below_up hBr.out hBq⟩
      case measure => simp [intOf]
    | 1, _ =>
      have cl0 : wr.cell? ⟨w.heap.size, 0, none⟩ = some (.slice X t.length ca) := Kl.out.cell 0
      have cl1 : wr.cell? ⟨w.heap.size, 1, none⟩ = some (.int .i64 (p : Int)) := Kl.out.cell 1
      have cl2 : wr.cell? ⟨w.heap.size, 2, none⟩ = some (.slice Y u.length cb) := Kl.out.cell 2
      have cl3 : wr.cell? ⟨w.heap.size, 3, none⟩ = some (.int .i64 (q : Int)) := Kl.out.cell 3
      have cz0 : wr.cell? ⟨gz, 0, none⟩ = some (.slice X6 N6 ca6) := Kz.out.cell 0
      have cz1 : wr.cell? ⟨gz, 1, none⟩ = some (.int .i64 (N6 : Int)) := Kz.out.cell 1
      have cz2 : wr.cell? ⟨gz, 2, none⟩ = some (.slice Y6 M6 cb6) := Kz.out.cell 2
      have cz3 : wr.cell? ⟨gz, 3, none⟩ = some (.int .i64 (M6 : Int)) := Kz.out.cell 3
      have cw0 : wr.cell? ⟨gw, 0, none⟩ = some (.slice X7 N7 ca7) := Kw.out.cell 0
      have cw1 : wr.cell? ⟨gw, 1, none⟩ = some (.int .i64 (N7 : Int)) := Kw.out.cell 1
      have cw2 : wr.cell? ⟨gw, 2, none⟩ = some (.slice Y7 M7 cb7) := Kw.out.cell 2
      have cw3 : wr.cell? ⟨gw, 3, none⟩ = some (.int .i64 (M7 : Int)) := Kw.out.cell 3
      have d1 : decide ((M6 : Int) < (q : Int)) = false := decide_eq_false (by have := HC7.out.2.1; omega)
      have d2 : decide ((M7 : Int) < (M6 : Int)) = false := decide_eq_false (by have := HC7.out.2.1; omega)
      have D1 := Lib.hid (And.intro d1 d2)
      clear d1 d2
      have i3 : (M6 : Int) ≤ (cb7 : Int) := by have := HC7.out; omega
      have hl := HLT u M6 M7 (by have := HC7.out; omega) (by have := HC7.out; omega)
      have HTw := Lib.hid (show TAt wr Y7 (u.take M6) from by have h := TAt.take T7y.out M6; rw [List.take_take, Nat.min_eq_left (by have := HC7.out; omega)] at h; exact h)
      go_wp2_with fail
      have d1 := D1.out.1
      have d2 := D1.out.2
      have e1 : decide (M6 < q) = false := decide_eq_false (by have := HC7.out.2.1; omega)
      have e2 : decide (M7 < M6) = false := decide_eq_false (by have := HC7.out.2.1; omega)
      have kq0 := cell_regrown cl0
      have kq1 := cell_regrown cl1
      have kq2 := cell_regrown cl2
      have kq3 := cell_regrown cl3
      have kq4 := cell_regrown cz0
      have kq5 := cell_regrown cz1
      have kq6 := cell_regrown cz2
      have kq7 := cell_regrown cz3
      have kq8 := cell_regrown cw0
      have kq9 := cell_regrown cw1
      have kq10 := cell_regrown cw2
      have kq11 := cell_regrown cw3
      have kv0 := fun (dq : _) (osq : _) => run_strOf (n := M6) (c := cb7) (reads_n (l := u.take M6) (hl.out) (TAt.up HTw.out (below_regrown wr dq osq)))
      have kv1 := fun (dq : _) (osq : _) => run_strOf (n := M6) (c := cb6) (reads_n (l := u.take M6) (hl.out) (TAt.up T6y.out (below_regrown wr dq osq)))
      refine wp_region_quiet_below (by kernel_rfl) (by kernel_rfl) ?_
      repeat (go_big_quiet_step (first | fail))
      refine wpQuiet_nil ?_
      intro _ hw'
      obtain ⟨⟨dq, osq⟩, hw''⟩ := hw'
      subst hw''
      have hBq := below_regrown wr dq osq
      clear kq0 kq1 kq2 kq3 kq4 kq5 kq6 kq7 kq8 kq9 kq10 kq11 kv0 kv1
      generalize grow (redrawn wr dq) osq = wq at *
      clear d1 d2 e1 e2 i3 hl cl0 cl1 cl2 cl3 cz0 cz1 cz2 cz3 cw0 cw1 cw2 cw3
      go_wp2_with fail
      go_roundw
      case rel => exact ⟨2, by omega, by go_num, below_up hBr.out hBq⟩
      case measure => simp [intOf]
    | 2, _ =>
      go_wp2_with fail
      go_ret
      exact ⟨rfl, HB.out⟩
    | j + 3, h => omega
end Go.Proofs.Ytfdldbfjeamlcaa.LogLastsW
