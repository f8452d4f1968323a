/- The reference: Do. -/
import Derived.BigQuiet
import Derived.Deep.QuietTactic
import Derived.Deep.DeepCutAuto
import Derived.Lib.SliceRun
import Derived.Lib.QuietBelow
import Derived.IntWalk
import Derived.Test.YtfdldbfjeamlcaaLogDone
import Derived.Test.YtfdldbfjeamlcaaLogDoneA
import Derived.Test.YtfdldbfjeamlcaaLogDoneB
namespace Go.Proofs.Ytfdldbfjeamlcaa.LogRDo
open Go.RowKit Mem LogMath LogProg LogRef1 LogRef2 LogDone LogDoneA LogDoneB
open Go.Sort (grow)
set_option linter.unusedVariables false
set_option linter.unusedSimpArgs false

theorem doE_bad {l : LV} {kd ar : Int} {tx : List Int} (h : mayL l = false) : doE l kd ar tx = 8 ∧ doL l kd ar tx = LV.z := by
  have e : doE l kd ar tx = 8 := by unfold doE; rw [h]; rfl
  exact ⟨e, by unfold doL; rw [e]; rfl⟩
theorem doE_arg {l : LV} {kd ar : Int} {tx : List Int} (h : mayL l = true) (h2 : mayAct kd ar tx = false) : doE l kd ar tx = 2 ∧ doL l kd ar tx = LV.z := by
  have e : doE l kd ar tx = 2 := by unfold doE; rw [h, h2]; rfl
  exact ⟨e, by unfold doL; rw [e]; rfl⟩
theorem doE_full {l : LV} {kd ar : Int} {tx : List Int} (h : mayL l = true) (h2 : mayAct kd ar tx = true) (h3 : (262144 : Int) < ((l.of (decide (ar = 1))).t.length : Int) + (tx.length : Int)) : doE l kd ar tx = 9 ∧ doL l kd ar tx = LV.z := by
  have e : doE l kd ar tx = 9 := by unfold doE; rw [h, h2, if_pos rfl, if_pos rfl, if_neg (by omega)]
  exact ⟨e, by unfold doL; rw [e]; rfl⟩
theorem doE_ok {l : LV} {kd ar : Int} {tx : List Int} (h : mayL l = true) (h2 : mayAct kd ar tx = true) (h3 : ((l.of (decide (ar = 1))).t.length : Int) + (tx.length : Int) ≤ 262144) :
    doE l kd ar tx = 0 ∧ doL l kd ar tx = l.put (decide (ar = 1)) (doneA (l.of (decide (ar = 1))) kd tx) := by
  have e : doE l kd ar tx = 0 := by unfold doE; rw [h, h2, if_pos rfl, if_pos rfl, if_pos h3]
  exact ⟨e, by unfold doL; rw [if_pos e]⟩
theorem mayL_len {x y : AV} (h : mayL ⟨x, y⟩ = true) : x.t.length ≤ 262144 ∧ y.t.length ≤ 262144 ∧ 0 ≤ x.k ∧ x.k ≤ (x.t.length : Int) ∧ 0 ≤ y.k ∧ y.k ≤ (y.t.length : Int) := by
  simp [mayL, mayA] at h
  omega
theorem mayAct_cases {kd ar : Int} {tx : List Int} (h : mayAct kd ar tx = true) : (ar = 0 ∨ ar = 1) ∧ (kd = 2 ∨ (kd = 1 ∧ tx.length = 0) ∨ (kd = 3 ∧ tx.length = 0)) := by
  simp only [mayAct, Bool.and_eq_true, Bool.or_eq_true, decide_eq_true_eq] at h
  rcases h with ⟨h1, h2 | ⟨h2 | h2, h3⟩⟩
  · exact ⟨h1, .inl h2⟩
  · exact ⟨h1, .inr (.inl ⟨h2, h3⟩)⟩
  · exact ⟨h1, .inr (.inr ⟨h2, h3⟩)⟩
set_option maxRecDepth 100000 in
set_option maxHeartbeats 4000000 in
theorem rDoBad (x y : AV) (X : Option Addr) (ca : Nat) (Y : Option Addr) (cb : Nat) (kd ar : Int) (T : Option Addr) (ct : Nat) (tx : List Int) (h : mayL ⟨x, y⟩ = false) (w : World) :
    Calls Try.prog 29 #[.agg #[.slice X x.t.length ca, .int .i64 x.k, .slice Y y.t.length cb, .int .i64 y.k], .agg #[.int .u8 kd, .int .i64 ar, .slice T tx.length ct]] w fun e w' => ∃ v, e = .returned (.tuple #[v, .int .i64 (doE ⟨x, y⟩ kd ar tx)]) ∧ RetL w' w.heap.size (doL ⟨x, y⟩ kd ar tx) v ∧ Below w.heap.size w w' := by
  obtain ⟨E1, E2⟩ := doE_bad (kd := kd) (ar := ar) (tx := tx) h
  rw [E1, E2]
  clear E1 E2
  go_enter Try.func29, Try.ntmps29
  go_wp2_with fail
  refine (rMay x y X ca Y cb _).mono ?_
  rintro e w1 ⟨rfl, hB1⟩
  rw [h]
  have hL := ((Blk.new w 70 #[.slice X x.t.length ca, .int .i64 x.k, .slice Y y.t.length cb, .int .i64 y.k]).alloc (.cells #[.int .u8 kd, .int .i64 ar, .slice T tx.length ct] 72)).alloc (.cells #[.slice none 0 0, .int .i64 0, .slice none 0 0, .int .i64 0] 70) |>.below hB1 (by simp; omega)
  have hA := (blk1 w 72 #[.int .u8 kd, .int .i64 ar, .slice T tx.length ct] (o := .cells #[.slice X x.t.length ca, .int .i64 x.k, .slice Y y.t.length cb, .int .i64 y.k] 70)).alloc (.cells #[.slice none 0 0, .int .i64 0, .slice none 0 0, .int .i64 0] 70) |>.below hB1 (by simp)
  have hZ := (blk2 w 70 #[.slice none 0 0, .int .i64 0, .slice none 0 0, .int .i64 0] (o := .cells #[.slice X x.t.length ca, .int .i64 x.k, .slice Y y.t.length cb, .int .i64 y.k] 70) (o' := .cells #[.int .u8 kd, .int .i64 ar, .slice T tx.length ct] 72)).below hB1 (by simp)
  have hB := below_up (below_alloc (below_alloc (below_alloc (Below.refl _ _)))) hB1
  clear hB1
  have z0 : w1.cell? ⟨w.heap.size + 1 + 1, 0, none⟩ = some (.slice none 0 0) := hZ.cell 0
  have z1 : w1.cell? ⟨w.heap.size + 1 + 1, 1, none⟩ = some (.int .i64 0) := hZ.cell 1
  have z2 : w1.cell? ⟨w.heap.size + 1 + 1, 2, none⟩ = some (.slice none 0 0) := hZ.cell 2
  have z3 : w1.cell? ⟨w.heap.size + 1 + 1, 3, none⟩ = some (.int .i64 0) := hZ.cell 3
  have zf0 := hZ.frozen 0
  have zf1 := hZ.frozen 1
  have zf2 := hZ.frozen 2
  have zf3 := hZ.frozen 3
  have HH := Lib.hid (And.intro hZ hB)
  clear hL hA hZ hB
  go_wp2_with fail
  have hK4 := W4.blk HH.out.1 (.slice none 0 0) (.int .i64 0) (.slice none 0 0) (.int .i64 0)
  have hB4 := W4.below (g := w.heap.size + 1 + 1) HH.out.2 (by omega) (.slice none 0 0) (.int .i64 0) (.slice none 0 0) (.int .i64 0)
  rw [show ((((w1.setCell ⟨w.heap.size + 1 + 1, 0, none⟩ (.slice none 0 0)).setCell ⟨w.heap.size + 1 + 1, 1, none⟩ (.int .i64 0)).setCell ⟨w.heap.size + 1 + 1, 2, none⟩ (.slice none 0 0)).setCell ⟨w.heap.size + 1 + 1, 3, none⟩ (.int .i64 0)) = W4 w1 (w.heap.size + 1 + 1) (.slice none 0 0) (.int .i64 0) (.slice none 0 0) (.int .i64 0) from rfl]
  generalize W4 w1 (w.heap.size + 1 + 1) (.slice none 0 0) (.int .i64 0) (.slice none 0 0) (.int .i64 0) = w99 at *
  clear z0 z1 z2 z3 zf0 zf1 zf2 zf3
  have c0 := hK4.cell 0
  have c1 := hK4.cell 1
  have c2 := hK4.cell 2
  have c3 := hK4.cell 3
  simp only [List.getElem?_toArray, List.getElem?_cons_zero, List.getElem?_cons_succ] at c0 c1 c2 c3
  exact bodyPost_ret (v := .tuple #[.agg #[.slice none 0 0, .int .i64 0, .slice none 0 0, .int .i64 0], .int .i64 8]) (by simp [results, Try.results29, go_sem, c0, c1, c2, c3]) rfl ⟨_, rfl, RetL.zero, hB4⟩
set_option maxRecDepth 100000 in
set_option maxHeartbeats 4000000 in
theorem rDoArg (x y : AV) (X : Option Addr) (ca : Nat) (Y : Option Addr) (cb : Nat) (kd ar : Int) (T : Option Addr) (ct : Nat) (tx : List Int) (h : mayL ⟨x, y⟩ = true) (h2 : mayAct kd ar tx = false) (w : World) :
    Calls Try.prog 29 #[.agg #[.slice X x.t.length ca, .int .i64 x.k, .slice Y y.t.length cb, .int .i64 y.k], .agg #[.int .u8 kd, .int .i64 ar, .slice T tx.length ct]] w fun e w' => ∃ v, e = .returned (.tuple #[v, .int .i64 (doE ⟨x, y⟩ kd ar tx)]) ∧ RetL w' w.heap.size (doL ⟨x, y⟩ kd ar tx) v ∧ Below w.heap.size w w' := by
  obtain ⟨E1, E2⟩ := doE_arg h h2
  rw [E1, E2]
  clear E1 E2
  go_enter Try.func29, Try.ntmps29
  go_wp2_with fail
  refine (rMay x y X ca Y cb _).mono ?_
  rintro e w1 ⟨rfl, hB1⟩
  rw [h]
  have hL := ((Blk.new w 70 #[.slice X x.t.length ca, .int .i64 x.k, .slice Y y.t.length cb, .int .i64 y.k]).alloc (.cells #[.int .u8 kd, .int .i64 ar, .slice T tx.length ct] 72)).alloc (.cells #[.slice none 0 0, .int .i64 0, .slice none 0 0, .int .i64 0] 70) |>.below hB1 (by simp; omega)
  have hA := (blk1 w 72 #[.int .u8 kd, .int .i64 ar, .slice T tx.length ct] (o := .cells #[.slice X x.t.length ca, .int .i64 x.k, .slice Y y.t.length cb, .int .i64 y.k] 70)).alloc (.cells #[.slice none 0 0, .int .i64 0, .slice none 0 0, .int .i64 0] 70) |>.below hB1 (by simp)
  have hZ := (blk2 w 70 #[.slice none 0 0, .int .i64 0, .slice none 0 0, .int .i64 0] (o := .cells #[.slice X x.t.length ca, .int .i64 x.k, .slice Y y.t.length cb, .int .i64 y.k] 70) (o' := .cells #[.int .u8 kd, .int .i64 ar, .slice T tx.length ct] 72)).below hB1 (by simp)
  have hB := below_up (below_alloc (below_alloc (below_alloc (Below.refl _ _)))) hB1
  clear hB1
  have p0 : w1.cell? ⟨w.heap.size, 0, none⟩ = some (.slice X x.t.length ca) := hL.cell 0
  have p1 : w1.cell? ⟨w.heap.size, 1, none⟩ = some (.int .i64 x.k) := hL.cell 1
  have p2 : w1.cell? ⟨w.heap.size, 2, none⟩ = some (.slice Y y.t.length cb) := hL.cell 2
  have p3 : w1.cell? ⟨w.heap.size, 3, none⟩ = some (.int .i64 y.k) := hL.cell 3
  have q0 : w1.cell? ⟨w.heap.size + 1, 0, none⟩ = some (.int .u8 kd) := hA.cell 0
  have q1 : w1.cell? ⟨w.heap.size + 1, 1, none⟩ = some (.int .i64 ar) := hA.cell 1
  have q2 : w1.cell? ⟨w.heap.size + 1, 2, none⟩ = some (.slice T tx.length ct) := hA.cell 2
  have H1 := Lib.hid (And.intro hL (And.intro hA (And.intro hZ hB)))
  clear hL hA hZ hB
  go_wp2_with fail
  refine (rMayAct kd ar T ct tx _).mono ?_
  rintro e w2 ⟨rfl, hB2⟩
  rw [h2]
  have hL := H1.out.1.below hB2 H1.out.1.lt
  have hA := H1.out.2.1.below hB2 H1.out.2.1.lt
  have hZ := H1.out.2.2.1.below hB2 H1.out.2.2.1.lt
  have hB := below_up H1.out.2.2.2 hB2
  clear hB2 H1 p0 p1 p2 p3 q0 q1 q2
  have z0 : w2.cell? ⟨w.heap.size + 1 + 1, 0, none⟩ = some (.slice none 0 0) := hZ.cell 0
  have z1 : w2.cell? ⟨w.heap.size + 1 + 1, 1, none⟩ = some (.int .i64 0) := hZ.cell 1
  have z2 : w2.cell? ⟨w.heap.size + 1 + 1, 2, none⟩ = some (.slice none 0 0) := hZ.cell 2
  have z3 : w2.cell? ⟨w.heap.size + 1 + 1, 3, none⟩ = some (.int .i64 0) := hZ.cell 3
  have zf0 := hZ.frozen 0
  have zf1 := hZ.frozen 1
  have zf2 := hZ.frozen 2
  have zf3 := hZ.frozen 3
  have HH := Lib.hid (And.intro hZ hB)
  clear hL hA hZ hB
  go_wp2_with fail
  have hK4 := W4.blk HH.out.1 (.slice none 0 0) (.int .i64 0) (.slice none 0 0) (.int .i64 0)
  have hB4 := W4.below (g := w.heap.size + 1 + 1) HH.out.2 (by omega) (.slice none 0 0) (.int .i64 0) (.slice none 0 0) (.int .i64 0)
  rw [show ((((w2.setCell ⟨w.heap.size + 1 + 1, 0, none⟩ (.slice none 0 0)).setCell ⟨w.heap.size + 1 + 1, 1, none⟩ (.int .i64 0)).setCell ⟨w.heap.size + 1 + 1, 2, none⟩ (.slice none 0 0)).setCell ⟨w.heap.size + 1 + 1, 3, none⟩ (.int .i64 0)) = W4 w2 (w.heap.size + 1 + 1) (.slice none 0 0) (.int .i64 0) (.slice none 0 0) (.int .i64 0) from rfl]
  generalize W4 w2 (w.heap.size + 1 + 1) (.slice none 0 0) (.int .i64 0) (.slice none 0 0) (.int .i64 0) = w99 at *
  clear z0 z1 z2 z3 zf0 zf1 zf2 zf3
  have c0 := hK4.cell 0
  have c1 := hK4.cell 1
  have c2 := hK4.cell 2
  have c3 := hK4.cell 3
  simp only [List.getElem?_toArray, List.getElem?_cons_zero, List.getElem?_cons_succ] at c0 c1 c2 c3
  exact bodyPost_ret (v := .tuple #[.agg #[.slice none 0 0, .int .i64 0, .slice none 0 0, .int .i64 0], .int .i64 2]) (by simp [results, Try.results29, go_sem, c0, c1, c2, c3]) rfl ⟨_, rfl, RetL.zero, hB4⟩
set_option maxRecDepth 100000 in
set_option maxHeartbeats 4000000 in
theorem rDoFull0 (x y : AV) (X : Option Addr) (ca : Nat) (Y : Option Addr) (cb : Nat) (kd : Int) (T : Option Addr) (ct : Nat) (tx : List Int) (h : mayL ⟨x, y⟩ = true) (h2 : mayAct kd 0 tx = true) (h3 : (262144 : Int) < (x.t.length : Int) + (tx.length : Int)) (hl : x.t.length ≤ 300000) (htx : tx.length ≤ 300000) (w : World) :
    Calls Try.prog 29 #[.agg #[.slice X x.t.length ca, .int .i64 x.k, .slice Y y.t.length cb, .int .i64 y.k], .agg #[.int .u8 kd, .int .i64 0, .slice T tx.length ct]] w fun e w' => ∃ v, e = .returned (.tuple #[v, .int .i64 (doE ⟨x, y⟩ kd 0 tx)]) ∧ RetL w' w.heap.size (doL ⟨x, y⟩ kd 0 tx) v ∧ Below w.heap.size w w' := by
  obtain ⟨E1, E2⟩ := doE_full h h2 (by simpa [LV.of] using h3)
  rw [E1, E2]
  clear E1 E2
  have f1 : IntKind.i64.wrap ((x.t.length : Int) + (tx.length : Int)) = (x.t.length : Int) + (tx.length : Int) := IntWalk.i64_in _ (by omega)
  go_enter Try.func29, Try.ntmps29
  go_wp2_with fail
  refine (rMay x y X ca Y cb _).mono ?_
  rintro e w1 ⟨rfl, hB1⟩
  rw [h]
  have hL := ((Blk.new w 70 #[.slice X x.t.length ca, .int .i64 x.k, .slice Y y.t.length cb, .int .i64 y.k]).alloc (.cells #[.int .u8 kd, .int .i64 0, .slice T tx.length ct] 72)).alloc (.cells #[.slice none 0 0, .int .i64 0, .slice none 0 0, .int .i64 0] 70) |>.below hB1 (by simp; omega)
  have hA := (blk1 w 72 #[.int .u8 kd, .int .i64 0, .slice T tx.length ct] (o := .cells #[.slice X x.t.length ca, .int .i64 x.k, .slice Y y.t.length cb, .int .i64 y.k] 70)).alloc (.cells #[.slice none 0 0, .int .i64 0, .slice none 0 0, .int .i64 0] 70) |>.below hB1 (by simp)
  have hZ := (blk2 w 70 #[.slice none 0 0, .int .i64 0, .slice none 0 0, .int .i64 0] (o := .cells #[.slice X x.t.length ca, .int .i64 x.k, .slice Y y.t.length cb, .int .i64 y.k] 70) (o' := .cells #[.int .u8 kd, .int .i64 0, .slice T tx.length ct] 72)).below hB1 (by simp)
  have hB := below_up (below_alloc (below_alloc (below_alloc (Below.refl _ _)))) hB1
  clear hB1
  have p0 : w1.cell? ⟨w.heap.size, 0, none⟩ = some (.slice X x.t.length ca) := hL.cell 0
  have p1 : w1.cell? ⟨w.heap.size, 1, none⟩ = some (.int .i64 x.k) := hL.cell 1
  have p2 : w1.cell? ⟨w.heap.size, 2, none⟩ = some (.slice Y y.t.length cb) := hL.cell 2
  have p3 : w1.cell? ⟨w.heap.size, 3, none⟩ = some (.int .i64 y.k) := hL.cell 3
  have q0 : w1.cell? ⟨w.heap.size + 1, 0, none⟩ = some (.int .u8 kd) := hA.cell 0
  have q1 : w1.cell? ⟨w.heap.size + 1, 1, none⟩ = some (.int .i64 0) := hA.cell 1
  have q2 : w1.cell? ⟨w.heap.size + 1, 2, none⟩ = some (.slice T tx.length ct) := hA.cell 2
  have H1 := Lib.hid (And.intro hL (And.intro hA (And.intro hZ hB)))
  clear hL hA hZ hB
  go_wp2_with fail
  refine (rMayAct kd 0 T ct tx _).mono ?_
  rintro e w2 ⟨rfl, hB2⟩
  rw [h2]
  have hL := H1.out.1.below hB2 H1.out.1.lt
  have hA := H1.out.2.1.below hB2 H1.out.2.1.lt
  have hZ := H1.out.2.2.1.below hB2 H1.out.2.2.1.lt
  have hB := below_up H1.out.2.2.2 hB2
  clear hB2 H1 p0 p1 p2 p3 q0 q1 q2
  have p : w2.cell? ⟨w.heap.size, 0, none⟩ = some (.slice X x.t.length ca) := hL.cell 0
  have q1 : w2.cell? ⟨w.heap.size + 1, 1, none⟩ = some (.int .i64 0) := hA.cell 1
  have q2 : w2.cell? ⟨w.heap.size + 1, 2, none⟩ = some (.slice T tx.length ct) := hA.cell 2
  go_wp2_with fail
  have kq0 := cell_regrown p
  have kq1 := cell_regrown q1
  have kq2 := cell_regrown q2
  refine wp_region_quiet_below (by kernel_rfl) (by kernel_rfl) ?_
  repeat (go_big_quiet_step (first | fail))
  refine wpQuiet_nil ?_
  intro _ hw'
  obtain ⟨⟨dq, osq⟩, hw''⟩ := hw'
  subst hw''
  have hBq := below_regrown w2 dq osq
  clear kq0 kq1 kq2
  generalize grow (redrawn w2 dq) osq = w3 at *
  have hL3 := hL.below hBq hL.lt
  have hA3 := hA.below hBq hA.lt
  have hZ3 := hZ.below hBq hZ.lt
  have hB3 := below_up hB hBq
  clear hBq hL hA hZ hB p q1 q2
  have z0 : w3.cell? ⟨w.heap.size + 1 + 1, 0, none⟩ = some (.slice none 0 0) := hZ3.cell 0
  have z1 : w3.cell? ⟨w.heap.size + 1 + 1, 1, none⟩ = some (.int .i64 0) := hZ3.cell 1
  have z2 : w3.cell? ⟨w.heap.size + 1 + 1, 2, none⟩ = some (.slice none 0 0) := hZ3.cell 2
  have z3 : w3.cell? ⟨w.heap.size + 1 + 1, 3, none⟩ = some (.int .i64 0) := hZ3.cell 3
  have zf0 := hZ3.frozen 0
  have zf1 := hZ3.frozen 1
  have zf2 := hZ3.frozen 2
  have zf3 := hZ3.frozen 3
  have HH := Lib.hid (And.intro hZ3 hB3)
  clear hL3 hA3 hZ3 hB3
  go_wp2_with fail
  have hK4 := W4.blk HH.out.1 (.slice none 0 0) (.int .i64 0) (.slice none 0 0) (.int .i64 0)
  have hB4 := W4.below (g := w.heap.size + 1 + 1) HH.out.2 (by omega) (.slice none 0 0) (.int .i64 0) (.slice none 0 0) (.int .i64 0)
  rw [show ((((w3.setCell ⟨w.heap.size + 1 + 1, 0, none⟩ (.slice none 0 0)).setCell ⟨w.heap.size + 1 + 1, 1, none⟩ (.int .i64 0)).setCell ⟨w.heap.size + 1 + 1, 2, none⟩ (.slice none 0 0)).setCell ⟨w.heap.size + 1 + 1, 3, none⟩ (.int .i64 0)) = W4 w3 (w.heap.size + 1 + 1) (.slice none 0 0) (.int .i64 0) (.slice none 0 0) (.int .i64 0) from rfl]
  generalize W4 w3 (w.heap.size + 1 + 1) (.slice none 0 0) (.int .i64 0) (.slice none 0 0) (.int .i64 0) = w99 at *
  clear z0 z1 z2 z3 zf0 zf1 zf2 zf3
  have c0 := hK4.cell 0
  have c1 := hK4.cell 1
  have c2 := hK4.cell 2
  have c3 := hK4.cell 3
  simp only [List.getElem?_toArray, List.getElem?_cons_zero, List.getElem?_cons_succ] at c0 c1 c2 c3
  exact bodyPost_ret (v := .tuple #[.agg #[.slice none 0 0, .int .i64 0, .slice none 0 0, .int .i64 0], .int .i64 9]) (by simp [results, Try.results29, go_sem, c0, c1, c2, c3]) rfl ⟨_, rfl, RetL.zero, hB4⟩
set_option maxRecDepth 100000 in
set_option maxHeartbeats 4000000 in
theorem rDoOk10 (x y : AV) (X : Option Addr) (ca : Nat) (Y : Option Addr) (cb : Nat) (T : Option Addr) (ct : Nat) (tx : List Int) (h : mayL ⟨x, y⟩ = true) (h2 : mayAct 1 0 tx = true) (h3 : (x.t.length : Int) + (tx.length : Int) ≤ 262144) (w : World) (hX : TAt w X x.t) (hY : TAt w Y y.t) :
    Calls Try.prog 29 #[.agg #[.slice X x.t.length ca, .int .i64 x.k, .slice Y y.t.length cb, .int .i64 y.k], .agg #[.int .u8 1, .int .i64 0, .slice T tx.length ct]] w fun e w' => ∃ v, e = .returned (.tuple #[v, .int .i64 (doE ⟨x, y⟩ 1 0 tx)]) ∧ RetL w' w.heap.size (doL ⟨x, y⟩ 1 0 tx) v ∧ Below w.heap.size w w' := by
  obtain ⟨E1, E2⟩ := doE_ok h h2 (by simpa [LV.of] using h3)
  obtain ⟨l1, l2, _, _, _, _⟩ := mayL_len h
  rw [E1, E2]
  clear E1 E2
  show Calls Try.prog 29 #[.agg #[.slice X x.t.length ca, .int .i64 x.k, .slice Y y.t.length cb, .int .i64 y.k], .agg #[.int .u8 1, .int .i64 0, .slice T tx.length ct]] w fun e w' => ∃ v, e = .returned (.tuple #[v, .int .i64 0]) ∧ RetL w' w.heap.size ⟨AV.z, y⟩ v ∧ Below w.heap.size w w'
  have HX := Lib.hid (And.intro hX hY)
  clear hX hY
  have f1 : IntKind.i64.wrap ((x.t.length : Int) + (tx.length : Int)) = (x.t.length : Int) + (tx.length : Int) := IntWalk.i64_in _ (by omega)
  go_enter Try.func29, Try.ntmps29
  go_wp2_with fail
  refine (rMay x y X ca Y cb _).mono ?_
  rintro e w1 ⟨rfl, hB1⟩
  rw [h]
  have hL := ((Blk.new w 70 #[.slice X x.t.length ca, .int .i64 x.k, .slice Y y.t.length cb, .int .i64 y.k]).alloc (.cells #[.int .u8 1, .int .i64 0, .slice T tx.length ct] 72)).alloc (.cells #[.slice none 0 0, .int .i64 0, .slice none 0 0, .int .i64 0] 70) |>.below hB1 (by simp; omega)
  have hA := (blk1 w 72 #[.int .u8 1, .int .i64 0, .slice T tx.length ct] (o := .cells #[.slice X x.t.length ca, .int .i64 x.k, .slice Y y.t.length cb, .int .i64 y.k] 70)).alloc (.cells #[.slice none 0 0, .int .i64 0, .slice none 0 0, .int .i64 0] 70) |>.below hB1 (by simp)
  have hZ := (blk2 w 70 #[.slice none 0 0, .int .i64 0, .slice none 0 0, .int .i64 0] (o := .cells #[.slice X x.t.length ca, .int .i64 x.k, .slice Y y.t.length cb, .int .i64 y.k] 70) (o' := .cells #[.int .u8 1, .int .i64 0, .slice T tx.length ct] 72)).below hB1 (by simp)
  have hB := below_up (below_alloc (below_alloc (below_alloc (Below.refl _ _)))) hB1
  clear hB1
  have p0 : w1.cell? ⟨w.heap.size, 0, none⟩ = some (.slice X x.t.length ca) := hL.cell 0
  have p1 : w1.cell? ⟨w.heap.size, 1, none⟩ = some (.int .i64 x.k) := hL.cell 1
  have p2 : w1.cell? ⟨w.heap.size, 2, none⟩ = some (.slice Y y.t.length cb) := hL.cell 2
  have p3 : w1.cell? ⟨w.heap.size, 3, none⟩ = some (.int .i64 y.k) := hL.cell 3
  have q0 : w1.cell? ⟨w.heap.size + 1, 0, none⟩ = some (.int .u8 1) := hA.cell 0
  have q1 : w1.cell? ⟨w.heap.size + 1, 1, none⟩ = some (.int .i64 0) := hA.cell 1
  have q2 : w1.cell? ⟨w.heap.size + 1, 2, none⟩ = some (.slice T tx.length ct) := hA.cell 2
  have H1 := Lib.hid (And.intro hL (And.intro hA (And.intro hZ hB)))
  clear hL hA hZ hB
  go_wp2_with fail
  refine (rMayAct 1 0 T ct tx _).mono ?_
  rintro e w2 ⟨rfl, hB2⟩
  rw [h2]
  have hL := H1.out.1.below hB2 H1.out.1.lt
  have hA := H1.out.2.1.below hB2 H1.out.2.1.lt
  have hZ := H1.out.2.2.1.below hB2 H1.out.2.2.1.lt
  have hB := below_up H1.out.2.2.2 hB2
  clear hB2 H1 p0 p1 p2 p3 q0 q1 q2
  have p : w2.cell? ⟨w.heap.size, 0, none⟩ = some (.slice X x.t.length ca) := hL.cell 0
  have q1 : w2.cell? ⟨w.heap.size + 1, 1, none⟩ = some (.int .i64 0) := hA.cell 1
  have q2 : w2.cell? ⟨w.heap.size + 1, 2, none⟩ = some (.slice T tx.length ct) := hA.cell 2
  go_wp2_with fail
  have kq0 := cell_regrown p
  have kq1 := cell_regrown q1
  have kq2 := cell_regrown q2
  refine wp_region_quiet_below (by kernel_rfl) (by kernel_rfl) ?_
  repeat (go_big_quiet_step (first | fail))
  refine wpQuiet_nil ?_
  intro _ hw'
  obtain ⟨⟨dq, osq⟩, hw''⟩ := hw'
  subst hw''
  have hBq := below_regrown w2 dq osq
  clear kq0 kq1 kq2
  generalize grow (redrawn w2 dq) osq = w3 at *
  have hL3 := hL.below hBq hL.lt
  have hA3 := hA.below hBq hA.lt
  have hZ3 := hZ.below hBq hZ.lt
  have hB3 := below_up hB hBq
  clear hBq hL hA hZ hB p q1 q2
  have p0 : w3.cell? ⟨w.heap.size, 0, none⟩ = some (.slice X x.t.length ca) := hL3.cell 0
  have p1 : w3.cell? ⟨w.heap.size, 1, none⟩ = some (.int .i64 x.k) := hL3.cell 1
  have p2 : w3.cell? ⟨w.heap.size, 2, none⟩ = some (.slice Y y.t.length cb) := hL3.cell 2
  have p3 : w3.cell? ⟨w.heap.size, 3, none⟩ = some (.int .i64 y.k) := hL3.cell 3
  have q0 : w3.cell? ⟨w.heap.size + 1, 0, none⟩ = some (.int .u8 1) := hA3.cell 0
  have q1 : w3.cell? ⟨w.heap.size + 1, 1, none⟩ = some (.int .i64 0) := hA3.cell 1
  have q2 : w3.cell? ⟨w.heap.size + 1, 2, none⟩ = some (.slice T tx.length ct) := hA3.cell 2
  have H3 := Lib.hid (And.intro hZ3 hB3)
  clear hL3 hA3 hZ3 hB3
  go_wp2_with fail
  refine (rDone10 x y X ca Y cb T ct tx l1 l2 (by omega) _ (HX.out.1.up H3.out.2) (HX.out.2.up H3.out.2)).mono ?_
  rintro e w4 ⟨v, rfl, hR, hB4⟩
  have hZ4 := H3.out.1.below hB4 H3.out.1.lt
  have hB5 := below_up H3.out.2 hB4
  obtain ⟨X7, n7, c7, k7, Y8, n8, c8, k8, rfl⟩ := hR.four
  have hs : w.heap.size + 1 + 1 < w3.heap.size := H3.out.1.lt
  have z0 : w4.cell? ⟨w.heap.size + 1 + 1, 0, none⟩ = some (.slice none 0 0) := hZ4.cell 0
  have z1 : w4.cell? ⟨w.heap.size + 1 + 1, 1, none⟩ = some (.int .i64 0) := hZ4.cell 1
  have z2 : w4.cell? ⟨w.heap.size + 1 + 1, 2, none⟩ = some (.slice none 0 0) := hZ4.cell 2
  have z3 : w4.cell? ⟨w.heap.size + 1 + 1, 3, none⟩ = some (.int .i64 0) := hZ4.cell 3
  have zf0 := hZ4.frozen 0
  have zf1 := hZ4.frozen 1
  have zf2 := hZ4.frozen 2
  have zf3 := hZ4.frozen 3
  have HH := Lib.hid (And.intro hZ4 (And.intro hB5 hR))
  have hs9 := H3.out.2.size
  clear hR hB4 hZ4 hB5 H3 p0 p1 p2 p3 q0 q1 q2
  go_wp2_with fail
  have hK4 := W4.blk HH.out.1 (.slice X7 n7 c7) (.int .i64 k7) (.slice Y8 n8 c8) (.int .i64 k8)
  have hB4 := W4.below (g := w.heap.size + 1 + 1) HH.out.2.1 (by omega) (.slice X7 n7 c7) (.int .i64 k7) (.slice Y8 n8 c8) (.int .i64 k8)
  have hR4 := RetL.w4 (g := w.heap.size + 1 + 1) HH.out.2.2 hs (.slice X7 n7 c7) (.int .i64 k7) (.slice Y8 n8 c8) (.int .i64 k8)
  clear HH z0 z1 z2 z3 zf0 zf1 zf2 zf3
  rw [show ((((w4.setCell ⟨w.heap.size + 1 + 1, 0, none⟩ (.slice X7 n7 c7)).setCell ⟨w.heap.size + 1 + 1, 1, none⟩ (.int .i64 k7)).setCell ⟨w.heap.size + 1 + 1, 2, none⟩ (.slice Y8 n8 c8)).setCell ⟨w.heap.size + 1 + 1, 3, none⟩ (.int .i64 k8)) = W4 w4 (w.heap.size + 1 + 1) (.slice X7 n7 c7) (.int .i64 k7) (.slice Y8 n8 c8) (.int .i64 k8) from rfl]
  generalize W4 w4 (w.heap.size + 1 + 1) (.slice X7 n7 c7) (.int .i64 k7) (.slice Y8 n8 c8) (.int .i64 k8) = w9 at *
  have c0 := hK4.cell 0
  have c1 := hK4.cell 1
  have c2 := hK4.cell 2
  have c3 := hK4.cell 3
  simp only [List.getElem?_toArray, List.getElem?_cons_zero, List.getElem?_cons_succ] at c0 c1 c2 c3
  exact bodyPost_ret (v := .tuple #[.agg #[.slice X7 n7 c7, .int .i64 k7, .slice Y8 n8 c8, .int .i64 k8], .int .i64 0]) (by simp [results, Try.results29, go_sem, c0, c1, c2, c3]) rfl ⟨_, rfl, hR4.less hs9, hB4⟩
set_option maxRecDepth 100000 in
set_option maxHeartbeats 4000000 in
theorem rDoOk20 (x y : AV) (X : Option Addr) (ca : Nat) (Y : Option Addr) (cb : Nat) (T : Option Addr) (ct : Nat) (tx : List Int) (h : mayL ⟨x, y⟩ = true) (h2 : mayAct 2 0 tx = true) (h3 : (x.t.length : Int) + (tx.length : Int) ≤ 262144) (w : World) (hX : TAt w X x.t) (hY : TAt w Y y.t) (hT : TAt w T tx) :
    Calls Try.prog 29 #[.agg #[.slice X x.t.length ca, .int .i64 x.k, .slice Y y.t.length cb, .int .i64 y.k], .agg #[.int .u8 2, .int .i64 0, .slice T tx.length ct]] w fun e w' => ∃ v, e = .returned (.tuple #[v, .int .i64 (doE ⟨x, y⟩ 2 0 tx)]) ∧ RetL w' w.heap.size (doL ⟨x, y⟩ 2 0 tx) v ∧ Below w.heap.size w w' := by
  obtain ⟨E1, E2⟩ := doE_ok h h2 (by simpa [LV.of] using h3)
  obtain ⟨l1, l2, _, _, _, _⟩ := mayL_len h
  rw [E1, E2]
  clear E1 E2
  show Calls Try.prog 29 #[.agg #[.slice X x.t.length ca, .int .i64 x.k, .slice Y y.t.length cb, .int .i64 y.k], .agg #[.int .u8 2, .int .i64 0, .slice T tx.length ct]] w fun e w' => ∃ v, e = .returned (.tuple #[v, .int .i64 0]) ∧ RetL w' w.heap.size ⟨⟨x.t ++ tx, x.k⟩, y⟩ v ∧ Below w.heap.size w w'
  have HX := Lib.hid (And.intro hX hY)
  clear hX hY
  have HT := Lib.hid hT
  clear hT
  have f1 : IntKind.i64.wrap ((x.t.length : Int) + (tx.length : Int)) = (x.t.length : Int) + (tx.length : Int) := IntWalk.i64_in _ (by omega)
  go_enter Try.func29, Try.ntmps29
  go_wp2_with fail
  refine (rMay x y X ca Y cb _).mono ?_
  rintro e w1 ⟨rfl, hB1⟩
  rw [h]
  have hL := ((Blk.new w 70 #[.slice X x.t.length ca, .int .i64 x.k, .slice Y y.t.length cb, .int .i64 y.k]).alloc (.cells #[.int .u8 2, .int .i64 0, .slice T tx.length ct] 72)).alloc (.cells #[.slice none 0 0, .int .i64 0, .slice none 0 0, .int .i64 0] 70) |>.below hB1 (by simp; omega)
  have hA := (blk1 w 72 #[.int .u8 2, .int .i64 0, .slice T tx.length ct] (o := .cells #[.slice X x.t.length ca, .int .i64 x.k, .slice Y y.t.length cb, .int .i64 y.k] 70)).alloc (.cells #[.slice none 0 0, .int .i64 0, .slice none 0 0, .int .i64 0] 70) |>.below hB1 (by simp)
  have hZ := (blk2 w 70 #[.slice none 0 0, .int .i64 0, .slice none 0 0, .int .i64 0] (o := .cells #[.slice X x.t.length ca, .int .i64 x.k, .slice Y y.t.length cb, .int .i64 y.k] 70) (o' := .cells #[.int .u8 2, .int .i64 0, .slice T tx.length ct] 72)).below hB1 (by simp)
  have hB := below_up (below_alloc (below_alloc (below_alloc (Below.refl _ _)))) hB1
  clear hB1
  have p0 : w1.cell? ⟨w.heap.size, 0, none⟩ = some (.slice X x.t.length ca) := hL.cell 0
  have p1 : w1.cell? ⟨w.heap.size, 1, none⟩ = some (.int .i64 x.k) := hL.cell 1
  have p2 : w1.cell? ⟨w.heap.size, 2, none⟩ = some (.slice Y y.t.length cb) := hL.cell 2
  have p3 : w1.cell? ⟨w.heap.size, 3, none⟩ = some (.int .i64 y.k) := hL.cell 3
  have q0 : w1.cell? ⟨w.heap.size + 1, 0, none⟩ = some (.int .u8 2) := hA.cell 0
  have q1 : w1.cell? ⟨w.heap.size + 1, 1, none⟩ = some (.int .i64 0) := hA.cell 1
  have q2 : w1.cell? ⟨w.heap.size + 1, 2, none⟩ = some (.slice T tx.length ct) := hA.cell 2
  have H1 := Lib.hid (And.intro hL (And.intro hA (And.intro hZ hB)))
  clear hL hA hZ hB
  go_wp2_with fail
  refine (rMayAct 2 0 T ct tx _).mono ?_
  rintro e w2 ⟨rfl, hB2⟩
  rw [h2]
  have hL := H1.out.1.below hB2 H1.out.1.lt
  have hA := H1.out.2.1.below hB2 H1.out.2.1.lt
  have hZ := H1.out.2.2.1.below hB2 H1.out.2.2.1.lt
  have hB := below_up H1.out.2.2.2 hB2
  clear hB2 H1 p0 p1 p2 p3 q0 q1 q2
  have p : w2.cell? ⟨w.heap.size, 0, none⟩ = some (.slice X x.t.length ca) := hL.cell 0
  have q1 : w2.cell? ⟨w.heap.size + 1, 1, none⟩ = some (.int .i64 0) := hA.cell 1
  have q2 : w2.cell? ⟨w.heap.size + 1, 2, none⟩ = some (.slice T tx.length ct) := hA.cell 2
  go_wp2_with fail
  have kq0 := cell_regrown p
  have kq1 := cell_regrown q1
  have kq2 := cell_regrown q2
  refine wp_region_quiet_below (by kernel_rfl) (by kernel_rfl) ?_
  repeat (go_big_quiet_step (first | fail))
  refine wpQuiet_nil ?_
  intro _ hw'
  obtain ⟨⟨dq, osq⟩, hw''⟩ := hw'
  subst hw''
  have hBq := below_regrown w2 dq osq
  clear kq0 kq1 kq2
  generalize grow (redrawn w2 dq) osq = w3 at *
  have hL3 := hL.below hBq hL.lt
  have hA3 := hA.below hBq hA.lt
  have hZ3 := hZ.below hBq hZ.lt
  have hB3 := below_up hB hBq
  clear hBq hL hA hZ hB p q1 q2
  have p0 : w3.cell? ⟨w.heap.size, 0, none⟩ = some (.slice X x.t.length ca) := hL3.cell 0
  have p1 : w3.cell? ⟨w.heap.size, 1, none⟩ = some (.int .i64 x.k) := hL3.cell 1
  have p2 : w3.cell? ⟨w.heap.size, 2, none⟩ = some (.slice Y y.t.length cb) := hL3.cell 2
  have p3 : w3.cell? ⟨w.heap.size, 3, none⟩ = some (.int .i64 y.k) := hL3.cell 3
  have q0 : w3.cell? ⟨w.heap.size + 1, 0, none⟩ = some (.int .u8 2) := hA3.cell 0
  have q1 : w3.cell? ⟨w.heap.size + 1, 1, none⟩ = some (.int .i64 0) := hA3.cell 1
  have q2 : w3.cell? ⟨w.heap.size + 1, 2, none⟩ = some (.slice T tx.length ct) := hA3.cell 2
  have H3 := Lib.hid (And.intro hZ3 hB3)
  clear hL3 hA3 hZ3 hB3
  go_wp2_with fail
  refine (rDone20 x y X ca Y cb T ct tx l1 l2 (by omega) _ (HX.out.1.up H3.out.2) (HX.out.2.up H3.out.2) (HT.out.up H3.out.2)).mono ?_
  rintro e w4 ⟨v, rfl, hR, hB4⟩
  have hZ4 := H3.out.1.below hB4 H3.out.1.lt
  have hB5 := below_up H3.out.2 hB4
  obtain ⟨X7, n7, c7, k7, Y8, n8, c8, k8, rfl⟩ := hR.four
  have hs : w.heap.size + 1 + 1 < w3.heap.size := H3.out.1.lt
  have z0 : w4.cell? ⟨w.heap.size + 1 + 1, 0, none⟩ = some (.slice none 0 0) := hZ4.cell 0
  have z1 : w4.cell? ⟨w.heap.size + 1 + 1, 1, none⟩ = some (.int .i64 0) := hZ4.cell 1
  have z2 : w4.cell? ⟨w.heap.size + 1 + 1, 2, none⟩ = some (.slice none 0 0) := hZ4.cell 2
  have z3 : w4.cell? ⟨w.heap.size + 1 + 1, 3, none⟩ = some (.int .i64 0) := hZ4.cell 3
  have zf0 := hZ4.frozen 0
  have zf1 := hZ4.frozen 1
  have zf2 := hZ4.frozen 2
  have zf3 := hZ4.frozen 3
  have HH := Lib.hid (And.intro hZ4 (And.intro hB5 hR))
  have hs9 := H3.out.2.size
  clear hR hB4 hZ4 hB5 H3 p0 p1 p2 p3 q0 q1 q2
  go_wp2_with fail
  have hK4 := W4.blk HH.out.1 (.slice X7 n7 c7) (.int .i64 k7) (.slice Y8 n8 c8) (.int .i64 k8)
  have hB4 := W4.below (g := w.heap.size + 1 + 1) HH.out.2.1 (by omega) (.slice X7 n7 c7) (.int .i64 k7) (.slice Y8 n8 c8) (.int .i64 k8)
  have hR4 := RetL.w4 (g := w.heap.size + 1 + 1) HH.out.2.2 hs (.slice X7 n7 c7) (.int .i64 k7) (.slice Y8 n8 c8) (.int .i64 k8)
  clear HH z0 z1 z2 z3 zf0 zf1 zf2 zf3
  rw [show ((((w4.setCell ⟨w.heap.size + 1 + 1, 0, none⟩ (.slice X7 n7 c7)).setCell ⟨w.heap.size + 1 + 1, 1, none⟩ (.int .i64 k7)).setCell ⟨w.heap.size + 1 + 1, 2, none⟩ (.slice Y8 n8 c8)).setCell ⟨w.heap.size + 1 + 1, 3, none⟩ (.int .i64 k8)) = W4 w4 (w.heap.size + 1 + 1) (.slice X7 n7 c7) (.int .i64 k7) (.slice Y8 n8 c8) (.int .i64 k8) from rfl]
  generalize W4 w4 (w.heap.size + 1 + 1) (.slice X7 n7 c7) (.int .i64 k7) (.slice Y8 n8 c8) (.int .i64 k8) = w9 at *
  have c0 := hK4.cell 0
  have c1 := hK4.cell 1
  have c2 := hK4.cell 2
  have c3 := hK4.cell 3
  simp only [List.getElem?_toArray, List.getElem?_cons_zero, List.getElem?_cons_succ] at c0 c1 c2 c3
  exact bodyPost_ret (v := .tuple #[.agg #[.slice X7 n7 c7, .int .i64 k7, .slice Y8 n8 c8, .int .i64 k8], .int .i64 0]) (by simp [results, Try.results29, go_sem, c0, c1, c2, c3]) rfl ⟨_, rfl, hR4.less hs9, hB4⟩
set_option maxRecDepth 100000 in
set_option maxHeartbeats 4000000 in
theorem rDoOk30 (x y : AV) (X : Option Addr) (ca : Nat) (Y : Option Addr) (cb : Nat) (T : Option Addr) (ct : Nat) (tx : List Int) (h : mayL ⟨x, y⟩ = true) (h2 : mayAct 3 0 tx = true) (h3 : (x.t.length : Int) + (tx.length : Int) ≤ 262144) (w : World) (hX : TAt w X x.t) (hY : TAt w Y y.t) :
    Calls Try.prog 29 #[.agg #[.slice X x.t.length ca, .int .i64 x.k, .slice Y y.t.length cb, .int .i64 y.k], .agg #[.int .u8 3, .int .i64 0, .slice T tx.length ct]] w fun e w' => ∃ v, e = .returned (.tuple #[v, .int .i64 (doE ⟨x, y⟩ 3 0 tx)]) ∧ RetL w' w.heap.size (doL ⟨x, y⟩ 3 0 tx) v ∧ Below w.heap.size w w' := by
  obtain ⟨E1, E2⟩ := doE_ok h h2 (by simpa [LV.of] using h3)
  obtain ⟨l1, l2, _, _, _, _⟩ := mayL_len h
  rw [E1, E2]
  clear E1 E2
  show Calls Try.prog 29 #[.agg #[.slice X x.t.length ca, .int .i64 x.k, .slice Y y.t.length cb, .int .i64 y.k], .agg #[.int .u8 3, .int .i64 0, .slice T tx.length ct]] w fun e w' => ∃ v, e = .returned (.tuple #[v, .int .i64 0]) ∧ RetL w' w.heap.size ⟨⟨x.t, (x.t.length : Int)⟩, y⟩ v ∧ Below w.heap.size w w'
  have HX := Lib.hid (And.intro hX hY)
  clear hX hY
  have f1 : IntKind.i64.wrap ((x.t.length : Int) + (tx.length : Int)) = (x.t.length : Int) + (tx.length : Int) := IntWalk.i64_in _ (by omega)
  go_enter Try.func29, Try.ntmps29
  go_wp2_with fail
  refine (rMay x y X ca Y cb _).mono ?_
  rintro e w1 ⟨rfl, hB1⟩
  rw [h]
  have hL := ((Blk.new w 70 #[.slice X x.t.length ca, .int .i64 x.k, .slice Y y.t.length cb, .int .i64 y.k]).alloc (.cells #[.int .u8 3, .int .i64 0, .slice T tx.length ct] 72)).alloc (.cells #[.slice none 0 0, .int .i64 0, .slice none 0 0, .int .i64 0] 70) |>.below hB1 (by simp; omega)
  have hA := (blk1 w 72 #[.int .u8 3, .int .i64 0, .slice T tx.length ct] (o := .cells #[.slice X x.t.length ca, .int .i64 x.k, .slice Y y.t.length cb, .int .i64 y.k] 70)).alloc (.cells #[.slice none 0 0, .int .i64 0, .slice none 0 0, .int .i64 0] 70) |>.below hB1 (by simp)
  have hZ := (blk2 w 70 #[.slice none 0 0, .int .i64 0, .slice none 0 0, .int .i64 0] (o := .cells #[.slice X x.t.length ca, .int .i64 x.k, .slice Y y.t.length cb, .int .i64 y.k] 70) (o' := .cells #[.int .u8 3, .int .i64 0, .slice T tx.length ct] 72)).below hB1 (by simp)
  have hB := below_up (below_alloc (below_alloc (below_alloc (Below.refl _ _)))) hB1
  clear hB1
  have p0 : w1.cell? ⟨w.heap.size, 0, none⟩ = some (.slice X x.t.length ca) := hL.cell 0
  have p1 : w1.cell? ⟨w.heap.size, 1, none⟩ = some (.int .i64 x.k) := hL.cell 1
  have p2 : w1.cell? ⟨w.heap.size, 2, none⟩ = some (.slice Y y.t.length cb) := hL.cell 2
  have p3 : w1.cell? ⟨w.heap.size, 3, none⟩ = some (.int .i64 y.k) := hL.cell 3
  have q0 : w1.cell? ⟨w.heap.size + 1, 0, none⟩ = some (.int .u8 3) := hA.cell 0
  have q1 : w1.cell? ⟨w.heap.size + 1, 1, none⟩ = some (.int .i64 0) := hA.cell 1
  have q2 : w1.cell? ⟨w.heap.size + 1, 2, none⟩ = some (.slice T tx.length ct) := hA.cell 2
  have H1 := Lib.hid (And.intro hL (And.intro hA (And.intro hZ hB)))
  clear hL hA hZ hB
  go_wp2_with fail
  refine (rMayAct 3 0 T ct tx _).mono ?_
  rintro e w2 ⟨rfl, hB2⟩
  rw [h2]
  have hL := H1.out.1.below hB2 H1.out.1.lt
  have hA := H1.out.2.1.below hB2 H1.out.2.1.lt
  have hZ := H1.out.2.2.1.below hB2 H1.out.2.2.1.lt
  have hB := below_up H1.out.2.2.2 hB2
  clear hB2 H1 p0 p1 p2 p3 q0 q1 q2
  have p : w2.cell? ⟨w.heap.size, 0, none⟩ = some (.slice X x.t.length ca) := hL.cell 0
  have q1 : w2.cell? ⟨w.heap.size + 1, 1, none⟩ = some (.int .i64 0) := hA.cell 1
  have q2 : w2.cell? ⟨w.heap.size + 1, 2, none⟩ = some (.slice T tx.length ct) := hA.cell 2
  go_wp2_with fail
  have kq0 := cell_regrown p
  have kq1 := cell_regrown q1
  have kq2 := cell_regrown q2
  refine wp_region_quiet_below (by kernel_rfl) (by kernel_rfl) ?_
  repeat (go_big_quiet_step (first | fail))
  refine wpQuiet_nil ?_
  intro _ hw'
  obtain ⟨⟨dq, osq⟩, hw''⟩ := hw'
  subst hw''
  have hBq := below_regrown w2 dq osq
  clear kq0 kq1 kq2
  generalize grow (redrawn w2 dq) osq = w3 at *
  have hL3 := hL.below hBq hL.lt
  have hA3 := hA.below hBq hA.lt
  have hZ3 := hZ.below hBq hZ.lt
  have hB3 := below_up hB hBq
  clear hBq hL hA hZ hB p q1 q2
  have p0 : w3.cell? ⟨w.heap.size, 0, none⟩ = some (.slice X x.t.length ca) := hL3.cell 0
  have p1 : w3.cell? ⟨w.heap.size, 1, none⟩ = some (.int .i64 x.k) := hL3.cell 1
  have p2 : w3.cell? ⟨w.heap.size, 2, none⟩ = some (.slice Y y.t.length cb) := hL3.cell 2
  have p3 : w3.cell? ⟨w.heap.size, 3, none⟩ = some (.int .i64 y.k) := hL3.cell 3
  have q0 : w3.cell? ⟨w.heap.size + 1, 0, none⟩ = some (.int .u8 3) := hA3.cell 0
  have q1 : w3.cell? ⟨w.heap.size + 1, 1, none⟩ = some (.int .i64 0) := hA3.cell 1
  have q2 : w3.cell? ⟨w.heap.size + 1, 2, none⟩ = some (.slice T tx.length ct) := hA3.cell 2
  have H3 := Lib.hid (And.intro hZ3 hB3)
  clear hL3 hA3 hZ3 hB3
  go_wp2_with fail
  refine (rDone30 x y X ca Y cb T ct tx l1 l2 (by omega) _ (HX.out.1.up H3.out.2) (HX.out.2.up H3.out.2)).mono ?_
  rintro e w4 ⟨v, rfl, hR, hB4⟩
  have hZ4 := H3.out.1.below hB4 H3.out.1.lt
  have hB5 := below_up H3.out.2 hB4
  obtain ⟨X7, n7, c7, k7, Y8, n8, c8, k8, rfl⟩ := hR.four
  have hs : w.heap.size + 1 + 1 < w3.heap.size := H3.out.1.lt
  have z0 : w4.cell? ⟨w.heap.size + 1 + 1, 0, none⟩ = some (.slice none 0 0) := hZ4.cell 0
  have z1 : w4.cell? ⟨w.heap.size + 1 + 1, 1, none⟩ = some (.int .i64 0) := hZ4.cell 1
  have z2 : w4.cell? ⟨w.heap.size + 1 + 1, 2, none⟩ = some (.slice none 0 0) := hZ4.cell 2
  have z3 : w4.cell? ⟨w.heap.size + 1 + 1, 3, none⟩ = some (.int .i64 0) := hZ4.cell 3
  have zf0 := hZ4.frozen 0
  have zf1 := hZ4.frozen 1
  have zf2 := hZ4.frozen 2
  have zf3 := hZ4.frozen 3
  have HH := Lib.hid (And.intro hZ4 (And.intro hB5 hR))
  have hs9 := H3.out.2.size
  clear hR hB4 hZ4 hB5 H3 p0 p1 p2 p3 q0 q1 q2
  go_wp2_with fail
  have hK4 := W4.blk HH.out.1 (.slice X7 n7 c7) (.int .i64 k7) (.slice Y8 n8 c8) (.int .i64 k8)
  have hB4 := W4.below (g := w.heap.size + 1 + 1) HH.out.2.1 (by omega) (.slice X7 n7 c7) (.int .i64 k7) (.slice Y8 n8 c8) (.int .i64 k8)
  have hR4 := RetL.w4 (g := w.heap.size + 1 + 1) HH.out.2.2 hs (.slice X7 n7 c7) (.int .i64 k7) (.slice Y8 n8 c8) (.int .i64 k8)
  clear HH z0 z1 z2 z3 zf0 zf1 zf2 zf3
  rw [show ((((w4.setCell ⟨w.heap.size + 1 + 1, 0, none⟩ (.slice X7 n7 c7)).setCell ⟨w.heap.size + 1 + 1, 1, none⟩ (.int .i64 k7)).setCell ⟨w.heap.size + 1 + 1, 2, none⟩ (.slice Y8 n8 c8)).setCell ⟨w.heap.size + 1 + 1, 3, none⟩ (.int .i64 k8)) = W4 w4 (w.heap.size + 1 + 1) (.slice X7 n7 c7) (.int .i64 k7) (.slice Y8 n8 c8) (.int .i64 k8) from rfl]
  generalize W4 w4 (w.heap.size + 1 + 1) (.slice X7 n7 c7) (.int .i64 k7) (.slice Y8 n8 c8) (.int .i64 k8) = w9 at *
  have c0 := hK4.cell 0
  have c1 := hK4.cell 1
  have c2 := hK4.cell 2
  have c3 := hK4.cell 3
  simp only [List.getElem?_toArray, List.getElem?_cons_zero, List.getElem?_cons_succ] at c0 c1 c2 c3
  exact bodyPost_ret (v := .tuple #[.agg #[.slice X7 n7 c7, .int .i64 k7, .slice Y8 n8 c8, .int .i64 k8], .int .i64 0]) (by simp [results, Try.results29, go_sem, c0, c1, c2, c3]) rfl ⟨_, rfl, hR4.less hs9, hB4⟩
set_option maxRecDepth 100000 in
set_option maxHeartbeats 4000000 in
theorem rDoFull1 (x y : AV) (X : Option Addr) (ca : Nat) (Y : Option Addr) (cb : Nat) (kd : Int) (T : Option Addr) (ct : Nat) (tx : List Int) (h : mayL ⟨x, y⟩ = true) (h2 : mayAct kd 1 tx = true) (h3 : (262144 : Int) < (y.t.length : Int) + (tx.length : Int)) (hl : y.t.length ≤ 300000) (htx : tx.length ≤ 300000) (w : World) :
    Calls Try.prog 29 #[.agg #[.slice X x.t.length ca, .int .i64 x.k, .slice Y y.t.length cb, .int .i64 y.k], .agg #[.int .u8 kd, .int .i64 1, .slice T tx.length ct]] w fun e w' => ∃ v, e = .returned (.tuple #[v, .int .i64 (doE ⟨x, y⟩ kd 1 tx)]) ∧ RetL w' w.heap.size (doL ⟨x, y⟩ kd 1 tx) v ∧ Below w.heap.size w w' := by
  obtain ⟨E1, E2⟩ := doE_full h h2 (by simpa [LV.of] using h3)
  rw [E1, E2]
  clear E1 E2
  have f1 : IntKind.i64.wrap ((y.t.length : Int) + (tx.length : Int)) = (y.t.length : Int) + (tx.length : Int) := IntWalk.i64_in _ (by omega)
  go_enter Try.func29, Try.ntmps29
  go_wp2_with fail
  refine (rMay x y X ca Y cb _).mono ?_
  rintro e w1 ⟨rfl, hB1⟩
  rw [h]
  have hL := ((Blk.new w 70 #[.slice X x.t.length ca, .int .i64 x.k, .slice Y y.t.length cb, .int .i64 y.k]).alloc (.cells #[.int .u8 kd, .int .i64 1, .slice T tx.length ct] 72)).alloc (.cells #[.slice none 0 0, .int .i64 0, .slice none 0 0, .int .i64 0] 70) |>.below hB1 (by simp; omega)
  have hA := (blk1 w 72 #[.int .u8 kd, .int .i64 1, .slice T tx.length ct] (o := .cells #[.slice X x.t.length ca, .int .i64 x.k, .slice Y y.t.length cb, .int .i64 y.k] 70)).alloc (.cells #[.slice none 0 0, .int .i64 0, .slice none 0 0, .int .i64 0] 70) |>.below hB1 (by simp)
  have hZ := (blk2 w 70 #[.slice none 0 0, .int .i64 0, .slice none 0 0, .int .i64 0] (o := .cells #[.slice X x.t.length ca, .int .i64 x.k, .slice Y y.t.length cb, .int .i64 y.k] 70) (o' := .cells #[.int .u8 kd, .int .i64 1, .slice T tx.length ct] 72)).below hB1 (by simp)
  have hB := below_up (below_alloc (below_alloc (below_alloc (Below.refl _ _)))) hB1
  clear hB1
  have p0 : w1.cell? ⟨w.heap.size, 0, none⟩ = some (.slice X x.t.length ca) := hL.cell 0
  have p1 : w1.cell? ⟨w.heap.size, 1, none⟩ = some (.int .i64 x.k) := hL.cell 1
  have p2 : w1.cell? ⟨w.heap.size, 2, none⟩ = some (.slice Y y.t.length cb) := hL.cell 2
  have p3 : w1.cell? ⟨w.heap.size, 3, none⟩ = some (.int .i64 y.k) := hL.cell 3
  have q0 : w1.cell? ⟨w.heap.size + 1, 0, none⟩ = some (.int .u8 kd) := hA.cell 0
  have q1 : w1.cell? ⟨w.heap.size + 1, 1, none⟩ = some (.int .i64 1) := hA.cell 1
  have q2 : w1.cell? ⟨w.heap.size + 1, 2, none⟩ = some (.slice T tx.length ct) := hA.cell 2
  have H1 := Lib.hid (And.intro hL (And.intro hA (And.intro hZ hB)))
  clear hL hA hZ hB
  go_wp2_with fail
  refine (rMayAct kd 1 T ct tx _).mono ?_
  rintro e w2 ⟨rfl, hB2⟩
  rw [h2]
  have hL := H1.out.1.below hB2 H1.out.1.lt
  have hA := H1.out.2.1.below hB2 H1.out.2.1.lt
  have hZ := H1.out.2.2.1.below hB2 H1.out.2.2.1.lt
  have hB := below_up H1.out.2.2.2 hB2
  clear hB2 H1 p0 p1 p2 p3 q0 q1 q2
  have p : w2.cell? ⟨w.heap.size, 2, none⟩ = some (.slice Y y.t.length cb) := hL.cell 2
  have q1 : w2.cell? ⟨w.heap.size + 1, 1, none⟩ = some (.int .i64 1) := hA.cell 1
  have q2 : w2.cell? ⟨w.heap.size + 1, 2, none⟩ = some (.slice T tx.length ct) := hA.cell 2
  go_wp2_with fail
  have kq0 := cell_regrown p
  have kq1 := cell_regrown q1
  have kq2 := cell_regrown q2
  refine wp_region_quiet_below (by kernel_rfl) (by kernel_rfl) ?_
  repeat (go_big_quiet_step (first | fail))
  refine wpQuiet_nil ?_
  intro _ hw'
  obtain ⟨⟨dq, osq⟩, hw''⟩ := hw'
  subst hw''
  have hBq := below_regrown w2 dq osq
  clear kq0 kq1 kq2
  generalize grow (redrawn w2 dq) osq = w3 at *
  have hL3 := hL.below hBq hL.lt
  have hA3 := hA.below hBq hA.lt
  have hZ3 := hZ.below hBq hZ.lt
  have hB3 := below_up hB hBq
  clear hBq hL hA hZ hB p q1 q2
  have z0 : w3.cell? ⟨w.heap.size + 1 + 1, 0, none⟩ = some (.slice none 0 0) := hZ3.cell 0
  have z1 : w3.cell? ⟨w.heap.size + 1 + 1, 1, none⟩ = some (.int .i64 0) := hZ3.cell 1
  have z2 : w3.cell? ⟨w.heap.size + 1 + 1, 2, none⟩ = some (.slice none 0 0) := hZ3.cell 2
  have z3 : w3.cell? ⟨w.heap.size + 1 + 1, 3, none⟩ = some (.int .i64 0) := hZ3.cell 3
  have zf0 := hZ3.frozen 0
  have zf1 := hZ3.frozen 1
  have zf2 := hZ3.frozen 2
  have zf3 := hZ3.frozen 3
  have HH := Lib.hid (And.intro hZ3 hB3)
  clear hL3 hA3 hZ3 hB3
  go_wp2_with fail
  have hK4 := W4.blk HH.out.1 (.slice none 0 0) (.int .i64 0) (.slice none 0 0) (.int .i64 0)
  have hB4 := W4.below (g := w.heap.size + 1 + 1) HH.out.2 (by omega) (.slice none 0 0) (.int .i64 0) (.slice none 0 0) (.int .i64 0)
  rw [show ((((w3.setCell ⟨w.heap.size + 1 + 1, 0, none⟩ (.slice none 0 0)).setCell ⟨w.heap.size + 1 + 1, 1, none⟩ (.int .i64 0)).setCell ⟨w.heap.size + 1 + 1, 2, none⟩ (.slice none 0 0)).setCell ⟨w.heap.size + 1 + 1, 3, none⟩ (.int .i64 0)) = W4 w3 (w.heap.size + 1 + 1) (.slice none 0 0) (.int .i64 0) (.slice none 0 0) (.int .i64 0) from rfl]
  generalize W4 w3 (w.heap.size + 1 + 1) (.slice none 0 0) (.int .i64 0) (.slice none 0 0) (.int .i64 0) = w99 at *
  clear z0 z1 z2 z3 zf0 zf1 zf2 zf3
  have c0 := hK4.cell 0
  have c1 := hK4.cell 1
  have c2 := hK4.cell 2
  have c3 := hK4.cell 3
  simp only [List.getElem?_toArray, List.getElem?_cons_zero, List.getElem?_cons_succ] at c0 c1 c2 c3
  exact bodyPost_ret (v := .tuple #[.agg #[.slice none 0 0, .int .i64 0, .slice none 0 0, .int .i64 0], .int .i64 9]) (by simp [results, Try.results29, go_sem, c0, c1, c2, c3]) rfl ⟨_, rfl, RetL.zero, hB4⟩
set_option maxRecDepth 100000 in
set_option maxHeartbeats 4000000 in
theorem rDoOk11 (x y : AV) (X : Option Addr) (ca : Nat) (Y : Option Addr) (cb : Nat) (T : Option Addr) (ct : Nat) (tx : List Int) (h : mayL ⟨x, y⟩ = true) (h2 : mayAct 1 1 tx = true) (h3 : (y.t.length : Int) + (tx.length : Int) ≤ 262144) (w : World) (hX : TAt w X x.t) (hY : TAt w Y y.t) :
    Calls Try.prog 29 #[.agg #[.slice X x.t.length ca, .int .i64 x.k, .slice Y y.t.length cb, .int .i64 y.k], .agg #[.int .u8 1, .int .i64 1, .slice T tx.length ct]] w fun e w' => ∃ v, e = .returned (.tuple #[v, .int .i64 (doE ⟨x, y⟩ 1 1 tx)]) ∧ RetL w' w.heap.size (doL ⟨x, y⟩ 1 1 tx) v ∧ Below w.heap.size w w' := by
  obtain ⟨E1, E2⟩ := doE_ok h h2 (by simpa [LV.of] using h3)
  obtain ⟨l1, l2, _, _, _, _⟩ := mayL_len h
  rw [E1, E2]
  clear E1 E2
  show Calls Try.prog 29 #[.agg #[.slice X x.t.length ca, .int .i64 x.k, .slice Y y.t.length cb, .int .i64 y.k], .agg #[.int .u8 1, .int .i64 1, .slice T tx.length ct]] w fun e w' => ∃ v, e = .returned (.tuple #[v, .int .i64 0]) ∧ RetL w' w.heap.size ⟨x, AV.z⟩ v ∧ Below w.heap.size w w'
  have HX := Lib.hid (And.intro hX hY)
  clear hX hY
  have f1 : IntKind.i64.wrap ((y.t.length : Int) + (tx.length : Int)) = (y.t.length : Int) + (tx.length : Int) := IntWalk.i64_in _ (by omega)
  go_enter Try.func29, Try.ntmps29
  go_wp2_with fail
  refine (rMay x y X ca Y cb _).mono ?_
  rintro e w1 ⟨rfl, hB1⟩
  rw [h]
  have hL := ((Blk.new w 70 #[.slice X x.t.length ca, .int .i64 x.k, .slice Y y.t.length cb, .int .i64 y.k]).alloc (.cells #[.int .u8 1, .int .i64 1, .slice T tx.length ct] 72)).alloc (.cells #[.slice none 0 0, .int .i64 0, .slice none 0 0, .int .i64 0] 70) |>.below hB1 (by simp; omega)
  have hA := (blk1 w 72 #[.int .u8 1, .int .i64 1, .slice T tx.length ct] (o := .cells #[.slice X x.t.length ca, .int .i64 x.k, .slice Y y.t.length cb, .int .i64 y.k] 70)).alloc (.cells #[.slice none 0 0, .int .i64 0, .slice none 0 0, .int .i64 0] 70) |>.below hB1 (by simp)
  have hZ := (blk2 w 70 #[.slice none 0 0, .int .i64 0, .slice none 0 0, .int .i64 0] (o := .cells #[.slice X x.t.length ca, .int .i64 x.k, .slice Y y.t.length cb, .int .i64 y.k] 70) (o' := .cells #[.int .u8 1, .int .i64 1, .slice T tx.length ct] 72)).below hB1 (by simp)
  have hB := below_up (below_alloc (below_alloc (below_alloc (Below.refl _ _)))) hB1
  clear hB1
  have p0 : w1.cell? ⟨w.heap.size, 0, none⟩ = some (.slice X x.t.length ca) := hL.cell 0
  have p1 : w1.cell? ⟨w.heap.size, 1, none⟩ = some (.int .i64 x.k) := hL.cell 1
  have p2 : w1.cell? ⟨w.heap.size, 2, none⟩ = some (.slice Y y.t.length cb) := hL.cell 2
  have p3 : w1.cell? ⟨w.heap.size, 3, none⟩ = some (.int .i64 y.k) := hL.cell 3
  have q0 : w1.cell? ⟨w.heap.size + 1, 0, none⟩ = some (.int .u8 1) := hA.cell 0
  have q1 : w1.cell? ⟨w.heap.size + 1, 1, none⟩ = some (.int .i64 1) := hA.cell 1
  have q2 : w1.cell? ⟨w.heap.size + 1, 2, none⟩ = some (.slice T tx.length ct) := hA.cell 2
  have H1 := Lib.hid (And.intro hL (And.intro hA (And.intro hZ hB)))
  clear hL hA hZ hB
  go_wp2_with fail
  refine (rMayAct 1 1 T ct tx _).mono ?_
  rintro e w2 ⟨rfl, hB2⟩
  rw [h2]
  have hL := H1.out.1.below hB2 H1.out.1.lt
  have hA := H1.out.2.1.below hB2 H1.out.2.1.lt
  have hZ := H1.out.2.2.1.below hB2 H1.out.2.2.1.lt
  have hB := below_up H1.out.2.2.2 hB2
  clear hB2 H1 p0 p1 p2 p3 q0 q1 q2
  have p : w2.cell? ⟨w.heap.size, 2, none⟩ = some (.slice Y y.t.length cb) := hL.cell 2
  have q1 : w2.cell? ⟨w.heap.size + 1, 1, none⟩ = some (.int .i64 1) := hA.cell 1
  have q2 : w2.cell? ⟨w.heap.size + 1, 2, none⟩ = some (.slice T tx.length ct) := hA.cell 2
  go_wp2_with fail
  have kq0 := cell_regrown p
  have kq1 := cell_regrown q1
  have kq2 := cell_regrown q2
  refine wp_region_quiet_below (by kernel_rfl) (by kernel_rfl) ?_
  repeat (go_big_quiet_step (first | fail))
  refine wpQuiet_nil ?_
  intro _ hw'
  obtain ⟨⟨dq, osq⟩, hw''⟩ := hw'
  subst hw''
  have hBq := below_regrown w2 dq osq
  clear kq0 kq1 kq2
  generalize grow (redrawn w2 dq) osq = w3 at *
  have hL3 := hL.below hBq hL.lt
  have hA3 := hA.below hBq hA.lt
  have hZ3 := hZ.below hBq hZ.lt
  have hB3 := below_up hB hBq
  clear hBq hL hA hZ hB p q1 q2
  have p0 : w3.cell? ⟨w.heap.size, 0, none⟩ = some (.slice X x.t.length ca) := hL3.cell 0
  have p1 : w3.cell? ⟨w.heap.size, 1, none⟩ = some (.int .i64 x.k) := hL3.cell 1
  have p2 : w3.cell? ⟨w.heap.size, 2, none⟩ = some (.slice Y y.t.length cb) := hL3.cell 2
  have p3 : w3.cell? ⟨w.heap.size, 3, none⟩ = some (.int .i64 y.k) := hL3.cell 3
  have q0 : w3.cell? ⟨w.heap.size + 1, 0, none⟩ = some (.int .u8 1) := hA3.cell 0
  have q1 : w3.cell? ⟨w.heap.size + 1, 1, none⟩ = some (.int .i64 1) := hA3.cell 1
  have q2 : w3.cell? ⟨w.heap.size + 1, 2, none⟩ = some (.slice T tx.length ct) := hA3.cell 2
  have H3 := Lib.hid (And.intro hZ3 hB3)
  clear hL3 hA3 hZ3 hB3
  go_wp2_with fail
  refine (rDone11 x y X ca Y cb T ct tx l1 l2 (by omega) _ (HX.out.1.up H3.out.2) (HX.out.2.up H3.out.2)).mono ?_
  rintro e w4 ⟨v, rfl, hR, hB4⟩
  have hZ4 := H3.out.1.below hB4 H3.out.1.lt
  have hB5 := below_up H3.out.2 hB4
  obtain ⟨X7, n7, c7, k7, Y8, n8, c8, k8, rfl⟩ := hR.four
  have hs : w.heap.size + 1 + 1 < w3.heap.size := H3.out.1.lt
  have z0 : w4.cell? ⟨w.heap.size + 1 + 1, 0, none⟩ = some (.slice none 0 0) := hZ4.cell 0
  have z1 : w4.cell? ⟨w.heap.size + 1 + 1, 1, none⟩ = some (.int .i64 0) := hZ4.cell 1
  have z2 : w4.cell? ⟨w.heap.size + 1 + 1, 2, none⟩ = some (.slice none 0 0) := hZ4.cell 2
  have z3 : w4.cell? ⟨w.heap.size + 1 + 1, 3, none⟩ = some (.int .i64 0) := hZ4.cell 3
  have zf0 := hZ4.frozen 0
  have zf1 := hZ4.frozen 1
  have zf2 := hZ4.frozen 2
  have zf3 := hZ4.frozen 3
  have HH := Lib.hid (And.intro hZ4 (And.intro hB5 hR))
  have hs9 := H3.out.2.size
  clear hR hB4 hZ4 hB5 H3 p0 p1 p2 p3 q0 q1 q2
  go_wp2_with fail
  have hK4 := W4.blk HH.out.1 (.slice X7 n7 c7) (.int .i64 k7) (.slice Y8 n8 c8) (.int .i64 k8)
  have hB4 := W4.below (g := w.heap.size + 1 + 1) HH.out.2.1 (by omega) (.slice X7 n7 c7) (.int .i64 k7) (.slice Y8 n8 c8) (.int .i64 k8)
  have hR4 := RetL.w4 (g := w.heap.size + 1 + 1) HH.out.2.2 hs (.slice X7 n7 c7) (.int .i64 k7) (.slice Y8 n8 c8) (.int .i64 k8)
  clear HH z0 z1 z2 z3 zf0 zf1 zf2 zf3
  rw [show ((((w4.setCell ⟨w.heap.size + 1 + 1, 0, none⟩ (.slice X7 n7 c7)).setCell ⟨w.heap.size + 1 + 1, 1, none⟩ (.int .i64 k7)).setCell ⟨w.heap.size + 1 + 1, 2, none⟩ (.slice Y8 n8 c8)).setCell ⟨w.heap.size + 1 + 1, 3, none⟩ (.int .i64 k8)) = W4 w4 (w.heap.size + 1 + 1) (.slice X7 n7 c7) (.int .i64 k7) (.slice Y8 n8 c8) (.int .i64 k8) from rfl]
  generalize W4 w4 (w.heap.size + 1 + 1) (.slice X7 n7 c7) (.int .i64 k7) (.slice Y8 n8 c8) (.int .i64 k8) = w9 at *
  have c0 := hK4.cell 0
  have c1 := hK4.cell 1
  have c2 := hK4.cell 2
  have c3 := hK4.cell 3
  simp only [List.getElem?_toArray, List.getElem?_cons_zero, List.getElem?_cons_succ] at c0 c1 c2 c3
  exact bodyPost_ret (v := .tuple #[.agg #[.slice X7 n7 c7, .int .i64 k7, .slice Y8 n8 c8, .int .i64 k8], .int .i64 0]) (by simp [results, Try.results29, go_sem, c0, c1, c2, c3]) rfl ⟨_, rfl, hR4.less hs9, hB4⟩
set_option maxRecDepth 100000 in
set_option maxHeartbeats 4000000 in
theorem rDoOk21 (x y : AV) (X : Option Addr) (ca : Nat) (Y : Option Addr) (cb : Nat) (T : Option Addr) (ct : Nat) (tx : List Int) (h : mayL ⟨x, y⟩ = true) (h2 : mayAct 2 1 tx = true) (h3 : (y.t.length : Int) + (tx.length : Int) ≤ 262144) (w : World) (hX : TAt w X x.t) (hY : TAt w Y y.t) (hT : TAt w T tx) :
    Calls Try.prog 29 #[.agg #[.slice X x.t.length ca, .int .i64 x.k, .slice Y y.t.length cb, .int .i64 y.k], .agg #[.int .u8 2, .int .i64 1, .slice T tx.length ct]] w fun e w' => ∃ v, e = .returned (.tuple #[v, .int .i64 (doE ⟨x, y⟩ 2 1 tx)]) ∧ RetL w' w.heap.size (doL ⟨x, y⟩ 2 1 tx) v ∧ Below w.heap.size w w' := by
  obtain ⟨E1, E2⟩ := doE_ok h h2 (by simpa [LV.of] using h3)
  obtain ⟨l1, l2, _, _, _, _⟩ := mayL_len h
  rw [E1, E2]
  clear E1 E2
  show Calls Try.prog 29 #[.agg #[.slice X x.t.length ca, .int .i64 x.k, .slice Y y.t.length cb, .int .i64 y.k], .agg #[.int .u8 2, .int .i64 1, .slice T tx.length ct]] w fun e w' => ∃ v, e = .returned (.tuple #[v, .int .i64 0]) ∧ RetL w' w.heap.size ⟨x, ⟨y.t ++ tx, y.k⟩⟩ v ∧ Below w.heap.size w w'
  have HX := Lib.hid (And.intro hX hY)
  clear hX hY
  have HT := Lib.hid hT
  clear hT
  have f1 : IntKind.i64.wrap ((y.t.length : Int) + (tx.length : Int)) = (y.t.length : Int) + (tx.length : Int) := IntWalk.i64_in _ (by omega)
  go_enter Try.func29, Try.ntmps29
  go_wp2_with fail
  refine (rMay x y X ca Y cb _).mono ?_
  rintro e w1 ⟨rfl, hB1⟩
  rw [h]
  have hL := ((Blk.new w 70 #[.slice X x.t.length ca, .int .i64 x.k, .slice Y y.t.length cb, .int .i64 y.k]).alloc (.cells #[.int .u8 2, .int .i64 1, .slice T tx.length ct] 72)).alloc (.cells #[.slice none 0 0, .int .i64 0, .slice none 0 0, .int .i64 0] 70) |>.below hB1 (by simp; omega)
  have hA := (blk1 w 72 #[.int .u8 2, .int .i64 1, .slice T tx.length ct] (o := .cells #[.slice X x.t.length ca, .int .i64 x.k, .slice Y y.t.length cb, .int .i64 y.k] 70)).alloc (.cells #[.slice none 0 0, .int .i64 0, .slice none 0 0, .int .i64 0] 70) |>.below hB1 (by simp)
  have hZ := (blk2 w 70 #[.slice none 0 0, .int .i64 0, .slice none 0 0, .int .i64 0] (o := .cells #[.slice X x.t.length ca, .int .i64 x.k, .slice Y y.t.length cb, .int .i64 y.k] 70) (o' := .cells #[.int .u8 2, .int .i64 1, .slice T tx.length ct] 72)).below hB1 (by simp)
  have hB := below_up (below_alloc (below_alloc (below_alloc (Below.refl _ _)))) hB1
  clear hB1
  have p0 : w1.cell? ⟨w.heap.size, 0, none⟩ = some (.slice X x.t.length ca) := hL.cell 0
  have p1 : w1.cell? ⟨w.heap.size, 1, none⟩ = some (.int .i64 x.k) := hL.cell 1
  have p2 : w1.cell? ⟨w.heap.size, 2, none⟩ = some (.slice Y y.t.length cb) := hL.cell 2
  have p3 : w1.cell? ⟨w.heap.size, 3, none⟩ = some (.int .i64 y.k) := hL.cell 3
  have q0 : w1.cell? ⟨w.heap.size + 1, 0, none⟩ = some (.int .u8 2) := hA.cell 0
  have q1 : w1.cell? ⟨w.heap.size + 1, 1, none⟩ = some (.int .i64 1) := hA.cell 1
  have q2 : w1.cell? ⟨w.heap.size + 1, 2, none⟩ = some (.slice T tx.length ct) := hA.cell 2
  have H1 := Lib.hid (And.intro hL (And.intro hA (And.intro hZ hB)))
  clear hL hA hZ hB
  go_wp2_with fail
  refine (rMayAct 2 1 T ct tx _).mono ?_
  rintro e w2 ⟨rfl, hB2⟩
  rw [h2]
  have hL := H1.out.1.below hB2 H1.out.1.lt
  have hA := H1.out.2.1.below hB2 H1.out.2.1.lt
  have hZ := H1.out.2.2.1.below hB2 H1.out.2.2.1.lt
  have hB := below_up H1.out.2.2.2 hB2
  clear hB2 H1 p0 p1 p2 p3 q0 q1 q2
  have p : w2.cell? ⟨w.heap.size, 2, none⟩ = some (.slice Y y.t.length cb) := hL.cell 2
  have q1 : w2.cell? ⟨w.heap.size + 1, 1, none⟩ = some (.int .i64 1) := hA.cell 1
  have q2 : w2.cell? ⟨w.heap.size + 1, 2, none⟩ = some (.slice T tx.length ct) := hA.cell 2
  go_wp2_with fail
  have kq0 := cell_regrown p
  have kq1 := cell_regrown q1
  have kq2 := cell_regrown q2
  refine wp_region_quiet_below (by kernel_rfl) (by kernel_rfl) ?_
  repeat (go_big_quiet_step (first | fail))
  refine wpQuiet_nil ?_
  intro _ hw'
  obtain ⟨⟨dq, osq⟩, hw''⟩ := hw'
  subst hw''
  have hBq := below_regrown w2 dq osq
  clear kq0 kq1 kq2
  generalize grow (redrawn w2 dq) osq = w3 at *
  have hL3 := hL.below hBq hL.lt
  have hA3 := hA.below hBq hA.lt
  have hZ3 := hZ.below hBq hZ.lt
  have hB3 := below_up hB hBq
  clear hBq hL hA hZ hB p q1 q2
  have p0 : w3.cell? ⟨w.heap.size, 0, none⟩ = some (.slice X x.t.length ca) := hL3.cell 0
  have p1 : w3.cell? ⟨w.heap.size, 1, none⟩ = some (.int .i64 x.k) := hL3.cell 1
  have p2 : w3.cell? ⟨w.heap.size, 2, none⟩ = some (.slice Y y.t.length cb) := hL3.cell 2
  have p3 : w3.cell? ⟨w.heap.size, 3, none⟩ = some (.int .i64 y.k) := hL3.cell 3
  have q0 : w3.cell? ⟨w.heap.size + 1, 0, none⟩ = some (.int .u8 2) := hA3.cell 0
  have q1 : w3.cell? ⟨w.heap.size + 1, 1, none⟩ = some (.int .i64 1) := hA3.cell 1
  have q2 : w3.cell? ⟨w.heap.size + 1, 2, none⟩ = some (.slice T tx.length ct) := hA3.cell 2
  have H3 := Lib.hid (And.intro hZ3 hB3)
  clear hL3 hA3 hZ3 hB3
  go_wp2_with fail
  refine (rDone21 x y X ca Y cb T ct tx l1 l2 (by omega) _ (HX.out.1.up H3.out.2) (HX.out.2.up H3.out.2) (HT.out.up H3.out.2)).mono ?_
  rintro e w4 ⟨v, rfl, hR, hB4⟩
  have hZ4 := H3.out.1.below hB4 H3.out.1.lt
  have hB5 := below_up H3.out.2 hB4
  obtain ⟨X7, n7, c7, k7, Y8, n8, c8, k8, rfl⟩ := hR.four
  have hs : w.heap.size + 1 + 1 < w3.heap.size := H3.out.1.lt
  have z0 : w4.cell? ⟨w.heap.size + 1 + 1, 0, none⟩ = some (.slice none 0 0) := hZ4.cell 0
  have z1 : w4.cell? ⟨w.heap.size + 1 + 1, 1, none⟩ = some (.int .i64 0) := hZ4.cell 1
  have z2 : w4.cell? ⟨w.heap.size + 1 + 1, 2, none⟩ = some (.slice none 0 0) := hZ4.cell 2
  have z3 : w4.cell? ⟨w.heap.size + 1 + 1, 3, none⟩ = some (.int .i64 0) := hZ4.cell 3
  have zf0 := hZ4.frozen 0
  have zf1 := hZ4.frozen 1
  have zf2 := hZ4.frozen 2
  have zf3 := hZ4.frozen 3
  have HH := Lib.hid (And.intro hZ4 (And.intro hB5 hR))
  have hs9 := H3.out.2.size
  clear hR hB4 hZ4 hB5 H3 p0 p1 p2 p3 q0 q1 q2
  go_wp2_with fail
  have hK4 := W4.blk HH.out.1 (.slice X7 n7 c7) (.int .i64 k7) (.slice Y8 n8 c8) (.int .i64 k8)
  have hB4 := W4.below (g := w.heap.size + 1 + 1) HH.out.2.1 (by omega) (.slice X7 n7 c7) (.int .i64 k7) (.slice Y8 n8 c8) (.int .i64 k8)
  have hR4 := RetL.w4 (g := w.heap.size + 1 + 1) HH.out.2.2 hs (.slice X7 n7 c7) (.int .i64 k7) (.slice Y8 n8 c8) (.int .i64 k8)
  clear HH z0 z1 z2 z3 zf0 zf1 zf2 zf3
  rw [show ((((w4.setCell ⟨w.heap.size + 1 + 1, 0, none⟩ (.slice X7 n7 c7)).setCell ⟨w.heap.size + 1 + 1, 1, none⟩ (.int .i64 k7)).setCell ⟨w.heap.size + 1 + 1, 2, none⟩ (.slice Y8 n8 c8)).setCell ⟨w.heap.size + 1 + 1, 3, none⟩ (.int .i64 k8)) = W4 w4 (w.heap.size + 1 + 1) (.slice X7 n7 c7) (.int .i64 k7) (.slice Y8 n8 c8) (.int .i64 k8) from rfl]
  generalize W4 w4 (w.heap.size + 1 + 1) (.slice X7 n7 c7) (.int .i64 k7) (.slice Y8 n8 c8) (.int .i64 k8) = w9 at *
  have c0 := hK4.cell 0
  have c1 := hK4.cell 1
  have c2 := hK4.cell 2
  have c3 := hK4.cell 3
  simp only [List.getElem?_toArray, List.getElem?_cons_zero, List.getElem?_cons_succ] at c0 c1 c2 c3
  exact bodyPost_ret (v := .tuple #[.agg #[.slice X7 n7 c7, .int .i64 k7, .slice Y8 n8 c8, .int .i64 k8], .int .i64 0]) (by simp [results, Try.results29, go_sem, c0, c1, c2, c3]) rfl ⟨_, rfl, hR4.less hs9, hB4⟩
set_option maxRecDepth 100000 in
set_option maxHeartbeats 4000000 in
theorem rDoOk31 (x y : AV) (X : Option Addr) (ca : Nat) (Y : Option Addr) (cb : Nat) (T : Option Addr) (ct : Nat) (tx : List Int) (h : mayL ⟨x, y⟩ = true) (h2 : mayAct 3 1 tx = true) (h3 : (y.t.length : Int) + (tx.length : Int) ≤ 262144) (w : World) (hX : TAt w X x.t) (hY : TAt w Y y.t) :
    Calls Try.prog 29 #[.agg #[.slice X x.t.length ca, .int .i64 x.k, .slice Y y.t.length cb, .int .i64 y.k], .agg #[.int .u8 3, .int .i64 1, .slice T tx.length ct]] w fun e w' => ∃ v, e = .returned (.tuple #[v, .int .i64 (doE ⟨x, y⟩ 3 1 tx)]) ∧ RetL w' w.heap.size (doL ⟨x, y⟩ 3 1 tx) v ∧ Below w.heap.size w w' := by
  obtain ⟨E1, E2⟩ := doE_ok h h2 (by simpa [LV.of] using h3)
  obtain ⟨l1, l2, _, _, _, _⟩ := mayL_len h
  rw [E1, E2]
  clear E1 E2
  show Calls Try.prog 29 #[.agg #[.slice X x.t.length ca, .int .i64 x.k, .slice Y y.t.length cb, .int .i64 y.k], .agg #[.int .u8 3, .int .i64 1, .slice T tx.length ct]] w fun e w' => ∃ v, e = .returned (.tuple #[v, .int .i64 0]) ∧ RetL w' w.heap.size ⟨x, ⟨y.t, (y.t.length : Int)⟩⟩ v ∧ Below w.heap.size w w'
  have HX := Lib.hid (And.intro hX hY)
  clear hX hY
  have f1 : IntKind.i64.wrap ((y.t.length : Int) + (tx.length : Int)) = (y.t.length : Int) + (tx.length : Int) := IntWalk.i64_in _ (by omega)
  go_enter Try.func29, Try.ntmps29
  go_wp2_with fail
  refine (rMay x y X ca Y cb _).mono ?_
  rintro e w1 ⟨rfl, hB1⟩
  rw [h]
  have hL := ((Blk.new w 70 #[.slice X x.t.length ca, .int .i64 x.k, .slice Y y.t.length cb, .int .i64 y.k]).alloc (.cells #[.int .u8 3, .int .i64 1, .slice T tx.length ct] 72)).alloc (.cells #[.slice none 0 0, .int .i64 0, .slice none 0 0, .int .i64 0] 70) |>.below hB1 (by simp; omega)
  have hA := (blk1 w 72 #[.int .u8 3, .int .i64 1, .slice T tx.length ct] (o := .cells #[.slice X x.t.length ca, .int .i64 x.k, .slice Y y.t.length cb, .int .i64 y.k] 70)).alloc (.cells #[.slice none 0 0, .int .i64 0, .slice none 0 0, .int .i64 0] 70) |>.below hB1 (by simp)
  have hZ := (blk2 w 70 #[.slice none 0 0, .int .i64 0, .slice none 0 0, .int .i64 0] (o := .cells #[.slice X x.t.length ca, .int .i64 x.k, .slice Y y.t.length cb, .int .i64 y.k] 70) (o' := .cells #[.int .u8 3, .int .i64 1, .slice T tx.length ct] 72)).below hB1 (by simp)
  have hB := below_up (below_alloc (below_alloc (below_alloc (Below.refl _ _)))) hB1
  clear hB1
  have p0 : w1.cell? ⟨w.heap.size, 0, none⟩ = some (.slice X x.t.length ca) := hL.cell 0
  have p1 : w1.cell? ⟨w.heap.size, 1, none⟩ = some (.int .i64 x.k) := hL.cell 1
  have p2 : w1.cell? ⟨w.heap.size, 2, none⟩ = some (.slice Y y.t.length cb) := hL.cell 2
  have p3 : w1.cell? ⟨w.heap.size, 3, none⟩ = some (.int .i64 y.k) := hL.cell 3
  have q0 : w1.cell? ⟨w.heap.size + 1, 0, none⟩ = some (.int .u8 3) := hA.cell 0
  have q1 : w1.cell? ⟨w.heap.size + 1, 1, none⟩ = some (.int .i64 1) := hA.cell 1
  have q2 : w1.cell? ⟨w.heap.size + 1, 2, none⟩ = some (.slice T tx.length ct) := hA.cell 2
  have H1 := Lib.hid (And.intro hL (And.intro hA (And.intro hZ hB)))
  clear hL hA hZ hB
  go_wp2_with fail
  refine (rMayAct 3 1 T ct tx _).mono ?_
  rintro e w2 ⟨rfl, hB2⟩
  rw [h2]
  have hL := H1.out.1.below hB2 H1.out.1.lt
  have hA := H1.out.2.1.below hB2 H1.out.2.1.lt
  have hZ := H1.out.2.2.1.below hB2 H1.out.2.2.1.lt
  have hB := below_up H1.out.2.2.2 hB2
  clear hB2 H1 p0 p1 p2 p3 q0 q1 q2
  have p : w2.cell? ⟨w.heap.size, 2, none⟩ = some (.slice Y y.t.length cb) := hL.cell 2
  have q1 : w2.cell? ⟨w.heap.size + 1, 1, none⟩ = some (.int .i64 1) := hA.cell 1
  have q2 : w2.cell? ⟨w.heap.size + 1, 2, none⟩ = some (.slice T tx.length ct) := hA.cell 2
  go_wp2_with fail
  have kq0 := cell_regrown p
  have kq1 := cell_regrown q1
  have kq2 := cell_regrown q2
  refine wp_region_quiet_below (by kernel_rfl) (by kernel_rfl) ?_
  repeat (go_big_quiet_step (first | fail))
  refine wpQuiet_nil ?_
  intro _ hw'
  obtain ⟨⟨dq, osq⟩, hw''⟩ := hw'
  subst hw''
  have hBq := below_regrown w2 dq osq
  clear kq0 kq1 kq2
  generalize grow (redrawn w2 dq) osq = w3 at *
  have hL3 := hL.below hBq hL.lt
  have hA3 := hA.below hBq hA.lt
  have hZ3 := hZ.below hBq hZ.lt
  have hB3 := below_up hB hBq
  clear hBq hL hA hZ hB p q1 q2
  have p0 : w3.cell? ⟨w.heap.size, 0, none⟩ = some (.slice X x.t.length ca) := hL3.cell 0
  have p1 : w3.cell? ⟨w.heap.size, 1, none⟩ = some (.int .i64 x.k) := hL3.cell 1
  have p2 : w3.cell? ⟨w.heap.size, 2, none⟩ = some (.slice Y y.t.length cb) := hL3.cell 2
  have p3 : w3.cell? ⟨w.heap.size, 3, none⟩ = some (.int .i64 y.k) := hL3.cell 3
  have q0 : w3.cell? ⟨w.heap.size + 1, 0, none⟩ = some (.int .u8 3) := hA3.cell 0
  have q1 : w3.cell? ⟨w.heap.size + 1, 1, none⟩ = some (.int .i64 1) := hA3.cell 1
  have q2 : w3.cell? ⟨w.heap.size + 1, 2, none⟩ = some (.slice T tx.length ct) := hA3.cell 2
  have H3 := Lib.hid (And.intro hZ3 hB3)
  clear hL3 hA3 hZ3 hB3
  go_wp2_with fail
  refine (rDone31 x y X ca Y cb T ct tx l1 l2 (by omega) _ (HX.out.1.up H3.out.2) (HX.out.2.up H3.out.2)).mono ?_
  rintro e w4 ⟨v, rfl, hR, hB4⟩
  have hZ4 := H3.out.1.below hB4 H3.out.1.lt
  have hB5 := below_up H3.out.2 hB4
  obtain ⟨X7, n7, c7, k7, Y8, n8, c8, k8, rfl⟩ := hR.four
  have hs : w.heap.size + 1 + 1 < w3.heap.size := H3.out.1.lt
  have z0 : w4.cell? ⟨w.heap.size + 1 + 1, 0, none⟩ = some (.slice none 0 0) := hZ4.cell 0
  have z1 : w4.cell? ⟨w.heap.size + 1 + 1, 1, none⟩ = some (.int .i64 0) := hZ4.cell 1
  have z2 : w4.cell? ⟨w.heap.size + 1 + 1, 2, none⟩ = some (.slice none 0 0) := hZ4.cell 2
  have z3 : w4.cell? ⟨w.heap.size + 1 + 1, 3, none⟩ = some (.int .i64 0) := hZ4.cell 3
  have zf0 := hZ4.frozen 0
  have zf1 := hZ4.frozen 1
  have zf2 := hZ4.frozen 2
  have zf3 := hZ4.frozen 3
  have HH := Lib.hid (And.intro hZ4 (And.intro hB5 hR))
  have hs9 := H3.out.2.size
  clear hR hB4 hZ4 hB5 H3 p0 p1 p2 p3 q0 q1 q2
  go_wp2_with fail
  have hK4 := W4.blk HH.out.1 (.slice X7 n7 c7) (.int .i64 k7) (.slice Y8 n8 c8) (.int .i64 k8)
  have hB4 := W4.below (g := w.heap.size + 1 + 1) HH.out.2.1 (by omega) (.slice X7 n7 c7) (.int .i64 k7) (.slice Y8 n8 c8) (.int .i64 k8)
  have hR4 := RetL.w4 (g := w.heap.size + 1 + 1) HH.out.2.2 hs (.slice X7 n7 c7) (.int .i64 k7) (.slice Y8 n8 c8) (.int .i64 k8)
  clear HH z0 z1 z2 z3 zf0 zf1 zf2 zf3
  rw [show ((((w4.setCell ⟨w.heap.size + 1 + 1, 0, none⟩ (.slice X7 n7 c7)).setCell ⟨w.heap.size + 1 + 1, 1, none⟩ (.int .i64 k7)).setCell ⟨w.heap.size + 1 + 1, 2, none⟩ (.slice Y8 n8 c8)).setCell ⟨w.heap.size + 1 + 1, 3, none⟩ (.int .i64 k8)) = W4 w4 (w.heap.size + 1 + 1) (.slice X7 n7 c7) (.int .i64 k7) (.slice Y8 n8 c8) (.int .i64 k8) from rfl]
  generalize W4 w4 (w.heap.size + 1 + 1) (.slice X7 n7 c7) (.int .i64 k7) (.slice Y8 n8 c8) (.int .i64 k8) = w9 at *
  have c0 := hK4.cell 0
  have c1 := hK4.cell 1
  have c2 := hK4.cell 2
  have c3 := hK4.cell 3
  simp only [List.getElem?_toArray, List.getElem?_cons_zero, List.getElem?_cons_succ] at c0 c1 c2 c3
  exact bodyPost_ret (v := .tuple #[.agg #[.slice X7 n7 c7, .int .i64 k7, .slice Y8 n8 c8, .int .i64 k8], .int .i64 0]) (by simp [results, Try.results29, go_sem, c0, c1, c2, c3]) rfl ⟨_, rfl, hR4.less hs9, hB4⟩
end Go.Proofs.Ytfdldbfjeamlcaa.LogRDo
