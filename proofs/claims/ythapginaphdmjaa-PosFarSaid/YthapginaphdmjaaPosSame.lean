/- The contracts of the reference's Of, Step and Far; program and document give one answer. -/
import Derived.Test.YthapginaphdmjaaPosRefFar
namespace Go.Proofs.Ythapginaphdmjaa.PosSame
open Go.RowKit Go.Shelf PosMath PosCheck PosMany Mem SeqKit PosSeq Round PosAt PosOf PosRef PosOn PosFar PosRefFar
set_option linter.unusedVariables false

theorem frz {w w1 : World} {t t' : TypeId} {cs cs' : Array Value} (h : Below ((w.alloc (.cells cs t)).alloc (.cells cs' t')).heap.size ((w.alloc (.cells cs t)).alloc (.cells cs' t')) w1) : Blk w1 (w.heap.size + 1) t' cs' := (blk1 w t' cs').below h (by simp)
theorem blk_up {w1 w2 : World} {g : Nat} {t : TypeId} {cs : Array Value} (h : Blk w1 g t cs) (hB : Below w1.heap.size w1 w2) : Blk w2 g t cs := h.below hB h.lt
set_option maxRecDepth 100000 in
set_option maxHeartbeats 2000000 in
theorem refof_bad (a b c m : Int) (h : ¬ May a b c) (w : World) :
    Calls Try.prog 14 #[.agg #[.int .i64 a, .int .i64 b, .int .i64 c], .int .i64 m] w fun e w' => e = .returned (.tuple #[.agg #[.int .i64 0, .int .i64 0, .int .i64 0], .int .i64 8]) ∧ Below w.heap.size w w' := by
  have HH := Lib.hid h
  clear h
  go_enter Try.func14, Try.ntmps14
  go_wp2_with fail
  refine (may_bad a b c HH.out _).mono ?_
  rintro e w1 ⟨rfl, hB1⟩
  have kd1 : Blk w1 w.heap.size 23 #[.int .i64 a, .int .i64 b, .int .i64 c] := ((Blk.new w _ _).alloc _).below hB1 (by simp; omega)
  have kp1 : Blk w1 (w.heap.size + 1) 22 #[.int .i64 0, .int .i64 0, .int .i64 0] := frz hB1
  have hb1 : Below w.heap.size w w1 := below_up (below_alloc (below_alloc (Below.refl _ _))) hB1
  have KD1 := Lib.hid kd1
  have KP1 := Lib.hid kp1
  have HB1 := Lib.hid hb1
  have c0 : w1.cell? ⟨w.heap.size, 0, none⟩ = some (.int .i64 a) := kd1.cell 0
  have c1 : w1.cell? ⟨w.heap.size, 1, none⟩ = some (.int .i64 b) := kd1.cell 1
  have c2 : w1.cell? ⟨w.heap.size, 2, none⟩ = some (.int .i64 c) := kd1.cell 2
  have m0 : w1.cell? ⟨w.heap.size + 1, 0, none⟩ = some (.int .i64 0) := kp1.cell 0
  have n0 : w1.frozen? ⟨w.heap.size + 1, 0, none⟩ = false := kp1.frozen 0
  have m1 : w1.cell? ⟨w.heap.size + 1, 1, none⟩ = some (.int .i64 0) := kp1.cell 1
  have n1 : w1.frozen? ⟨w.heap.size + 1, 1, none⟩ = false := kp1.frozen 1
  have m2 : w1.cell? ⟨w.heap.size + 1, 2, none⟩ = some (.int .i64 0) := kp1.cell 2
  have n2 : w1.frozen? ⟨w.heap.size + 1, 2, none⟩ = false := kp1.frozen 2
  clear hB1 kd1 kp1 hb1
  go_wp2_with fail
  have b2 := ((KP1.out.set_ 0 (.int .i64 0)).set_ 1 (.int .i64 0)).set_ 2 (.int .i64 0)
  have e0 := b2.cell 0
  have e1 := b2.cell 1
  have e2 := b2.cell 2
  simp at e0 e1 e2
  exact bodyPost_ret (v := .tuple #[.agg #[.int .i64 0, .int .i64 0, .int .i64 0], .int .i64 8]) (by simp [results, Try.results14, go_sem, e0, e1, e2]) rfl ⟨rfl, ((HB1.out.setCell (p := ⟨w.heap.size + 1, 0, none⟩) (by simp) _).setCell (p := ⟨w.heap.size + 1, 1, none⟩) (by simp) _).setCell (p := ⟨w.heap.size + 1, 2, none⟩) (by simp) _⟩
set_option maxRecDepth 100000 in
set_option maxHeartbeats 2000000 in
theorem refof_neg (a b c m : Int) (h : May a b c) (hm : m < 0) (w : World) :
    Calls Try.prog 14 #[.agg #[.int .i64 a, .int .i64 b, .int .i64 c], .int .i64 m] w fun e w' => e = .returned (.tuple #[.agg #[.int .i64 0, .int .i64 0, .int .i64 0], .int .i64 2]) ∧ Below w.heap.size w w' := by
  have HH := Lib.hid h
  clear h
  obtain ⟨N, hN⟩ : ∃ N, N = num a b c := ⟨_, rfl⟩
  have hcn : ∀ w', Calls Try.prog 24 #[.agg #[.int .i64 a, .int .i64 b, .int .i64 c]] w' fun e w'' => e = .returned (.int .i64 N) ∧ Below w'.heap.size w' w'' := by
    rw [hN]; exact refN_ok a b c HH.out
  have HC := Lib.hid hcn
  clear hcn
  go_enter Try.func14, Try.ntmps14
  go_wp2_with fail
  refine (may_ok a b c HH.out _).mono ?_
  rintro e w1 ⟨rfl, hB1⟩
  have kd1 : Blk w1 w.heap.size 23 #[.int .i64 a, .int .i64 b, .int .i64 c] := ((Blk.new w _ _).alloc _).below hB1 (by simp; omega)
  have kp1 : Blk w1 (w.heap.size + 1) 22 #[.int .i64 0, .int .i64 0, .int .i64 0] := frz hB1
  have hb1 : Below w.heap.size w w1 := below_up (below_alloc (below_alloc (Below.refl _ _))) hB1
  have KD1 := Lib.hid kd1
  have KP1 := Lib.hid kp1
  have HB1 := Lib.hid hb1
  have c0 : w1.cell? ⟨w.heap.size, 0, none⟩ = some (.int .i64 a) := kd1.cell 0
  have c1 : w1.cell? ⟨w.heap.size, 1, none⟩ = some (.int .i64 b) := kd1.cell 1
  have c2 : w1.cell? ⟨w.heap.size, 2, none⟩ = some (.int .i64 c) := kd1.cell 2
  have m0 : w1.cell? ⟨w.heap.size + 1, 0, none⟩ = some (.int .i64 0) := kp1.cell 0
  have n0 : w1.frozen? ⟨w.heap.size + 1, 0, none⟩ = false := kp1.frozen 0
  have m1 : w1.cell? ⟨w.heap.size + 1, 1, none⟩ = some (.int .i64 0) := kp1.cell 1
  have n1 : w1.frozen? ⟨w.heap.size + 1, 1, none⟩ = false := kp1.frozen 1
  have m2 : w1.cell? ⟨w.heap.size + 1, 2, none⟩ = some (.int .i64 0) := kp1.cell 2
  have n2 : w1.frozen? ⟨w.heap.size + 1, 2, none⟩ = false := kp1.frozen 2
  clear hB1 kd1 kp1 hb1
  go_wp2_with fail
  have b2 := ((KP1.out.set_ 0 (.int .i64 0)).set_ 1 (.int .i64 0)).set_ 2 (.int .i64 0)
  have e0 := b2.cell 0
  have e1 := b2.cell 1
  have e2 := b2.cell 2
  simp at e0 e1 e2
  exact bodyPost_ret (v := .tuple #[.agg #[.int .i64 0, .int .i64 0, .int .i64 0], .int .i64 2]) (by simp [results, Try.results14, go_sem, e0, e1, e2]) rfl ⟨rfl, ((HB1.out.setCell (p := ⟨w.heap.size + 1, 0, none⟩) (by simp) _).setCell (p := ⟨w.heap.size + 1, 1, none⟩) (by simp) _).setCell (p := ⟨w.heap.size + 1, 2, none⟩) (by simp) _⟩
set_option maxRecDepth 100000 in
set_option maxHeartbeats 2000000 in
theorem refof_big (a b c m : Int) (h : May a b c) (h0 : 0 ≤ m) (h1 : num a b c ≤ m) (w : World) :
    Calls Try.prog 14 #[.agg #[.int .i64 a, .int .i64 b, .int .i64 c], .int .i64 m] w fun e w' => e = .returned (.tuple #[.agg #[.int .i64 0, .int .i64 0, .int .i64 0], .int .i64 2]) ∧ Below w.heap.size w w' := by
  have HH := Lib.hid h
  clear h
  obtain ⟨N, hN⟩ : ∃ N, N = num a b c := ⟨_, rfl⟩
  have hcn : ∀ w', Calls Try.prog 24 #[.agg #[.int .i64 a, .int .i64 b, .int .i64 c]] w' fun e w'' => e = .returned (.int .i64 N) ∧ Below w'.heap.size w' w'' := by
    rw [hN]; exact refN_ok a b c HH.out
  have HC := Lib.hid hcn
  clear hcn
  rw [← hN] at h1
  clear hN
  go_enter Try.func14, Try.ntmps14
  go_wp2_with fail
  refine (may_ok a b c HH.out _).mono ?_
  rintro e w1 ⟨rfl, hB1⟩
  have kd1 : Blk w1 w.heap.size 23 #[.int .i64 a, .int .i64 b, .int .i64 c] := ((Blk.new w _ _).alloc _).below hB1 (by simp; omega)
  have kp1 : Blk w1 (w.heap.size + 1) 22 #[.int .i64 0, .int .i64 0, .int .i64 0] := frz hB1
  have hb1 : Below w.heap.size w w1 := below_up (below_alloc (below_alloc (Below.refl _ _))) hB1
  have KD1 := Lib.hid kd1
  have KP1 := Lib.hid kp1
  have HB1 := Lib.hid hb1
  have c0 : w1.cell? ⟨w.heap.size, 0, none⟩ = some (.int .i64 a) := kd1.cell 0
  have c1 : w1.cell? ⟨w.heap.size, 1, none⟩ = some (.int .i64 b) := kd1.cell 1
  have c2 : w1.cell? ⟨w.heap.size, 2, none⟩ = some (.int .i64 c) := kd1.cell 2
  have m0 : w1.cell? ⟨w.heap.size + 1, 0, none⟩ = some (.int .i64 0) := kp1.cell 0
  have n0 : w1.frozen? ⟨w.heap.size + 1, 0, none⟩ = false := kp1.frozen 0
  have m1 : w1.cell? ⟨w.heap.size + 1, 1, none⟩ = some (.int .i64 0) := kp1.cell 1
  have n1 : w1.frozen? ⟨w.heap.size + 1, 1, none⟩ = false := kp1.frozen 1
  have m2 : w1.cell? ⟨w.heap.size + 1, 2, none⟩ = some (.int .i64 0) := kp1.cell 2
  have n2 : w1.frozen? ⟨w.heap.size + 1, 2, none⟩ = false := kp1.frozen 2
  clear hB1 kd1 kp1 hb1
  go_wp2_with fail
  refine (HC.out _).mono ?_
  rintro e w2 ⟨rfl, hB2⟩
  have kd2 := blk_up KD1.out hB2
  have kp2 := blk_up KP1.out hB2
  have hb2 := below_up HB1.out hB2
  clear c0 c1 c2 m0 m1 m2 n0 n1 n2
  have KD2 := Lib.hid kd2
  have KP2 := Lib.hid kp2
  have HB2 := Lib.hid hb2
  have c0 : w2.cell? ⟨w.heap.size, 0, none⟩ = some (.int .i64 a) := kd2.cell 0
  have c1 : w2.cell? ⟨w.heap.size, 1, none⟩ = some (.int .i64 b) := kd2.cell 1
  have c2 : w2.cell? ⟨w.heap.size, 2, none⟩ = some (.int .i64 c) := kd2.cell 2
  have m0 : w2.cell? ⟨w.heap.size + 1, 0, none⟩ = some (.int .i64 0) := kp2.cell 0
  have n0 : w2.frozen? ⟨w.heap.size + 1, 0, none⟩ = false := kp2.frozen 0
  have m1 : w2.cell? ⟨w.heap.size + 1, 1, none⟩ = some (.int .i64 0) := kp2.cell 1
  have n1 : w2.frozen? ⟨w.heap.size + 1, 1, none⟩ = false := kp2.frozen 1
  have m2 : w2.cell? ⟨w.heap.size + 1, 2, none⟩ = some (.int .i64 0) := kp2.cell 2
  have n2 : w2.frozen? ⟨w.heap.size + 1, 2, none⟩ = false := kp2.frozen 2
  clear hB2 kd2 kp2 hb2
  go_wp2_with fail
  have b2 := ((KP2.out.set_ 0 (.int .i64 0)).set_ 1 (.int .i64 0)).set_ 2 (.int .i64 0)
  have e0 := b2.cell 0
  have e1 := b2.cell 1
  have e2 := b2.cell 2
  simp at e0 e1 e2
  exact bodyPost_ret (v := .tuple #[.agg #[.int .i64 0, .int .i64 0, .int .i64 0], .int .i64 2]) (by simp [results, Try.results14, go_sem, e0, e1, e2]) rfl ⟨rfl, ((HB2.out.setCell (p := ⟨w.heap.size + 1, 0, none⟩) (by simp) _).setCell (p := ⟨w.heap.size + 1, 1, none⟩) (by simp) _).setCell (p := ⟨w.heap.size + 1, 2, none⟩) (by simp) _⟩
set_option maxRecDepth 100000 in
set_option maxHeartbeats 2000000 in
theorem refof_ok (a b c m : Int) (h : May a b c) (h0 : 0 ≤ m) (h1 : m < num a b c) (w : World) :
    Calls Try.prog 14 #[.agg #[.int .i64 a, .int .i64 b, .int .i64 c], .int .i64 m] w fun e w' => e = .returned (.tuple #[.agg #[.int .i64 (cx a m), .int .i64 (cy a b m), .int .i64 (cz a b c m)], .int .i64 0]) ∧ Below w.heap.size w w' := by
  have HM := Lib.hid (And.intro h0 h1)
  have HH := Lib.hid h
  clear h
  obtain ⟨N, hN⟩ : ∃ N, N = num a b c := ⟨_, rfl⟩
  have hcn : ∀ w', Calls Try.prog 24 #[.agg #[.int .i64 a, .int .i64 b, .int .i64 c]] w' fun e w'' => e = .returned (.int .i64 N) ∧ Below w'.heap.size w' w'' := by
    rw [hN]; exact refN_ok a b c HH.out
  have HC := Lib.hid hcn
  clear hcn
  rw [← hN] at h1
  clear hN
  go_enter Try.func14, Try.ntmps14
  go_wp2_with fail
  refine (may_ok a b c HH.out _).mono ?_
  rintro e w1 ⟨rfl, hB1⟩
  have kd1 : Blk w1 w.heap.size 23 #[.int .i64 a, .int .i64 b, .int .i64 c] := ((Blk.new w _ _).alloc _).below hB1 (by simp; omega)
  have kp1 : Blk w1 (w.heap.size + 1) 22 #[.int .i64 0, .int .i64 0, .int .i64 0] := frz hB1
  have hb1 : Below w.heap.size w w1 := below_up (below_alloc (below_alloc (Below.refl _ _))) hB1
  have KD1 := Lib.hid kd1
  have KP1 := Lib.hid kp1
  have HB1 := Lib.hid hb1
  have c0 : w1.cell? ⟨w.heap.size, 0, none⟩ = some (.int .i64 a) := kd1.cell 0
  have c1 : w1.cell? ⟨w.heap.size, 1, none⟩ = some (.int .i64 b) := kd1.cell 1
  have c2 : w1.cell? ⟨w.heap.size, 2, none⟩ = some (.int .i64 c) := kd1.cell 2
  have m0 : w1.cell? ⟨w.heap.size + 1, 0, none⟩ = some (.int .i64 0) := kp1.cell 0
  have n0 : w1.frozen? ⟨w.heap.size + 1, 0, none⟩ = false := kp1.frozen 0
  have m1 : w1.cell? ⟨w.heap.size + 1, 1, none⟩ = some (.int .i64 0) := kp1.cell 1
  have n1 : w1.frozen? ⟨w.heap.size + 1, 1, none⟩ = false := kp1.frozen 1
  have m2 : w1.cell? ⟨w.heap.size + 1, 2, none⟩ = some (.int .i64 0) := kp1.cell 2
  have n2 : w1.frozen? ⟨w.heap.size + 1, 2, none⟩ = false := kp1.frozen 2
  clear hB1 kd1 kp1 hb1
  go_wp2_with fail
  refine (HC.out _).mono ?_
  rintro e w2 ⟨rfl, hB2⟩
  have kd2 := blk_up KD1.out hB2
  have kp2 := blk_up KP1.out hB2
  have hb2 := below_up HB1.out hB2
  clear c0 c1 c2 m0 m1 m2 n0 n1 n2
  have KD2 := Lib.hid kd2
  have KP2 := Lib.hid kp2
  have HB2 := Lib.hid hb2
  have c0 : w2.cell? ⟨w.heap.size, 0, none⟩ = some (.int .i64 a) := kd2.cell 0
  have c1 : w2.cell? ⟨w.heap.size, 1, none⟩ = some (.int .i64 b) := kd2.cell 1
  have c2 : w2.cell? ⟨w.heap.size, 2, none⟩ = some (.int .i64 c) := kd2.cell 2
  have m0 : w2.cell? ⟨w.heap.size + 1, 0, none⟩ = some (.int .i64 0) := kp2.cell 0
  have n0 : w2.frozen? ⟨w.heap.size + 1, 0, none⟩ = false := kp2.frozen 0
  have m1 : w2.cell? ⟨w.heap.size + 1, 1, none⟩ = some (.int .i64 0) := kp2.cell 1
  have n1 : w2.frozen? ⟨w.heap.size + 1, 1, none⟩ = false := kp2.frozen 1
  have m2 : w2.cell? ⟨w.heap.size + 1, 2, none⟩ = some (.int .i64 0) := kp2.cell 2
  have n2 : w2.frozen? ⟨w.heap.size + 1, 2, none⟩ = false := kp2.frozen 2
  clear hB2 kd2 kp2 hb2
  go_wp2_with fail
  refine (where_ok a b c m HH.out HM.out.1 HM.out.2 _).mono ?_
  rintro e w3 ⟨rfl, hB3⟩
  have kd3 := blk_up KD2.out hB3
  have kp3 := blk_up KP2.out hB3
  have hb3 := below_up HB2.out hB3
  clear c0 c1 c2 m0 m1 m2 n0 n1 n2
  have KD3 := Lib.hid kd3
  have KP3 := Lib.hid kp3
  have HB3 := Lib.hid hb3
  have c0 : w3.cell? ⟨w.heap.size, 0, none⟩ = some (.int .i64 a) := kd3.cell 0
  have c1 : w3.cell? ⟨w.heap.size, 1, none⟩ = some (.int .i64 b) := kd3.cell 1
  have c2 : w3.cell? ⟨w.heap.size, 2, none⟩ = some (.int .i64 c) := kd3.cell 2
  have m0 : w3.cell? ⟨w.heap.size + 1, 0, none⟩ = some (.int .i64 0) := kp3.cell 0
  have n0 : w3.frozen? ⟨w.heap.size + 1, 0, none⟩ = false := kp3.frozen 0
  have m1 : w3.cell? ⟨w.heap.size + 1, 1, none⟩ = some (.int .i64 0) := kp3.cell 1
  have n1 : w3.frozen? ⟨w.heap.size + 1, 1, none⟩ = false := kp3.frozen 1
  have m2 : w3.cell? ⟨w.heap.size + 1, 2, none⟩ = some (.int .i64 0) := kp3.cell 2
  have n2 : w3.frozen? ⟨w.heap.size + 1, 2, none⟩ = false := kp3.frozen 2
  clear hB3 kd3 kp3 hb3
  go_wp2_with fail
  have b2 := ((KP3.out.set_ 0 (.int .i64 (cx a m))).set_ 1 (.int .i64 (cy a b m))).set_ 2 (.int .i64 (cz a b c m))
  have e0 := b2.cell 0
  have e1 := b2.cell 1
  have e2 := b2.cell 2
  simp at e0 e1 e2
  exact bodyPost_ret (v := .tuple #[.agg #[.int .i64 (cx a m), .int .i64 (cy a b m), .int .i64 (cz a b c m)], .int .i64 0]) (by simp [results, Try.results14, go_sem, e0, e1, e2]) rfl ⟨rfl, ((HB3.out.setCell (p := ⟨w.heap.size + 1, 0, none⟩) (by simp) _).setCell (p := ⟨w.heap.size + 1, 1, none⟩) (by simp) _).setCell (p := ⟨w.heap.size + 1, 2, none⟩) (by simp) _⟩
set_option maxRecDepth 100000 in
set_option maxHeartbeats 2000000 in
theorem refstep_bad (a b c m ax by_ : Int) (h : ¬ May a b c) (w : World) :
    Calls Try.prog 21 #[.agg #[.int .i64 a, .int .i64 b, .int .i64 c], .int .i64 m, .int .i64 ax, .int .i64 by_] w fun e w' => e = .returned (.tuple #[.int .i64 0, .int .i64 8]) ∧ Below w.heap.size w w' := by
  have HH := Lib.hid h
  clear h
  go_enter Try.func21, Try.ntmps21
  go_wp2_with fail
  refine (may_bad a b c HH.out _).mono ?_
  rintro e w1 ⟨rfl, hB1⟩
  have HB1 : Hid (Below w.heap.size w w1) := below_up (below_alloc (Below.refl _ _)) hB1
  have c1_0 : w1.cell? ⟨w.heap.size, 0, none⟩ = some (.int .i64 a) := keep_cell (box0 w 23 #[.int .i64 a, .int .i64 b, .int .i64 c] 0) hB1
  have c1_1 : w1.cell? ⟨w.heap.size, 1, none⟩ = some (.int .i64 b) := keep_cell (box0 w 23 #[.int .i64 a, .int .i64 b, .int .i64 c] 1) hB1
  have c1_2 : w1.cell? ⟨w.heap.size, 2, none⟩ = some (.int .i64 c) := keep_cell (box0 w 23 #[.int .i64 a, .int .i64 b, .int .i64 c] 2) hB1
  have z1_0 : w.heap.size < w1.heap.size := cell_lt c1_0
  clear hB1  
  go_wp2_with fail
  go_ret2
  exact ⟨rfl, HB1.out⟩
set_option maxRecDepth 100000 in
set_option maxHeartbeats 2000000 in
theorem refstep_neg (a b c m ax by_ : Int) (h : May a b c) (hm : m < 0) (w : World) :
    Calls Try.prog 21 #[.agg #[.int .i64 a, .int .i64 b, .int .i64 c], .int .i64 m, .int .i64 ax, .int .i64 by_] w fun e w' => e = .returned (.tuple #[.int .i64 0, .int .i64 2]) ∧ Below w.heap.size w w' := by
  have HH := Lib.hid h
  clear h
  obtain ⟨N, hN⟩ : ∃ N, N = num a b c := ⟨_, rfl⟩
  have hcn : ∀ w', Calls Try.prog 24 #[.agg #[.int .i64 a, .int .i64 b, .int .i64 c]] w' fun e w'' => e = .returned (.int .i64 N) ∧ Below w'.heap.size w' w'' := by
    rw [hN]; exact refN_ok a b c HH.out
  have HC := Lib.hid hcn
  clear hcn
  clear hN
  go_enter Try.func21, Try.ntmps21
  go_wp2_with fail
  refine (may_ok a b c HH.out _).mono ?_
  rintro e w1 ⟨rfl, hB1⟩
  have HB1 : Hid (Below w.heap.size w w1) := below_up (below_alloc (Below.refl _ _)) hB1
  have c1_0 : w1.cell? ⟨w.heap.size, 0, none⟩ = some (.int .i64 a) := keep_cell (box0 w 23 #[.int .i64 a, .int .i64 b, .int .i64 c] 0) hB1
  have c1_1 : w1.cell? ⟨w.heap.size, 1, none⟩ = some (.int .i64 b) := keep_cell (box0 w 23 #[.int .i64 a, .int .i64 b, .int .i64 c] 1) hB1
  have c1_2 : w1.cell? ⟨w.heap.size, 2, none⟩ = some (.int .i64 c) := keep_cell (box0 w 23 #[.int .i64 a, .int .i64 b, .int .i64 c] 2) hB1
  have z1_0 : w.heap.size < w1.heap.size := cell_lt c1_0
  clear hB1  
  go_wp2_with fail
  go_ret2
  exact ⟨rfl, HB1.out⟩
set_option maxRecDepth 100000 in
set_option maxHeartbeats 2000000 in
theorem refstep_big (a b c m ax by_ : Int) (h : May a b c) (h0 : 0 ≤ m) (h1 : num a b c ≤ m) (w : World) :
    Calls Try.prog 21 #[.agg #[.int .i64 a, .int .i64 b, .int .i64 c], .int .i64 m, .int .i64 ax, .int .i64 by_] w fun e w' => e = .returned (.tuple #[.int .i64 0, .int .i64 2]) ∧ Below w.heap.size w w' := by
  have HH := Lib.hid h
  clear h
  obtain ⟨N, hN⟩ : ∃ N, N = num a b c := ⟨_, rfl⟩
  have hcn : ∀ w', Calls Try.prog 24 #[.agg #[.int .i64 a, .int .i64 b, .int .i64 c]] w' fun e w'' => e = .returned (.int .i64 N) ∧ Below w'.heap.size w' w'' := by
    rw [hN]; exact refN_ok a b c HH.out
  have HC := Lib.hid hcn
  clear hcn
  rw [← hN] at h1
  clear hN
  go_enter Try.func21, Try.ntmps21
  go_wp2_with fail
  refine (may_ok a b c HH.out _).mono ?_
  rintro e w1 ⟨rfl, hB1⟩
  have HB1 : Hid (Below w.heap.size w w1) := below_up (below_alloc (Below.refl _ _)) hB1
  have c1_0 : w1.cell? ⟨w.heap.size, 0, none⟩ = some (.int .i64 a) := keep_cell (box0 w 23 #[.int .i64 a, .int .i64 b, .int .i64 c] 0) hB1
  have c1_1 : w1.cell? ⟨w.heap.size, 1, none⟩ = some (.int .i64 b) := keep_cell (box0 w 23 #[.int .i64 a, .int .i64 b, .int .i64 c] 1) hB1
  have c1_2 : w1.cell? ⟨w.heap.size, 2, none⟩ = some (.int .i64 c) := keep_cell (box0 w 23 #[.int .i64 a, .int .i64 b, .int .i64 c] 2) hB1
  have z1_0 : w.heap.size < w1.heap.size := cell_lt c1_0
  clear hB1  
  go_wp2_with fail
  refine (HC.out _).mono ?_
  rintro e w2 ⟨rfl, hB2⟩
  have HB2 : Hid (Below w.heap.size w w2) := below_up HB1.out hB2
  have c2_0 : w2.cell? ⟨w.heap.size, 0, none⟩ = some (.int .i64 a) := keep_cell c1_0 hB2
  have c2_1 : w2.cell? ⟨w.heap.size, 1, none⟩ = some (.int .i64 b) := keep_cell c1_1 hB2
  have c2_2 : w2.cell? ⟨w.heap.size, 2, none⟩ = some (.int .i64 c) := keep_cell c1_2 hB2
  have z2_0 : w.heap.size < w2.heap.size := cell_lt c2_0
  clear hB2 c1_0 c1_1 c1_2 z1_0
  go_wp2_with fail
  go_ret2
  exact ⟨rfl, HB2.out⟩
set_option maxRecDepth 100000 in
set_option maxHeartbeats 2000000 in
theorem refstep_axneg (a b c m ax by_ : Int) (h : May a b c) (h0 : 0 ≤ m) (h1 : m < num a b c) (hx : ax < 0) (w : World) :
    Calls Try.prog 21 #[.agg #[.int .i64 a, .int .i64 b, .int .i64 c], .int .i64 m, .int .i64 ax, .int .i64 by_] w fun e w' => e = .returned (.tuple #[.int .i64 0, .int .i64 2]) ∧ Below w.heap.size w w' := by
  have HH := Lib.hid h
  clear h
  obtain ⟨N, hN⟩ : ∃ N, N = num a b c := ⟨_, rfl⟩
  have hcn : ∀ w', Calls Try.prog 24 #[.agg #[.int .i64 a, .int .i64 b, .int .i64 c]] w' fun e w'' => e = .returned (.int .i64 N) ∧ Below w'.heap.size w' w'' := by
    rw [hN]; exact refN_ok a b c HH.out
  have HC := Lib.hid hcn
  clear hcn
  rw [← hN] at h1
  clear hN
  go_enter Try.func21, Try.ntmps21
  go_wp2_with fail
  refine (may_ok a b c HH.out _).mono ?_
  rintro e w1 ⟨rfl, hB1⟩
  have HB1 : Hid (Below w.heap.size w w1) := below_up (below_alloc (Below.refl _ _)) hB1
  have c1_0 : w1.cell? ⟨w.heap.size, 0, none⟩ = some (.int .i64 a) := keep_cell (box0 w 23 #[.int .i64 a, .int .i64 b, .int .i64 c] 0) hB1
  have c1_1 : w1.cell? ⟨w.heap.size, 1, none⟩ = some (.int .i64 b) := keep_cell (box0 w 23 #[.int .i64 a, .int .i64 b, .int .i64 c] 1) hB1
  have c1_2 : w1.cell? ⟨w.heap.size, 2, none⟩ = some (.int .i64 c) := keep_cell (box0 w 23 #[.int .i64 a, .int .i64 b, .int .i64 c] 2) hB1
  have z1_0 : w.heap.size < w1.heap.size := cell_lt c1_0
  clear hB1  
  go_wp2_with fail
  refine (HC.out _).mono ?_
  rintro e w2 ⟨rfl, hB2⟩
  have HB2 : Hid (Below w.heap.size w w2) := below_up HB1.out hB2
  have c2_0 : w2.cell? ⟨w.heap.size, 0, none⟩ = some (.int .i64 a) := keep_cell c1_0 hB2
  have c2_1 : w2.cell? ⟨w.heap.size, 1, none⟩ = some (.int .i64 b) := keep_cell c1_1 hB2
  have c2_2 : w2.cell? ⟨w.heap.size, 2, none⟩ = some (.int .i64 c) := keep_cell c1_2 hB2
  have z2_0 : w.heap.size < w2.heap.size := cell_lt c2_0
  clear hB2 c1_0 c1_1 c1_2 z1_0
  go_wp2_with fail
  go_ret2
  exact ⟨rfl, HB2.out⟩
set_option maxRecDepth 100000 in
set_option maxHeartbeats 2000000 in
theorem refstep_axbig (a b c m ax by_ : Int) (h : May a b c) (h0 : 0 ≤ m) (h1 : m < num a b c) (hx : 2 < ax) (w : World) :
    Calls Try.prog 21 #[.agg #[.int .i64 a, .int .i64 b, .int .i64 c], .int .i64 m, .int .i64 ax, .int .i64 by_] w fun e w' => e = .returned (.tuple #[.int .i64 0, .int .i64 2]) ∧ Below w.heap.size w w' := by
  have HH := Lib.hid h
  clear h
  obtain ⟨N, hN⟩ : ∃ N, N = num a b c := ⟨_, rfl⟩
  have hcn : ∀ w', Calls Try.prog 24 #[.agg #[.int .i64 a, .int .i64 b, .int .i64 c]] w' fun e w'' => e = .returned (.int .i64 N) ∧ Below w'.heap.size w' w'' := by
    rw [hN]; exact refN_ok a b c HH.out
  have HC := Lib.hid hcn
  clear hcn
  rw [← hN] at h1
  clear hN
  have hx0 : ¬ ax < 0 := by omega
  go_enter Try.func21, Try.ntmps21
  go_wp2_with fail
  refine (may_ok a b c HH.out _).mono ?_
  rintro e w1 ⟨rfl, hB1⟩
  have HB1 : Hid (Below w.heap.size w w1) := below_up (below_alloc (Below.refl _ _)) hB1
  have c1_0 : w1.cell? ⟨w.heap.size, 0, none⟩ = some (.int .i64 a) := keep_cell (box0 w 23 #[.int .i64 a, .int .i64 b, .int .i64 c] 0) hB1
  have c1_1 : w1.cell? ⟨w.heap.size, 1, none⟩ = some (.int .i64 b) := keep_cell (box0 w 23 #[.int .i64 a, .int .i64 b, .int .i64 c] 1) hB1
  have c1_2 : w1.cell? ⟨w.heap.size, 2, none⟩ = some (.int .i64 c) := keep_cell (box0 w 23 #[.int .i64 a, .int .i64 b, .int .i64 c] 2) hB1
  have z1_0 : w.heap.size < w1.heap.size := cell_lt c1_0
  clear hB1  
  go_wp2_with fail
  refine (HC.out _).mono ?_
  rintro e w2 ⟨rfl, hB2⟩
  have HB2 : Hid (Below w.heap.size w w2) := below_up HB1.out hB2
  have c2_0 : w2.cell? ⟨w.heap.size, 0, none⟩ = some (.int .i64 a) := keep_cell c1_0 hB2
  have c2_1 : w2.cell? ⟨w.heap.size, 1, none⟩ = some (.int .i64 b) := keep_cell c1_1 hB2
  have c2_2 : w2.cell? ⟨w.heap.size, 2, none⟩ = some (.int .i64 c) := keep_cell c1_2 hB2
  have z2_0 : w.heap.size < w2.heap.size := cell_lt c2_0
  clear hB2 c1_0 c1_1 c1_2 z1_0
  go_wp2_with fail
  go_ret2
  exact ⟨rfl, HB2.out⟩
set_option maxRecDepth 100000 in
set_option maxHeartbeats 2000000 in
theorem refstep0 (a b c m by_ : Int) (h : May a b c) (h0 : 0 ≤ m) (h1 : m < num a b c) (w : World) :
    Calls Try.prog 21 #[.agg #[.int .i64 a, .int .i64 b, .int .i64 c], .int .i64 m, .int .i64 0, .int .i64 by_] w fun e w' => e = .returned (.tuple #[.int .i64 (onR a b c m none by_), .int .i64 0]) ∧ Below w.heap.size w w' := by
  have HM := Lib.hid (And.intro h0 h1)
  have HH := Lib.hid h
  clear h
  obtain ⟨N, hN⟩ : ∃ N, N = num a b c := ⟨_, rfl⟩
  have hcn : ∀ w', Calls Try.prog 24 #[.agg #[.int .i64 a, .int .i64 b, .int .i64 c]] w' fun e w'' => e = .returned (.int .i64 N) ∧ Below w'.heap.size w' w'' := by
    rw [hN]; exact refN_ok a b c HH.out
  have HC := Lib.hid hcn
  clear hcn
  rw [← hN] at h1
  clear hN
  go_enter Try.func21, Try.ntmps21
  go_wp2_with fail
  refine (may_ok a b c HH.out _).mono ?_
  rintro e w1 ⟨rfl, hB1⟩
  have HB1 : Hid (Below w.heap.size w w1) := below_up (below_alloc (Below.refl _ _)) hB1
  have c1_0 : w1.cell? ⟨w.heap.size, 0, none⟩ = some (.int .i64 a) := keep_cell (box0 w 23 #[.int .i64 a, .int .i64 b, .int .i64 c] 0) hB1
  have c1_1 : w1.cell? ⟨w.heap.size, 1, none⟩ = some (.int .i64 b) := keep_cell (box0 w 23 #[.int .i64 a, .int .i64 b, .int .i64 c] 1) hB1
  have c1_2 : w1.cell? ⟨w.heap.size, 2, none⟩ = some (.int .i64 c) := keep_cell (box0 w 23 #[.int .i64 a, .int .i64 b, .int .i64 c] 2) hB1
  have z1_0 : w.heap.size < w1.heap.size := cell_lt c1_0
  clear hB1  
  go_wp2_with fail
  refine (HC.out _).mono ?_
  rintro e w2 ⟨rfl, hB2⟩
  have HB2 : Hid (Below w.heap.size w w2) := below_up HB1.out hB2
  have c2_0 : w2.cell? ⟨w.heap.size, 0, none⟩ = some (.int .i64 a) := keep_cell c1_0 hB2
  have c2_1 : w2.cell? ⟨w.heap.size, 1, none⟩ = some (.int .i64 b) := keep_cell c1_1 hB2
  have c2_2 : w2.cell? ⟨w.heap.size, 2, none⟩ = some (.int .i64 c) := keep_cell c1_2 hB2
  have z2_0 : w.heap.size < w2.heap.size := cell_lt c2_0
  clear hB2 c1_0 c1_1 c1_2 z1_0
  go_wp2_with fail
  refine (on0 a b c m by_ HH.out HM.out.1 HM.out.2 _).mono ?_
  rintro e w3 ⟨rfl, hB3⟩
  have HB3 : Hid (Below w.heap.size w w3) := below_up HB2.out hB3
  have c3_0 : w3.cell? ⟨w.heap.size, 0, none⟩ = some (.int .i64 a) := keep_cell c2_0 hB3
  have c3_1 : w3.cell? ⟨w.heap.size, 1, none⟩ = some (.int .i64 b) := keep_cell c2_1 hB3
  have c3_2 : w3.cell? ⟨w.heap.size, 2, none⟩ = some (.int .i64 c) := keep_cell c2_2 hB3
  have z3_0 : w.heap.size < w3.heap.size := cell_lt c3_0
  clear hB3 c2_0 c2_1 c2_2 z2_0
  go_wp2_with fail
  go_ret2
  exact ⟨rfl, HB3.out⟩
set_option maxRecDepth 100000 in
set_option maxHeartbeats 2000000 in
theorem refstep1 (a b c m by_ : Int) (h : May a b c) (h0 : 0 ≤ m) (h1 : m < num a b c) (w : World) :
    Calls Try.prog 21 #[.agg #[.int .i64 a, .int .i64 b, .int .i64 c], .int .i64 m, .int .i64 1, .int .i64 by_] w fun e w' => e = .returned (.tuple #[.int .i64 (onR a b c m (some false) by_), .int .i64 0]) ∧ Below w.heap.size w w' := by
  have HM := Lib.hid (And.intro h0 h1)
  have HH := Lib.hid h
  clear h
  obtain ⟨N, hN⟩ : ∃ N, N = num a b c := ⟨_, rfl⟩
  have hcn : ∀ w', Calls Try.prog 24 #[.agg #[.int .i64 a, .int .i64 b, .int .i64 c]] w' fun e w'' => e = .returned (.int .i64 N) ∧ Below w'.heap.size w' w'' := by
    rw [hN]; exact refN_ok a b c HH.out
  have HC := Lib.hid hcn
  clear hcn
  rw [← hN] at h1
  clear hN
  go_enter Try.func21, Try.ntmps21
  go_wp2_with fail
  refine (may_ok a b c HH.out _).mono ?_
  rintro e w1 ⟨rfl, hB1⟩
  have HB1 : Hid (Below w.heap.size w w1) := below_up (below_alloc (Below.refl _ _)) hB1
  have c1_0 : w1.cell? ⟨w.heap.size, 0, none⟩ = some (.int .i64 a) := keep_cell (box0 w 23 #[.int .i64 a, .int .i64 b, .int .i64 c] 0) hB1
  have c1_1 : w1.cell? ⟨w.heap.size, 1, none⟩ = some (.int .i64 b) := keep_cell (box0 w 23 #[.int .i64 a, .int .i64 b, .int .i64 c] 1) hB1
  have c1_2 : w1.cell? ⟨w.heap.size, 2, none⟩ = some (.int .i64 c) := keep_cell (box0 w 23 #[.int .i64 a, .int .i64 b, .int .i64 c] 2) hB1
  have z1_0 : w.heap.size < w1.heap.size := cell_lt c1_0
  clear hB1  
  go_wp2_with fail
  refine (HC.out _).mono ?_
  rintro e w2 ⟨rfl, hB2⟩
  have HB2 : Hid (Below w.heap.size w w2) := below_up HB1.out hB2
  have c2_0 : w2.cell? ⟨w.heap.size, 0, none⟩ = some (.int .i64 a) := keep_cell c1_0 hB2
  have c2_1 : w2.cell? ⟨w.heap.size, 1, none⟩ = some (.int .i64 b) := keep_cell c1_1 hB2
  have c2_2 : w2.cell? ⟨w.heap.size, 2, none⟩ = some (.int .i64 c) := keep_cell c1_2 hB2
  have z2_0 : w.heap.size < w2.heap.size := cell_lt c2_0
  clear hB2 c1_0 c1_1 c1_2 z1_0
  go_wp2_with fail
  refine (on1 a b c m by_ HH.out HM.out.1 HM.out.2 _).mono ?_
  rintro e w3 ⟨rfl, hB3⟩
  have HB3 : Hid (Below w.heap.size w w3) := below_up HB2.out hB3
  have c3_0 : w3.cell? ⟨w.heap.size, 0, none⟩ = some (.int .i64 a) := keep_cell c2_0 hB3
  have c3_1 : w3.cell? ⟨w.heap.size, 1, none⟩ = some (.int .i64 b) := keep_cell c2_1 hB3
  have c3_2 : w3.cell? ⟨w.heap.size, 2, none⟩ = some (.int .i64 c) := keep_cell c2_2 hB3
  have z3_0 : w.heap.size < w3.heap.size := cell_lt c3_0
  clear hB3 c2_0 c2_1 c2_2 z2_0
  go_wp2_with fail
  go_ret2
  exact ⟨rfl, HB3.out⟩
set_option maxRecDepth 100000 in
set_option maxHeartbeats 2000000 in
theorem refstep2 (a b c m by_ : Int) (h : May a b c) (h0 : 0 ≤ m) (h1 : m < num a b c) (w : World) :
    Calls Try.prog 21 #[.agg #[.int .i64 a, .int .i64 b, .int .i64 c], .int .i64 m, .int .i64 2, .int .i64 by_] w fun e w' => e = .returned (.tuple #[.int .i64 (onR a b c m (some true) by_), .int .i64 0]) ∧ Below w.heap.size w w' := by
  have HM := Lib.hid (And.intro h0 h1)
  have HH := Lib.hid h
  clear h
  obtain ⟨N, hN⟩ : ∃ N, N = num a b c := ⟨_, rfl⟩
  have hcn : ∀ w', Calls Try.prog 24 #[.agg #[.int .i64 a, .int .i64 b, .int .i64 c]] w' fun e w'' => e = .returned (.int .i64 N) ∧ Below w'.heap.size w' w'' := by
    rw [hN]; exact refN_ok a b c HH.out
  have HC := Lib.hid hcn
  clear hcn
  rw [← hN] at h1
  clear hN
  go_enter Try.func21, Try.ntmps21
  go_wp2_with fail
  refine (may_ok a b c HH.out _).mono ?_
  rintro e w1 ⟨rfl, hB1⟩
  have HB1 : Hid (Below w.heap.size w w1) := below_up (below_alloc (Below.refl _ _)) hB1
  have c1_0 : w1.cell? ⟨w.heap.size, 0, none⟩ = some (.int .i64 a) := keep_cell (box0 w 23 #[.int .i64 a, .int .i64 b, .int .i64 c] 0) hB1
  have c1_1 : w1.cell? ⟨w.heap.size, 1, none⟩ = some (.int .i64 b) := keep_cell (box0 w 23 #[.int .i64 a, .int .i64 b, .int .i64 c] 1) hB1
  have c1_2 : w1.cell? ⟨w.heap.size, 2, none⟩ = some (.int .i64 c) := keep_cell (box0 w 23 #[.int .i64 a, .int .i64 b, .int .i64 c] 2) hB1
  have z1_0 : w.heap.size < w1.heap.size := cell_lt c1_0
  clear hB1  
  go_wp2_with fail
  refine (HC.out _).mono ?_
  rintro e w2 ⟨rfl, hB2⟩
  have HB2 : Hid (Below w.heap.size w w2) := below_up HB1.out hB2
  have c2_0 : w2.cell? ⟨w.heap.size, 0, none⟩ = some (.int .i64 a) := keep_cell c1_0 hB2
  have c2_1 : w2.cell? ⟨w.heap.size, 1, none⟩ = some (.int .i64 b) := keep_cell c1_1 hB2
  have c2_2 : w2.cell? ⟨w.heap.size, 2, none⟩ = some (.int .i64 c) := keep_cell c1_2 hB2
  have z2_0 : w.heap.size < w2.heap.size := cell_lt c2_0
  clear hB2 c1_0 c1_1 c1_2 z1_0
  go_wp2_with fail
  refine (on2 a b c m by_ HH.out HM.out.1 HM.out.2 _).mono ?_
  rintro e w3 ⟨rfl, hB3⟩
  have HB3 : Hid (Below w.heap.size w w3) := below_up HB2.out hB3
  have c3_0 : w3.cell? ⟨w.heap.size, 0, none⟩ = some (.int .i64 a) := keep_cell c2_0 hB3
  have c3_1 : w3.cell? ⟨w.heap.size, 1, none⟩ = some (.int .i64 b) := keep_cell c2_1 hB3
  have c3_2 : w3.cell? ⟨w.heap.size, 2, none⟩ = some (.int .i64 c) := keep_cell c2_2 hB3
  have z3_0 : w.heap.size < w3.heap.size := cell_lt c3_0
  clear hB3 c2_0 c2_1 c2_2 z2_0
  go_wp2_with fail
  go_ret2
  exact ⟨rfl, HB3.out⟩
set_option maxRecDepth 100000 in
set_option maxHeartbeats 2000000 in
theorem refar_bad (a b c m n : Int) (h : ¬ May a b c) (w : World) :
    Calls Try.prog 22 #[.agg #[.int .i64 a, .int .i64 b, .int .i64 c], .int .i64 m, .int .i64 n] w fun e w' => e = .returned (.tuple #[.int .i64 0, .int .i64 8]) ∧ Below w.heap.size w w' := by
  have HH := Lib.hid h
  clear h
  go_enter Try.func22, Try.ntmps22
  go_wp2_with fail
  refine (may_bad a b c HH.out _).mono ?_
  rintro e w1 ⟨rfl, hB1⟩
  have HB1 : Hid (Below w.heap.size w w1) := below_up (below_alloc (Below.refl _ _)) hB1
  have c1_0 : w1.cell? ⟨w.heap.size, 0, none⟩ = some (.int .i64 a) := keep_cell (box0 w 23 #[.int .i64 a, .int .i64 b, .int .i64 c] 0) hB1
  have c1_1 : w1.cell? ⟨w.heap.size, 1, none⟩ = some (.int .i64 b) := keep_cell (box0 w 23 #[.int .i64 a, .int .i64 b, .int .i64 c] 1) hB1
  have c1_2 : w1.cell? ⟨w.heap.size, 2, none⟩ = some (.int .i64 c) := keep_cell (box0 w 23 #[.int .i64 a, .int .i64 b, .int .i64 c] 2) hB1
  have z1_0 : w.heap.size < w1.heap.size := cell_lt c1_0
  clear hB1  
  go_wp2_with fail
  go_ret2
  exact ⟨rfl, HB1.out⟩
set_option maxRecDepth 100000 in
set_option maxHeartbeats 2000000 in
theorem refar_neg (a b c m n : Int) (h : May a b c) (hm : m < 0) (w : World) :
    Calls Try.prog 22 #[.agg #[.int .i64 a, .int .i64 b, .int .i64 c], .int .i64 m, .int .i64 n] w fun e w' => e = .returned (.tuple #[.int .i64 0, .int .i64 2]) ∧ Below w.heap.size w w' := by
  have HH := Lib.hid h
  clear h
  obtain ⟨N, hN⟩ : ∃ N, N = num a b c := ⟨_, rfl⟩
  have hcn : ∀ w', Calls Try.prog 24 #[.agg #[.int .i64 a, .int .i64 b, .int .i64 c]] w' fun e w'' => e = .returned (.int .i64 N) ∧ Below w'.heap.size w' w'' := by
    rw [hN]; exact refN_ok a b c HH.out
  have HC := Lib.hid hcn
  clear hcn
  clear hN
  go_enter Try.func22, Try.ntmps22
  go_wp2_with fail
  refine (may_ok a b c HH.out _).mono ?_
  rintro e w1 ⟨rfl, hB1⟩
  have HB1 : Hid (Below w.heap.size w w1) := below_up (below_alloc (Below.refl _ _)) hB1
  have c1_0 : w1.cell? ⟨w.heap.size, 0, none⟩ = some (.int .i64 a) := keep_cell (box0 w 23 #[.int .i64 a, .int .i64 b, .int .i64 c] 0) hB1
  have c1_1 : w1.cell? ⟨w.heap.size, 1, none⟩ = some (.int .i64 b) := keep_cell (box0 w 23 #[.int .i64 a, .int .i64 b, .int .i64 c] 1) hB1
  have c1_2 : w1.cell? ⟨w.heap.size, 2, none⟩ = some (.int .i64 c) := keep_cell (box0 w 23 #[.int .i64 a, .int .i64 b, .int .i64 c] 2) hB1
  have z1_0 : w.heap.size < w1.heap.size := cell_lt c1_0
  clear hB1  
  go_wp2_with fail
  go_ret2
  exact ⟨rfl, HB1.out⟩
set_option maxRecDepth 100000 in
set_option maxHeartbeats 2000000 in
theorem refar_big (a b c m n : Int) (h : May a b c) (h0 : 0 ≤ m) (h1 : num a b c ≤ m) (w : World) :
    Calls Try.prog 22 #[.agg #[.int .i64 a, .int .i64 b, .int .i64 c], .int .i64 m, .int .i64 n] w fun e w' => e = .returned (.tuple #[.int .i64 0, .int .i64 2]) ∧ Below w.heap.size w w' := by
  have HH := Lib.hid h
  clear h
  obtain ⟨N, hN⟩ : ∃ N, N = num a b c := ⟨_, rfl⟩
  have hcn : ∀ w', Calls Try.prog 24 #[.agg #[.int .i64 a, .int .i64 b, .int .i64 c]] w' fun e w'' => e = .returned (.int .i64 N) ∧ Below w'.heap.size w' w'' := by
    rw [hN]; exact refN_ok a b c HH.out
  have HC := Lib.hid hcn
  clear hcn
  rw [← hN] at h1
  clear hN
  go_enter Try.func22, Try.ntmps22
  go_wp2_with fail
  refine (may_ok a b c HH.out _).mono ?_
  rintro e w1 ⟨rfl, hB1⟩
  have HB1 : Hid (Below w.heap.size w w1) := below_up (below_alloc (Below.refl _ _)) hB1
  have c1_0 : w1.cell? ⟨w.heap.size, 0, none⟩ = some (.int .i64 a) := keep_cell (box0 w 23 #[.int .i64 a, .int .i64 b, .int .i64 c] 0) hB1
  have c1_1 : w1.cell? ⟨w.heap.size, 1, none⟩ = some (.int .i64 b) := keep_cell (box0 w 23 #[.int .i64 a, .int .i64 b, .int .i64 c] 1) hB1
  have c1_2 : w1.cell? ⟨w.heap.size, 2, none⟩ = some (.int .i64 c) := keep_cell (box0 w 23 #[.int .i64 a, .int .i64 b, .int .i64 c] 2) hB1
  have z1_0 : w.heap.size < w1.heap.size := cell_lt c1_0
  clear hB1  
  go_wp2_with fail
  refine (HC.out _).mono ?_
  rintro e w2 ⟨rfl, hB2⟩
  have HB2 : Hid (Below w.heap.size w w2) := below_up HB1.out hB2
  have c2_0 : w2.cell? ⟨w.heap.size, 0, none⟩ = some (.int .i64 a) := keep_cell c1_0 hB2
  have c2_1 : w2.cell? ⟨w.heap.size, 1, none⟩ = some (.int .i64 b) := keep_cell c1_1 hB2
  have c2_2 : w2.cell? ⟨w.heap.size, 2, none⟩ = some (.int .i64 c) := keep_cell c1_2 hB2
  have z2_0 : w.heap.size < w2.heap.size := cell_lt c2_0
  clear hB2 c1_0 c1_1 c1_2 z1_0
  go_wp2_with fail
  go_ret2
  exact ⟨rfl, HB2.out⟩
set_option maxRecDepth 100000 in
set_option maxHeartbeats 2000000 in
theorem refar_neg2 (a b c m n : Int) (h : May a b c) (h0 : 0 ≤ m) (h1 : m < num a b c) (hn : n < 0) (w : World) :
    Calls Try.prog 22 #[.agg #[.int .i64 a, .int .i64 b, .int .i64 c], .int .i64 m, .int .i64 n] w fun e w' => e = .returned (.tuple #[.int .i64 0, .int .i64 2]) ∧ Below w.heap.size w w' := by
  have HH := Lib.hid h
  clear h
  obtain ⟨N, hN⟩ : ∃ N, N = num a b c := ⟨_, rfl⟩
  have hcn : ∀ w', Calls Try.prog 24 #[.agg #[.int .i64 a, .int .i64 b, .int .i64 c]] w' fun e w'' => e = .returned (.int .i64 N) ∧ Below w'.heap.size w' w'' := by
    rw [hN]; exact refN_ok a b c HH.out
  have HC := Lib.hid hcn
  clear hcn
  rw [← hN] at h1
  clear hN
  go_enter Try.func22, Try.ntmps22
  go_wp2_with fail
  refine (may_ok a b c HH.out _).mono ?_
  rintro e w1 ⟨rfl, hB1⟩
  have HB1 : Hid (Below w.heap.size w w1) := below_up (below_alloc (Below.refl _ _)) hB1
  have c1_0 : w1.cell? ⟨w.heap.size, 0, none⟩ = some (.int .i64 a) := keep_cell (box0 w 23 #[.int .i64 a, .int .i64 b, .int .i64 c] 0) hB1
  have c1_1 : w1.cell? ⟨w.heap.size, 1, none⟩ = some (.int .i64 b) := keep_cell (box0 w 23 #[.int .i64 a, .int .i64 b, .int .i64 c] 1) hB1
  have c1_2 : w1.cell? ⟨w.heap.size, 2, none⟩ = some (.int .i64 c) := keep_cell (box0 w 23 #[.int .i64 a, .int .i64 b, .int .i64 c] 2) hB1
  have z1_0 : w.heap.size < w1.heap.size := cell_lt c1_0
  clear hB1  
  go_wp2_with fail
  refine (HC.out _).mono ?_
  rintro e w2 ⟨rfl, hB2⟩
  have HB2 : Hid (Below w.heap.size w w2) := below_up HB1.out hB2
  have c2_0 : w2.cell? ⟨w.heap.size, 0, none⟩ = some (.int .i64 a) := keep_cell c1_0 hB2
  have c2_1 : w2.cell? ⟨w.heap.size, 1, none⟩ = some (.int .i64 b) := keep_cell c1_1 hB2
  have c2_2 : w2.cell? ⟨w.heap.size, 2, none⟩ = some (.int .i64 c) := keep_cell c1_2 hB2
  have z2_0 : w.heap.size < w2.heap.size := cell_lt c2_0
  clear hB2 c1_0 c1_1 c1_2 z1_0
  go_wp2_with fail
  go_ret2
  exact ⟨rfl, HB2.out⟩
set_option maxRecDepth 100000 in
set_option maxHeartbeats 2000000 in
theorem refar_big2 (a b c m n : Int) (h : May a b c) (h0 : 0 ≤ m) (h1 : m < num a b c) (h2 : 0 ≤ n) (h3 : num a b c ≤ n) (w : World) :
    Calls Try.prog 22 #[.agg #[.int .i64 a, .int .i64 b, .int .i64 c], .int .i64 m, .int .i64 n] w fun e w' => e = .returned (.tuple #[.int .i64 0, .int .i64 2]) ∧ Below w.heap.size w w' := by
  have HH := Lib.hid h
  clear h
  obtain ⟨N, hN⟩ : ∃ N, N = num a b c := ⟨_, rfl⟩
  have hcn : ∀ w', Calls Try.prog 24 #[.agg #[.int .i64 a, .int .i64 b, .int .i64 c]] w' fun e w'' => e = .returned (.int .i64 N) ∧ Below w'.heap.size w' w'' := by
    rw [hN]; exact refN_ok a b c HH.out
  have HC := Lib.hid hcn
  clear hcn
  rw [← hN] at h1 h3
  clear hN
  go_enter Try.func22, Try.ntmps22
  go_wp2_with fail
  refine (may_ok a b c HH.out _).mono ?_
  rintro e w1 ⟨rfl, hB1⟩
  have HB1 : Hid (Below w.heap.size w w1) := below_up (below_alloc (Below.refl _ _)) hB1
  have c1_0 : w1.cell? ⟨w.heap.size, 0, none⟩ = some (.int .i64 a) := keep_cell (box0 w 23 #[.int .i64 a, .int .i64 b, .int .i64 c] 0) hB1
  have c1_1 : w1.cell? ⟨w.heap.size, 1, none⟩ = some (.int .i64 b) := keep_cell (box0 w 23 #[.int .i64 a, .int .i64 b, .int .i64 c] 1) hB1
  have c1_2 : w1.cell? ⟨w.heap.size, 2, none⟩ = some (.int .i64 c) := keep_cell (box0 w 23 #[.int .i64 a, .int .i64 b, .int .i64 c] 2) hB1
  have z1_0 : w.heap.size < w1.heap.size := cell_lt c1_0
  clear hB1  
  go_wp2_with fail
  refine (HC.out _).mono ?_
  rintro e w2 ⟨rfl, hB2⟩
  have HB2 : Hid (Below w.heap.size w w2) := below_up HB1.out hB2
  have c2_0 : w2.cell? ⟨w.heap.size, 0, none⟩ = some (.int .i64 a) := keep_cell c1_0 hB2
  have c2_1 : w2.cell? ⟨w.heap.size, 1, none⟩ = some (.int .i64 b) := keep_cell c1_1 hB2
  have c2_2 : w2.cell? ⟨w.heap.size, 2, none⟩ = some (.int .i64 c) := keep_cell c1_2 hB2
  have z2_0 : w.heap.size < w2.heap.size := cell_lt c2_0
  clear hB2 c1_0 c1_1 c1_2 z1_0
  go_wp2_with fail
  refine (HC.out _).mono ?_
  rintro e w3 ⟨rfl, hB3⟩
  have HB3 : Hid (Below w.heap.size w w3) := below_up HB2.out hB3
  have c3_0 : w3.cell? ⟨w.heap.size, 0, none⟩ = some (.int .i64 a) := keep_cell c2_0 hB3
  have c3_1 : w3.cell? ⟨w.heap.size, 1, none⟩ = some (.int .i64 b) := keep_cell c2_1 hB3
  have c3_2 : w3.cell? ⟨w.heap.size, 2, none⟩ = some (.int .i64 c) := keep_cell c2_2 hB3
  have z3_0 : w.heap.size < w3.heap.size := cell_lt c3_0
  clear hB3 c2_0 c2_1 c2_2 z2_0
  go_wp2_with fail
  go_ret2
  exact ⟨rfl, HB3.out⟩
/-- Program and document: one answer. -/
theorem check_same (a b c : Int) : ∃ e : Int, (∀ w, Calls Try.prog 15 #[.agg #[.int .i64 a, .int .i64 b, .int .i64 c]] w fun E w' => E = .returned (.int .i64 e) ∧ Below w.heap.size w w') ∧ (∀ w, Calls Try.prog 16 #[.agg #[.int .i64 a, .int .i64 b, .int .i64 c]] w fun E w' => E = .returned (.int .i64 e) ∧ Below w.heap.size w w') := by
  by_cases h : May a b c
  · exact ⟨0, check_ok a b c h, refcheck_ok a b c h⟩
  · exact ⟨8, check_bad a b c h, refcheck_bad a b c h⟩
theorem many_same (a b c : Int) : ∃ n e : Int, (∀ w, Calls Try.prog 9 #[.agg #[.int .i64 a, .int .i64 b, .int .i64 c]] w fun E w' => E = .returned (.tuple #[.int .i64 n, .int .i64 e]) ∧ Below w.heap.size w w') ∧ (∀ w, Calls Try.prog 10 #[.agg #[.int .i64 a, .int .i64 b, .int .i64 c]] w fun E w' => E = .returned (.tuple #[.int .i64 n, .int .i64 e]) ∧ Below w.heap.size w w') := by
  by_cases h : May a b c
  · exact ⟨_, 0, many_ok a b c h, refmany_ok a b c h⟩
  · exact ⟨0, 8, many_bad a b c h, refmany_bad a b c h⟩
theorem at_same (a b c x y z : Int) : ∃ n e : Int, (∀ w, Calls Try.prog 11 #[.agg #[.int .i64 a, .int .i64 b, .int .i64 c], .agg #[.int .i64 x, .int .i64 y, .int .i64 z]] w fun E w' => E = .returned (.tuple #[.int .i64 n, .int .i64 e]) ∧ Below w.heap.size w w') ∧ (∀ w, Calls Try.prog 12 #[.agg #[.int .i64 a, .int .i64 b, .int .i64 c], .agg #[.int .i64 x, .int .i64 y, .int .i64 z]] w fun E w' => E = .returned (.tuple #[.int .i64 n, .int .i64 e]) ∧ Below w.heap.size w w') := by
  by_cases h : May a b c
  · exact ⟨_, _, at_may a b c x y z h, refat_may a b c x y z h⟩
  · exact ⟨0, 8, at_bad a b c x y z h, refat_bad a b c x y z h⟩
theorem of_same (a b c m : Int) : ∃ x y z e : Int, (∀ w, Calls Try.prog 13 #[.agg #[.int .i64 a, .int .i64 b, .int .i64 c], .int .i64 m] w fun E w' => E = .returned (.tuple #[.agg #[.int .i64 x, .int .i64 y, .int .i64 z], .int .i64 e]) ∧ Below w.heap.size w w') ∧ (∀ w, Calls Try.prog 14 #[.agg #[.int .i64 a, .int .i64 b, .int .i64 c], .int .i64 m] w fun E w' => E = .returned (.tuple #[.agg #[.int .i64 x, .int .i64 y, .int .i64 z], .int .i64 e]) ∧ Below w.heap.size w w') := by
  by_cases h : May a b c
  · by_cases h0 : 0 ≤ m
    · by_cases h1 : m < num a b c
      · exact ⟨_, _, _, 0, of_ok a b c m h h0 h1, refof_ok a b c m h h0 h1⟩
      · exact ⟨0, 0, 0, 2, of_arg a b c m h (fun k => h1 k.2), refof_big a b c m h h0 (by omega)⟩
    · exact ⟨0, 0, 0, 2, of_arg a b c m h (fun k => h0 k.1), refof_neg a b c m h (by omega)⟩
  · exact ⟨0, 0, 0, 8, of_bad a b c m h, refof_bad a b c m h⟩
theorem step_same (a b c m ax by_ : Int) : ∃ n e : Int, (∀ w, Calls Try.prog 18 #[.agg #[.int .i64 a, .int .i64 b, .int .i64 c], .int .i64 m, .int .i64 ax, .int .i64 by_] w fun E w' => E = .returned (.tuple #[.int .i64 n, .int .i64 e]) ∧ Below w.heap.size w w') ∧ (∀ w, Calls Try.prog 21 #[.agg #[.int .i64 a, .int .i64 b, .int .i64 c], .int .i64 m, .int .i64 ax, .int .i64 by_] w fun E w' => E = .returned (.tuple #[.int .i64 n, .int .i64 e]) ∧ Below w.heap.size w w') := by
  by_cases h : May a b c
  · by_cases h0 : 0 ≤ m
    · by_cases h1 : m < num a b c
      · by_cases hx : ax < 0
        · exact ⟨0, 2, step_axis a b c m ax by_ h h0 h1 (.inl hx), refstep_axneg a b c m ax by_ h h0 h1 hx⟩
        · by_cases hx2 : 2 < ax
          · exact ⟨0, 2, step_axis a b c m ax by_ h h0 h1 (.inr hx2), refstep_axbig a b c m ax by_ h h0 h1 hx2⟩
          · rcases (show ax = 0 ∨ ax = 1 ∨ ax = 2 by omega) with rfl | rfl | rfl
            · exact ⟨_, 0, step0 a b c m by_ h h0 h1, refstep0 a b c m by_ h h0 h1⟩
            · exact ⟨_, 0, step1 a b c m by_ h h0 h1, refstep1 a b c m by_ h h0 h1⟩
            · exact ⟨_, 0, step2 a b c m by_ h h0 h1, refstep2 a b c m by_ h h0 h1⟩
      · exact ⟨0, 2, step_arg a b c m ax by_ h (fun k => h1 k.2), refstep_big a b c m ax by_ h h0 (by omega)⟩
    · exact ⟨0, 2, step_arg a b c m ax by_ h (fun k => h0 k.1), refstep_neg a b c m ax by_ h (by omega)⟩
  · exact ⟨0, 8, step_bad a b c m ax by_ h, refstep_bad a b c m ax by_ h⟩
theorem far_same (a b c m n : Int) : ∃ f e : Int, (∀ w, Calls Try.prog 20 #[.agg #[.int .i64 a, .int .i64 b, .int .i64 c], .int .i64 m, .int .i64 n] w fun E w' => E = .returned (.tuple #[.int .i64 f, .int .i64 e]) ∧ Below w.heap.size w w') ∧ (∀ w, Calls Try.prog 22 #[.agg #[.int .i64 a, .int .i64 b, .int .i64 c], .int .i64 m, .int .i64 n] w fun E w' => E = .returned (.tuple #[.int .i64 f, .int .i64 e]) ∧ Below w.heap.size w w') := by
  by_cases h : May a b c
  · by_cases h0 : 0 ≤ m
    · by_cases h1 : m < num a b c
      · by_cases h2 : 0 ≤ n
        · by_cases h3 : n < num a b c
          · exact ⟨_, 0, far_ok a b c m n h h0 h1 h2 h3, refar_ok a b c m n h h0 h1 h2 h3⟩
          · exact ⟨0, 2, far_arg2 a b c m n h h0 h1 (fun k => h3 k.2), refar_big2 a b c m n h h0 h1 h2 (by omega)⟩
        · exact ⟨0, 2, far_arg2 a b c m n h h0 h1 (fun k => h2 k.1), refar_neg2 a b c m n h h0 h1 (by omega)⟩
      · exact ⟨0, 2, far_arg a b c m n h (fun k => h1 k.2), refar_big a b c m n h h0 (by omega)⟩
    · exact ⟨0, 2, far_arg a b c m n h (fun k => h0 k.1), refar_neg a b c m n h (by omega)⟩
  · exact ⟨0, 8, far_bad a b c m n h, refar_bad a b c m n h⟩
end Go.Proofs.Ythapginaphdmjaa.PosSame
