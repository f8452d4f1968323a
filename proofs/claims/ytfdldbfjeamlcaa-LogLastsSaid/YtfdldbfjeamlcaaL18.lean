/- Several texts joined: log.Crash. No conditions but those named. -/
import Derived.BigQuiet
import Derived.Deep.QuietTactic
import Derived.Deep.RegionLaw
import Derived.Deep.DeepCutAuto
import Derived.Lib.SliceRun
import Derived.Lib.QuietBelow
import Derived.IntWalk
import Derived.Test.YtfdldbfjeamlcaaL17
/-! log.Crash. No conditions but those named. -/
namespace Go.Proofs.Ytfdldbfjeamlcaa.LogCrashC
open Go.RowKit Mem LogMath LogProg Round LogRetC
open Go.Sort (grow)
set_option linter.unusedVariables false
set_option linter.unusedSimpArgs false

/-- How much of an area is left. -/
def leftN (p n : Nat) (m : Int) : Nat := p + (min (max m 0) ((n : Int) - p)).toNat
theorem leftA_eq {t : List Int} {p : Nat} (m : Int) (h : p ≤ t.length) : leftA ⟨t, (p : Int)⟩ m = ⟨t.take (leftN p t.length m), (leftN p t.length m : Int)⟩ := by
  have e : (p : Int) + min (max m 0) ((t.length : Int) - (p : Int)) = (leftN p t.length m : Int) := by unfold leftN; omega
  unfold leftA
  dsimp only
  rw [e, Int.toNat_natCast]
theorem leftN_le {p n : Nat} (m : Int) (h : p ≤ n) : leftN p n m ≤ n := by unfold leftN; omega
theorem crash_bad {l : LV} {m n : Int} (h : mayL l = false) : checkL l = 8 ∧ crashL l m n = LV.z := ⟨by unfold checkL; rw [h]; rfl, by unfold crashL; rw [h]; rfl⟩
theorem crash_ok {l : LV} {m n : Int} (h : mayL l = true) : checkL l = 0 ∧ crashL l m n = leftL l m n := ⟨by unfold checkL; rw [h]; rfl, by unfold crashL; rw [h]; rfl⟩
set_option maxRecDepth 100000 in
set_option maxHeartbeats 4000000 in
theorem lCrashBad (x y : AV) (X : Option Addr) (ca : Nat) (Y : Option Addr) (cb : Nat) (m n : Int) (h : mayL ⟨x, y⟩ = false) (w : World) :
    Calls Try.prog 30 #[.agg #[.slice X x.t.length ca, .int .i64 x.k, .slice Y y.t.length cb, .int .i64 y.k], .agg #[.int .i64 m, .int .i64 n]] w fun e w' => ∃ v, e = .returned (.tuple #[v, .int .i64 (checkL ⟨x, y⟩)]) ∧ RetC w' w.heap.size (crashL ⟨x, y⟩ m n) v ∧ Below w.heap.size w w' := by
  obtain ⟨E1, E2⟩ := crash_bad (m := m) (n := n) h
  rw [E1, E2]
  have EE := Lib.hid E1
  clear E1 E2
  go_enter Try.func30, Try.ntmps30
  go_wp2_with fail
  refine (lCheck x y X ca Y cb _).mono ?_
  rintro e w1 ⟨rfl, hB1⟩
  rw [EE.out]
  have hL := ((Blk.new w 70 #[.slice X x.t.length ca, .int .i64 x.k, .slice Y y.t.length cb, .int .i64 y.k]).alloc (.cells #[.int .i64 m, .int .i64 n] 73)).alloc (.cells #[.slice none 0 0, .int .i64 0, .slice none 0 0, .int .i64 0] 70) |>.below hB1 (by simp; omega)
  have hA := (blk1 w 73 #[.int .i64 m, .int .i64 n] (o := .cells #[.slice X x.t.length ca, .int .i64 x.k, .slice Y y.t.length cb, .int .i64 y.k] 70)).alloc (.cells #[.slice none 0 0, .int .i64 0, .slice none 0 0, .int .i64 0] 70) |>.below hB1 (by simp)
  have hZ := (blk2 w 70 #[.slice none 0 0, .int .i64 0, .slice none 0 0, .int .i64 0] (o := .cells #[.slice X x.t.length ca, .int .i64 x.k, .slice Y y.t.length cb, .int .i64 y.k] 70) (o' := .cells #[.int .i64 m, .int .i64 n] 73)).below hB1 (by simp)
  have hB := below_up (below_alloc (below_alloc (below_alloc (Below.refl _ _)))) hB1
  clear hB1
  have z0 : w1.cell? ⟨w.heap.size + 1 + 1, 0, none⟩ = some (.slice none 0 0) := hZ.cell 0
  have z1 : w1.cell? ⟨w.heap.size + 1 + 1, 1, none⟩ = some (.int .i64 0) := hZ.cell 1
  have z2 : w1.cell? ⟨w.heap.size + 1 + 1, 2, none⟩ = some (.slice none 0 0) := hZ.cell 2
  have z3 : w1.cell? ⟨w.heap.size + 1 + 1, 3, none⟩ = some (.int .i64 0) := hZ.cell 3
  have zf0 := hZ.frozen 0
  have zf1 := hZ.frozen 1
  have zf2 := hZ.frozen 2
  have zf3 := hZ.frozen 3
  have HH := Lib.hid (And.intro hZ hB)
  clear hL hA hZ hB
  go_wp2_with fail
  have hK4 := W4.blk HH.out.1 (.slice none 0 0) (.int .i64 0) (.slice none 0 0) (.int .i64 0)
  have hB4 := W4.below (g := w.heap.size + 1 + 1) HH.out.2 (by omega) (.slice none 0 0) (.int .i64 0) (.slice none 0 0) (.int .i64 0)
  rw [show ((((w1.setCell ⟨w.heap.size + 1 + 1, 0, none⟩ (.slice none 0 0)).setCell ⟨w.heap.size + 1 + 1, 1, none⟩ (.int .i64 0)).setCell ⟨w.heap.size + 1 + 1, 2, none⟩ (.slice none 0 0)).setCell ⟨w.heap.size + 1 + 1, 3, none⟩ (.int .i64 0)) = W4 w1 (w.heap.size + 1 + 1) (.slice none 0 0) (.int .i64 0) (.slice none 0 0) (.int .i64 0) from rfl]
  generalize W4 w1 (w.heap.size + 1 + 1) (.slice none 0 0) (.int .i64 0) (.slice none 0 0) (.int .i64 0) = w99 at *
  clear z0 z1 z2 z3 zf0 zf1 zf2 zf3
  have c0 := hK4.cell 0
  have c1 := hK4.cell 1
  have c2 := hK4.cell 2
  have c3 := hK4.cell 3
  simp only [List.getElem?_toArray, List.getElem?_cons_zero, List.getElem?_cons_succ] at c0 c1 c2 c3
  exact bodyPost_ret (v := .tuple #[.agg #[.slice none 0 0, .int .i64 0, .slice none 0 0, .int .i64 0], .int .i64 8]) (by simp [results, Try.results30, go_sem, c0, c1, c2, c3]) rfl ⟨_, rfl, RetC.zero, hB4⟩
/-- What Crash's box holds before its round k. -/
def CrRel (t u : List Int) (p q N M : Nat) (X' : Option Addr) (ca' : Nat) (Y' : Option Addr) (cb' : Nat) (g k : Nat) (w : World) : Prop :=
  (k = 0 ∧ Blk w g 70 #[.slice X' t.length ca', .int .i64 (p : Int), .slice Y' u.length cb', .int .i64 (q : Int)]) ∨ (k = 1 ∧ Blk w g 70 #[.slice X' N ca', .int .i64 (N : Int), .slice Y' u.length cb', .int .i64 (q : Int)]) ∨ (k = 2 ∧ Blk w g 70 #[.slice X' N ca', .int .i64 (N : Int), .slice Y' M cb', .int .i64 (M : Int)])
/-- The two rows. -/
def Rows2 (t u : List Int) (X' Y' : Option Addr) (B : Nat) (w : World) : Prop := TAt w X' t ∧ TAt w Y' u ∧ TFree w B X' t.length ∧ TFree w B Y' u.length
theorem Rows2.far {t u : List Int} {X' Y' : Option Addr} {B : Nat} {w : World} (h : Rows2 t u X' Y' B w) {p : Addr} (hp : p.block < B) (v : Value) : Rows2 t u X' Y' B (w.setCell p v) :=
  ⟨h.1.far h.2.2.1 hp v, h.2.1.far h.2.2.2 hp v, h.2.2.1.far hp v, h.2.2.2.far hp v⟩
theorem Rows2.drew {t u : List Int} {X' Y' : Option Addr} {B : Nat} {w : World} (h : Rows2 t u X' Y' B w) : Rows2 t u X' Y' B w.drew := h
set_option maxRecDepth 100000 in
set_option maxHeartbeats 4000000 in
theorem lCrashOk (t u : List Int) (p q : Nat) (X : Option Addr) (ca : Nat) (Y : Option Addr) (cb : Nat) (m n : Int) (ht : t.length ≤ 262144) (hu : u.length ≤ 262144) (hp : p ≤ t.length) (hq : q ≤ u.length) (hca : t.length ≤ ca) (hcb : u.length ≤ cb) (h : mayL ⟨⟨t, (p : Int)⟩, ⟨u, (q : Int)⟩⟩ = true) (w : World) (hX : TAt w X t) (hY : TAt w Y u) :
    Calls Try.prog 30 #[.agg #[.slice X t.length ca, .int .i64 (p : Int), .slice Y u.length cb, .int .i64 (q : Int)], .agg #[.int .i64 m, .int .i64 n]] w fun e w' => ∃ v, e = .returned (.tuple #[v, .int .i64 (checkL ⟨⟨t, (p : Int)⟩, ⟨u, (q : Int)⟩⟩)]) ∧ RetC w' w.heap.size (crashL ⟨⟨t, (p : Int)⟩, ⟨u, (q : Int)⟩⟩ m n) v ∧ Below w.heap.size w w' := by
  obtain ⟨E1, E2⟩ := crash_ok (m := m) (n := n) h
  rw [E1, E2]
  have EE := Lib.hid E1
  clear E1 E2
  have HX := Lib.hid (And.intro hX hY)
  clear hX hY
  show Calls Try.prog 30 #[.agg #[.slice X t.length ca, .int .i64 (p : Int), .slice Y u.length cb, .int .i64 (q : Int)], .agg #[.int .i64 m, .int .i64 n]] w fun e w' => ∃ v, e = .returned (.tuple #[v, .int .i64 0]) ∧ RetC w' w.heap.size ⟨leftA ⟨t, (p : Int)⟩ m, leftA ⟨u, (q : Int)⟩ n⟩ v ∧ Below w.heap.size w w'
  have hx1 := leftA_eq m hp
  have hy1 := leftA_eq n hq
  have hN := leftN_le m hp
  have hM := leftN_le n hq
  have f1 : IntKind.i64.wrap ((t.length : Int) - (p : Int)) = (t.length : Int) - (p : Int) := IntWalk.i64_in _ (by omega)
  have f2 : IntKind.i64.wrap ((p : Int) + min (max m 0) ((t.length : Int) - (p : Int))) = (leftN p t.length m : Int) := (IntWalk.i64_in _ (by omega)).trans (by unfold leftN; omega)
  have f3 : IntKind.i64.wrap ((u.length : Int) - (q : Int)) = (u.length : Int) - (q : Int) := IntWalk.i64_in _ (by omega)
  have f4 : IntKind.i64.wrap ((q : Int) + min (max n 0) ((u.length : Int) - (q : Int))) = (leftN q u.length n : Int) := (IntWalk.i64_in _ (by omega)).trans (by unfold leftN; omega)
  generalize leftA ⟨t, (p : Int)⟩ m = x' at *
  generalize leftA ⟨u, (q : Int)⟩ n = y' at *
  generalize leftN p t.length m = N at *
  generalize leftN q u.length n = M at *
  subst hx1 hy1
  have HF := Lib.hid (And.intro (And.intro f1 f2) (And.intro (And.intro f3 f4) trivial))
  have eN : (t.take N).length = N := by rw [List.length_take]; omega
  have eM : (u.take M).length = M := by rw [List.length_take]; omega
  have HE := Lib.hid (And.intro eN eM)
  clear eN eM f1 f2 f3 f4
  go_enter Try.func30, Try.ntmps30
  go_wp2_with fail
  refine (lCheck ⟨t, (p : Int)⟩ ⟨u, (q : Int)⟩ X ca Y cb _).mono ?_
  rintro e w1 ⟨rfl, hB1⟩
  rw [EE.out]
  have hL := ((Blk.new w 70 #[.slice X t.length ca, .int .i64 (p : Int), .slice Y u.length cb, .int .i64 (q : Int)]).alloc (.cells #[.int .i64 m, .int .i64 n] 73)).alloc (.cells #[.slice none 0 0, .int .i64 0, .slice none 0 0, .int .i64 0] 70) |>.below hB1 (by simp; omega)
  have hA := (blk1 w 73 #[.int .i64 m, .int .i64 n] (o := .cells #[.slice X t.length ca, .int .i64 (p : Int), .slice Y u.length cb, .int .i64 (q : Int)] 70)).alloc (.cells #[.slice none 0 0, .int .i64 0, .slice none 0 0, .int .i64 0] 70) |>.below hB1 (by simp)
  have hZ := (blk2 w 70 #[.slice none 0 0, .int .i64 0, .slice none 0 0, .int .i64 0] (o := .cells #[.slice X t.length ca, .int .i64 (p : Int), .slice Y u.length cb, .int .i64 (q : Int)] 70) (o' := .cells #[.int .i64 m, .int .i64 n] 73)).below hB1 (by simp)
  have hB := below_up (below_alloc (below_alloc (below_alloc (Below.refl _ _)))) hB1
  clear hB1
  have l0 : w1.cell? ⟨w.heap.size, 0, none⟩ = some (.slice X t.length ca) := hL.cell 0
  have l1 : w1.cell? ⟨w.heap.size, 1, none⟩ = some (.int .i64 (p : Int)) := hL.cell 1
  have l2 : w1.cell? ⟨w.heap.size, 2, none⟩ = some (.slice Y u.length cb) := hL.cell 2
  have l3 : w1.cell? ⟨w.heap.size, 3, none⟩ = some (.int .i64 (q : Int)) := hL.cell 3
  have b0 : w1.cell? ⟨w.heap.size + 1, 0, none⟩ = some (.int .i64 m) := hA.cell 0
  have b1 : w1.cell? ⟨w.heap.size + 1, 1, none⟩ = some (.int .i64 n) := hA.cell 1
  have H3 := Lib.hid (And.intro hZ (And.intro hB (And.intro hA hL)))
  clear hL hA hZ hB
  go_wp2_with fail
  refine (lTwin ⟨t, (p : Int)⟩ ⟨u, (q : Int)⟩ X ca Y cb (by show t.length ≤ _; omega) (by show u.length ≤ _; omega) _ (HX.out.1.up H3.out.2.1) (HX.out.2.up H3.out.2.1)).mono ?_
  rintro e w4 ⟨X', ca', Y', cb', rfl, hO, hP, _, hB4⟩
  have hZ4 := H3.out.1.below hB4 H3.out.1.lt
  have hA4 := H3.out.2.2.1.below hB4 H3.out.2.2.1.lt
  have hL4 := H3.out.2.2.2.below hB4 H3.out.2.2.2.lt
  have hB5 := below_up H3.out.2.1 hB4
  have hcx : t.length ≤ ca' := own_cap hO
  have hcy : u.length ≤ cb' := own_cap hP
  have hRows : Rows2 t u X' Y' w1.heap.size w4 := ⟨TOwn.at_ hO, TOwn.at_ hP, TOwn.free hO, TOwn.free hP⟩
  have hs : w.heap.size + 1 + 1 < w1.heap.size := H3.out.1.lt
  have hs9 := H3.out.2.1.size
  have m0 : w4.cell? ⟨w.heap.size, 0, none⟩ = some (.slice X t.length ca) := hL4.cell 0
  have m1 : w4.cell? ⟨w.heap.size, 1, none⟩ = some (.int .i64 (p : Int)) := hL4.cell 1
  have m2 : w4.cell? ⟨w.heap.size, 2, none⟩ = some (.slice Y u.length cb) := hL4.cell 2
  have m3 : w4.cell? ⟨w.heap.size, 3, none⟩ = some (.int .i64 (q : Int)) := hL4.cell 3
  have mf0 := hL4.frozen 0
  have mf1 := hL4.frozen 1
  have mf2 := hL4.frozen 2
  have mf3 := hL4.frozen 3
  have H4 := Lib.hid (And.intro hZ4 (And.intro hA4 (And.intro hL4 (And.intro hB5 hRows))))
  clear hO hP hB4 hZ4 hA4 hL4 hB5 hRows H3 l0 l1 l2 l3 b0 b1
  go_upto_region 5 with fail
  have hK5 := W4.blk H4.out.2.2.1 (.slice X' t.length ca') (.int .i64 (p : Int)) (.slice Y' u.length cb') (.int .i64 (q : Int))
  have hB5 := W4.below (g := w.heap.size) H4.out.2.2.2.1 (Nat.le_refl _) (.slice X' t.length ca') (.int .i64 (p : Int)) (.slice Y' u.length cb') (.int .i64 (q : Int))
  have hA5 := W4.far (g := w.heap.size) H4.out.2.1 (by omega) (.slice X' t.length ca') (.int .i64 (p : Int)) (.slice Y' u.length cb') (.int .i64 (q : Int))
  have hZ5 := W4.far (g := w.heap.size) H4.out.1 (by omega) (.slice X' t.length ca') (.int .i64 (p : Int)) (.slice Y' u.length cb') (.int .i64 (q : Int))
  have hR5 := (((H4.out.2.2.2.2.far (p := ⟨w.heap.size, 0, none⟩) (by show w.heap.size < _; omega) (.slice X' t.length ca')).far (p := ⟨w.heap.size, 1, none⟩) (by show w.heap.size < _; omega) (.int .i64 (p : Int))).far (p := ⟨w.heap.size, 2, none⟩) (by show w.heap.size < _; omega) (.slice Y' u.length cb')).far (p := ⟨w.heap.size, 3, none⟩) (by show w.heap.size < _; omega) (.int .i64 (q : Int))
  change Rows2 t u X' Y' w1.heap.size (W4 w4 w.heap.size (.slice X' t.length ca') (.int .i64 (p : Int)) (.slice Y' u.length cb') (.int .i64 (q : Int))) at hR5
  clear m0 m1 m2 m3 mf0 mf1 mf2 mf3
  rw [show ((((w4.setCell ⟨w.heap.size, 0, none⟩ (.slice X' t.length ca')).setCell ⟨w.heap.size, 1, none⟩ (.int .i64 (p : Int))).setCell ⟨w.heap.size, 2, none⟩ (.slice Y' u.length cb')).setCell ⟨w.heap.size, 3, none⟩ (.int .i64 (q : Int))) = W4 w4 (w.heap.size) (.slice X' t.length ca') (.int .i64 (p : Int)) (.slice Y' u.length cb') (.int .i64 (q : Int)) from rfl]
  generalize W4 w4 (w.heap.size) (.slice X' t.length ca') (.int .i64 (p : Int)) (.slice Y' u.length cb') (.int .i64 (q : Int)) = w5 at *
  clear H4
  go_wp2_with fail
  go_loopw [7, 8, 17] (fun _ _ i wr => ∃ k : Nat, k ≤ 2 ∧ i = .int .i64 k ∧ Hid (CrRel t u p q N M X' ca' Y' cb' w.heap.size k wr) ∧ Hid (Below w.heap.size w wr) ∧ Hid (Blk wr (w.heap.size + 1) 73 #[.int .i64 m, .int .i64 n]) ∧ Hid (Blk wr (w.heap.size + 1 + 1) 70 #[.slice none 0 0, .int .i64 0, .slice none 0 0, .int .i64 0]) ∧ Hid (Rows2 t u X' Y' w1.heap.size wr))
    (fun _ _ i _ => 2 - (intOf i).toNat)
  case atStart => exact ⟨0, by omega, rfl, .inl ⟨rfl, hK5⟩, hB5, hA5, hZ5, hR5⟩
  case round =>
    obtain ⟨k, hk, rfl, hR, hB, hA, hZ, hRR⟩ := hrel
    clear hK5 hB5 hA5 hZ5 hR5
    rcases hR.out with ⟨rfl, hK⟩ | ⟨rfl, hK⟩ | ⟨rfl, hK⟩
    · have HK := Lib.hid hK
      have k0 : wr.cell? ⟨w.heap.size, 0, none⟩ = some (.slice X' t.length ca') := HK.out.cell 0
      have k1 : wr.cell? ⟨w.heap.size, 1, none⟩ = some (.int .i64 (p : Int)) := HK.out.cell 1
      have k2 : wr.cell? ⟨w.heap.size, 2, none⟩ = some (.slice Y' u.length cb') := HK.out.cell 2
      have k3 : wr.cell? ⟨w.heap.size, 3, none⟩ = some (.int .i64 (q : Int)) := HK.out.cell 3
      have kf := HK.out.frozen 0
      have kg := HK.out.frozen 1
      have kp : wr.cell? ⟨w.heap.size + 1, 0, none⟩ = some (.int .i64 m) := hA.out.cell 0
      have hs3 : w.heap.size < wr.heap.size := HK.out.lt
      have g1 := HF.out.1.1
      have g2 := HF.out.1.2
      have g4 : (if m < 0 then (0 : Int) else m) = max m 0 := by rw [Int.max_def]; split <;> split <;> omega
      have g5 : (if (t.length : Int) - (p : Int) < max m 0 then (t.length : Int) - (p : Int) else max m 0) = min (max m 0) ((t.length : Int) - (p : Int)) := by rw [Int.min_def]; split <;> split <;> omega
      have g3 : N ≤ ca' := by omega
      clear hR hK
      go_wp2_with fail
      refine still_tail 28 (by kernel_rfl) (by kernel_rfl) ?_
      simp only [List.take_succ_cons, List.take_zero, List.drop_succ_cons, List.drop_zero]
      repeat still_step
      refine wpStill_nil ?_
      clear g1 g2 g4 g5
      go_wp2_with fail
      go_roundw
      case measure => simp [intOf]
      have hK4 : Blk ((wr.setCell ⟨w.heap.size, 0, none⟩ (.slice X' N ca')).setCell ⟨w.heap.size, 1, none⟩ (.int .i64 (N : Int))) w.heap.size 70 #[.slice X' N ca', .int .i64 (N : Int), .slice Y' u.length cb', .int .i64 (q : Int)] := (HK.out.set_ 0 _).set_ 1 _
      have hB4 := ((hB.out.setCell (p := ⟨w.heap.size, 0, none⟩) (Nat.le_refl _) (.slice X' N ca')).setCell (p := ⟨w.heap.size, 1, none⟩) (Nat.le_refl _) (.int .i64 (N : Int)))
      have hA4 := ((hA.out.far (p := ⟨w.heap.size, 0, none⟩) (by simp) (.slice X' N ca')).far (p := ⟨w.heap.size, 1, none⟩) (by simp) (.int .i64 (N : Int)))
      have hZ4 := ((hZ.out.far (p := ⟨w.heap.size, 0, none⟩) (by simp <;> omega) (.slice X' N ca')).far (p := ⟨w.heap.size, 1, none⟩) (by simp <;> omega) (.int .i64 (N : Int)))
      have hR4 := ((hRR.out.far (p := ⟨w.heap.size, 0, none⟩) (by show w.heap.size < _; omega) (.slice X' N ca')).far (p := ⟨w.heap.size, 1, none⟩) (by show w.heap.size < _; omega) (.int .i64 (N : Int)))
      exact ⟨1, by omega, rfl, .inr (.inl ⟨rfl, hK4.drew⟩), hB4.drew, hA4.drew, hZ4.drew, hR4.drew⟩
    · have HK := Lib.hid hK
      have k0 : wr.cell? ⟨w.heap.size, 0, none⟩ = some (.slice X' N ca') := HK.out.cell 0
      have k1 : wr.cell? ⟨w.heap.size, 1, none⟩ = some (.int .i64 (N : Int)) := HK.out.cell 1
      have k2 : wr.cell? ⟨w.heap.size, 2, none⟩ = some (.slice Y' u.length cb') := HK.out.cell 2
      have k3 : wr.cell? ⟨w.heap.size, 3, none⟩ = some (.int .i64 (q : Int)) := HK.out.cell 3
      have kf := HK.out.frozen 2
      have kg := HK.out.frozen 3
      have kp : wr.cell? ⟨w.heap.size + 1, 1, none⟩ = some (.int .i64 n) := hA.out.cell 1
      have hs3 : w.heap.size < wr.heap.size := HK.out.lt
      have g1 := HF.out.2.1.1
      have g2 := HF.out.2.1.2
      have g4 : (if n < 0 then (0 : Int) else n) = max n 0 := by rw [Int.max_def]; split <;> split <;> omega
      have g5 : (if (u.length : Int) - (q : Int) < max n 0 then (u.length : Int) - (q : Int) else max n 0) = min (max n 0) ((u.length : Int) - (q : Int)) := by rw [Int.min_def]; split <;> split <;> omega
      have g3 : M ≤ cb' := by omega
      clear hR hK
      go_wp2_with fail
      refine still_tail 28 (by kernel_rfl) (by kernel_rfl) ?_
      simp only [List.take_succ_cons, List.take_zero, List.drop_succ_cons, List.drop_zero]
      repeat still_step
      refine wpStill_nil ?_
      clear g1 g2 g4 g5
      go_wp2_with fail
      go_roundw
      case measure => simp [intOf]
      have hK4 : Blk ((wr.setCell ⟨w.heap.size, 2, none⟩ (.slice Y' M cb')).setCell ⟨w.heap.size, 3, none⟩ (.int .i64 (M : Int))) w.heap.size 70 #[.slice X' N ca', .int .i64 (N : Int), .slice Y' M cb', .int .i64 (M : Int)] := (HK.out.set_ 2 _).set_ 3 _
      have hB4 := ((hB.out.setCell (p := ⟨w.heap.size, 2, none⟩) (Nat.le_refl _) (.slice Y' M cb')).setCell (p := ⟨w.heap.size, 3, none⟩) (Nat.le_refl _) (.int .i64 (M : Int)))
      have hA4 := ((hA.out.far (p := ⟨w.heap.size, 2, none⟩) (by simp) (.slice Y' M cb')).far (p := ⟨w.heap.size, 3, none⟩) (by simp) (.int .i64 (M : Int)))
      have hZ4 := ((hZ.out.far (p := ⟨w.heap.size, 2, none⟩) (by simp <;> omega) (.slice Y' M cb')).far (p := ⟨w.heap.size, 3, none⟩) (by simp <;> omega) (.int .i64 (M : Int)))
      have hR4 := ((hRR.out.far (p := ⟨w.heap.size, 2, none⟩) (by show w.heap.size < _; omega) (.slice Y' M cb')).far (p := ⟨w.heap.size, 3, none⟩) (by show w.heap.size < _; omega) (.int .i64 (M : Int)))
      exact ⟨2, by omega, rfl, .inr (.inr ⟨rfl, hK4.drew⟩), hB4.drew, hA4.drew, hZ4.drew, hR4.drew⟩
    · have HK := Lib.hid hK
      have y0 : wr.cell? ⟨w.heap.size, 0, none⟩ = some (.slice X' N ca') := HK.out.cell 0
      have y1 : wr.cell? ⟨w.heap.size, 1, none⟩ = some (.int .i64 (N : Int)) := HK.out.cell 1
      have y2 : wr.cell? ⟨w.heap.size, 2, none⟩ = some (.slice Y' M cb') := HK.out.cell 2
      have y3 : wr.cell? ⟨w.heap.size, 3, none⟩ = some (.int .i64 (M : Int)) := HK.out.cell 3
      have z0 : wr.cell? ⟨w.heap.size + 1 + 1, 0, none⟩ = some (.slice none 0 0) := hZ.out.cell 0
      have z1 : wr.cell? ⟨w.heap.size + 1 + 1, 1, none⟩ = some (.int .i64 0) := hZ.out.cell 1
      have z2 : wr.cell? ⟨w.heap.size + 1 + 1, 2, none⟩ = some (.slice none 0 0) := hZ.out.cell 2
      have z3 : wr.cell? ⟨w.heap.size + 1 + 1, 3, none⟩ = some (.int .i64 0) := hZ.out.cell 3
      have zf0 := hZ.out.frozen 0
      have zf1 := hZ.out.frozen 1
      have zf2 := hZ.out.frozen 2
      have zf3 := hZ.out.frozen 3
      have hs0 : w.heap.size + 1 + 1 < wr.heap.size := hZ.out.lt
      clear hR hK
      go_wp2_with fail
      have hK4 := W4.blk hZ.out (.slice X' N ca') (.int .i64 (N : Int)) (.slice Y' M cb') (.int .i64 (M : Int))
      have hB4 := W4.below (g := w.heap.size + 1 + 1) hB.out (by omega) (.slice X' N ca') (.int .i64 (N : Int)) (.slice Y' M cb') (.int .i64 (M : Int))
      have hR4 := (((hRR.out.far (p := ⟨w.heap.size + 1 + 1, 0, none⟩) hs (.slice X' N ca')).far (p := ⟨w.heap.size + 1 + 1, 1, none⟩) hs (.int .i64 (N : Int))).far (p := ⟨w.heap.size + 1 + 1, 2, none⟩) hs (.slice Y' M cb')).far (p := ⟨w.heap.size + 1 + 1, 3, none⟩) hs (.int .i64 (M : Int))
      change Rows2 t u X' Y' w1.heap.size (W4 wr (w.heap.size + 1 + 1) (.slice X' N ca') (.int .i64 (N : Int)) (.slice Y' M cb') (.int .i64 (M : Int))) at hR4
      rw [show ((((wr.setCell ⟨w.heap.size + 1 + 1, 0, none⟩ (.slice X' N ca')).setCell ⟨w.heap.size + 1 + 1, 1, none⟩ (.int .i64 (N : Int))).setCell ⟨w.heap.size + 1 + 1, 2, none⟩ (.slice Y' M cb')).setCell ⟨w.heap.size + 1 + 1, 3, none⟩ (.int .i64 (M : Int))) = W4 wr (w.heap.size + 1 + 1) (.slice X' N ca') (.int .i64 (N : Int)) (.slice Y' M cb') (.int .i64 (M : Int)) from rfl]
      generalize W4 wr (w.heap.size + 1 + 1) (.slice X' N ca') (.int .i64 (N : Int)) (.slice Y' M cb') (.int .i64 (M : Int)) = w9 at *
      clear hZ hB hRR hA HK HX z0 z1 z2 z3 zf0 zf1 zf2 zf3 y0 y1 y2 y3
      have c0 := hK4.cell 0
      have c1 := hK4.cell 1
      have c2 := hK4.cell 2
      have c3 := hK4.cell 3
      simp only [List.getElem?_toArray, List.getElem?_cons_zero, List.getElem?_cons_succ] at c0 c1 c2 c3
      refine bodyPost_ret (v := .tuple #[.agg #[.slice X' N ca', .int .i64 (N : Int), .slice Y' M cb', .int .i64 (M : Int)], .int .i64 0]) (by simp [results, Try.results30, go_sem, c0, c1, c2, c3]) rfl ⟨_, rfl, ?_, hB4⟩
      have eN := HE.out.1
      have eM := HE.out.2
      refine ⟨X', ca', Y', cb', ?_, hR4.1.take N, hR4.2.1.take M, (hR4.2.2.1.less hs9).take ?_, (hR4.2.2.2.less hs9).take ?_, by show (t.take N).length ≤ ca'; omega, by show (u.take M).length ≤ cb'; omega⟩
      · show _ = Value.agg #[Value.slice X' (t.take N).length ca', Value.int .i64 (N : Int), Value.slice Y' (u.take M).length cb', Value.int .i64 (M : Int)]
        rw [eN, eM]
      · show (t.take N).length ≤ t.length
        omega
      · show (u.take M).length ≤ u.length
        omega
end Go.Proofs.Ytfdldbfjeamlcaa.LogCrashC
/-! Acts and losses of power on a log that may be, in the words of LogLasts. No conditions but those named. -/
namespace Go.Proofs.Ytfdldbfjeamlcaa.LogLastC
open Go.RowKit Mem LogMath LogProg LogDeeds LogRetC LogDoC LogCrashC
set_option linter.unusedVariables false
set_option linter.unusedSimpArgs false

/-- A log that may be. -/
structure May (t u : List Int) (p q : Nat) : Prop where
  ht : t.length ≤ 262144
  hu : u.length ≤ 262144
  hp : p ≤ t.length
  hq : q ≤ u.length
theorem May.ok {t u : List Int} {p q : Nat} (h : May t u p q) : mayL ⟨⟨t, (p : Int)⟩, ⟨u, (q : Int)⟩⟩ = true := by
  obtain ⟨h1, h2, h3, h4⟩ := h
  exact mayL_ok (mayA_4 (by show ¬ (262144 : Int) < t.length; omega) (by show ¬ (p : Int) < 0; omega) (by show ¬ (t.length : Int) < p; omega)) (mayA_4 (by show ¬ (262144 : Int) < u.length; omega) (by show ¬ (q : Int) < 0; omega) (by show ¬ (u.length : Int) < q; omega))
theorem lSync0 (t u : List Int) (p q : Nat) (X : Option Addr) (ca : Nat) (Y : Option Addr) (cb : Nat) (h : May t u p q) (w : World) (hX : TAt w X t) (hY : TAt w Y u) :
    Calls Try.prog 28 #[.agg #[.slice X t.length ca, .int .i64 (p : Int), .slice Y u.length cb, .int .i64 (q : Int)], .agg #[.int .u8 3, .int .i64 0, .slice none 0 0]] w fun e w' =>
      (∃ X3 ca3 Y3 cb3, e = .returned (.tuple #[.agg #[.slice X3 t.length ca3, .int .i64 (t.length : Int), .slice Y3 u.length cb3, .int .i64 (q : Int)], .int .i64 0]) ∧ TAt w' X3 t ∧ TAt w' Y3 u ∧ t.length ≤ ca3 ∧ u.length ≤ cb3) ∧ Below w.heap.size w w' := by
  refine (lDoOk30 ⟨t, (p : Int)⟩ ⟨u, (q : Int)⟩ X ca Y cb none 0 [] h.ok rfl (by have := h.ht; show (t.length : Int) + ((0 : Nat) : Int) ≤ 262144; omega) w hX hY).mono ?_
  rintro e w' ⟨v, rfl, ⟨X3, ca3, Y3, cb3, rfl, h1, h2, _, _, h3, h4⟩, hB⟩
  exact ⟨⟨X3, ca3, Y3, cb3, rfl, h1, h2, h3, h4⟩, hB⟩
theorem lSync1 (t u : List Int) (p q : Nat) (X : Option Addr) (ca : Nat) (Y : Option Addr) (cb : Nat) (h : May t u p q) (w : World) (hX : TAt w X t) (hY : TAt w Y u) :
    Calls Try.prog 28 #[.agg #[.slice X t.length ca, .int .i64 (p : Int), .slice Y u.length cb, .int .i64 (q : Int)], .agg #[.int .u8 3, .int .i64 1, .slice none 0 0]] w fun e w' =>
      (∃ X3 ca3 Y3 cb3, e = .returned (.tuple #[.agg #[.slice X3 t.length ca3, .int .i64 (p : Int), .slice Y3 u.length cb3, .int .i64 (u.length : Int)], .int .i64 0]) ∧ TAt w' X3 t ∧ TAt w' Y3 u ∧ t.length ≤ ca3 ∧ u.length ≤ cb3) ∧ Below w.heap.size w w' := by
  refine (lDoOk31 ⟨t, (p : Int)⟩ ⟨u, (q : Int)⟩ X ca Y cb none 0 [] h.ok rfl (by have := h.hu; show (u.length : Int) + ((0 : Nat) : Int) ≤ 262144; omega) w hX hY).mono ?_
  rintro e w' ⟨v, rfl, ⟨X3, ca3, Y3, cb3, rfl, h1, h2, _, _, h3, h4⟩, hB⟩
  exact ⟨⟨X3, ca3, Y3, cb3, rfl, h1, h2, h3, h4⟩, hB⟩
/-- A loss of power: N and M are what is left. -/
theorem lCrashN (t u : List Int) (a b p q : Nat) (X : Option Addr) (ca : Nat) (Y : Option Addr) (cb : Nat) (m n : Int) (ha : a = t.length) (hb : b = u.length) (h : May t u p q) (hca : a ≤ ca) (hcb : b ≤ cb) (w : World) (hX : TAt w X t) (hY : TAt w Y u) :
    Calls Try.prog 30 #[.agg #[.slice X a ca, .int .i64 (p : Int), .slice Y b cb, .int .i64 (q : Int)], .agg #[.int .i64 m, .int .i64 n]] w fun e w' =>
      (∃ N M X3 ca3 Y3 cb3, e = .returned (.tuple #[.agg #[.slice X3 N ca3, .int .i64 (N : Int), .slice Y3 M cb3, .int .i64 (M : Int)], .int .i64 0]) ∧ N = leftN p a m ∧ M = leftN q b n ∧ TAt w' X3 (t.take N) ∧ TAt w' Y3 (u.take M) ∧ N ≤ ca3 ∧ M ≤ cb3) ∧ Below w.heap.size w w' := by
  subst ha hb
  have e1 := leftA_eq m h.hp
  have e2 := leftA_eq n h.hq
  have l1 := leftN_le m h.hp
  have l2 := leftN_le n h.hq
  have n1 : (t.take (leftN p t.length m)).length = leftN p t.length m := by rw [List.length_take]; omega
  have n2 : (u.take (leftN q u.length n)).length = leftN q u.length n := by rw [List.length_take]; omega
  refine (lCrashOk t u p q X ca Y cb m n h.ht h.hu h.hp h.hq hca hcb h.ok w hX hY).mono ?_
  rw [(crash_ok (m := m) (n := n) h.ok).1, (crash_ok (m := m) (n := n) h.ok).2]
  rintro e w' ⟨v, rfl, ⟨X3, ca3, Y3, cb3, rfl, h1, h2, _, _, h3, h4⟩, hB⟩
  simp only [leftL, e1, e2, n1, n2] at h1 h2 h3 h4 ⊢
  exact ⟨⟨_, _, X3, ca3, Y3, cb3, rfl, rfl, rfl, h1, h2, h3, h4⟩, hB⟩
theorem lSameN (t u : List Int) (a b : Nat) (k k2 : Int) (X : Option Addr) (ca : Nat) (Y : Option Addr) (cb : Nat) (X' : Option Addr) (ca' : Nat) (Y' : Option Addr) (cb' : Nat) (ha : a = t.length) (hb : b = u.length) (w : World) (hX : TAt w X t) (hY : TAt w Y u) (hX' : TAt w X' t) (hY' : TAt w Y' u) :
    Calls Try.prog 36 #[.agg #[.slice X a ca, .int .i64 k, .slice Y b cb, .int .i64 k2], .agg #[.slice X' a ca', .int .i64 k, .slice Y' b cb', .int .i64 k2]] w fun e w' => e = .returned (.bool true) ∧ Below w.heap.size w w' := by
  subst ha hb
  have := lSame ⟨t, k⟩ ⟨u, k2⟩ X ca Y cb ⟨t, k⟩ ⟨u, k2⟩ X' ca' Y' cb' w hX hY hX' hY'
  rwa [sameL_self] at this
theorem leftN_ge {p n : Nat} (m : Int) (h : p ≤ n) : p ≤ leftN p n m := by unfold leftN; omega
theorem leftN_all {n : Nat} (m : Int) : leftN n n m = n := by unfold leftN; omega
theorem leftN_mono {p n : Nat} (m m2 : Int) (h : p ≤ n) : leftN p n m ≤ leftN p n (max m m2) := by unfold leftN; omega
end Go.Proofs.Ytfdldbfjeamlcaa.LogLastC
