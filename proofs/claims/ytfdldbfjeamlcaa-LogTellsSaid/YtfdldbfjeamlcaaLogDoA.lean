/- log.Do, area 0. -/
import Derived.Test.YtfdldbfjeamlcaaLogDo
namespace Go.Proofs.Ytfdldbfjeamlcaa.LogDoA
open Go.RowKit Mem LogMath LogProg LogRef1 LogRef2 LogRDo LogDeeds LogDo
open Go.Sort (grow)
set_option linter.unusedVariables false
set_option linter.unusedSimpArgs false

set_option maxRecDepth 100000 in
set_option maxHeartbeats 4000000 in
theorem lDoOk10 (x y : AV) (X : Option Addr) (ca : Nat) (Y : Option Addr) (cb : Nat) (T : Option Addr) (ct : Nat) (tx : List Int) (h : mayL ⟨x, y⟩ = true) (htx0 : tx = []) (h3 : (x.t.length : Int) + (tx.length : Int) ≤ 262144) (w : World) (hX : TAt w X x.t) (hY : TAt w Y y.t) :
    Calls Try.prog 28 #[.agg #[.slice X x.t.length ca, .int .i64 x.k, .slice Y y.t.length cb, .int .i64 y.k], .agg #[.int .u8 1, .int .i64 0, .slice T tx.length ct]] w fun e w' => ∃ v, e = .returned (.tuple #[v, .int .i64 0]) ∧ RetL w' w.heap.size ⟨AV.z, y⟩ v ∧ Below w.heap.size w w' := by
  subst htx0
  simp only [List.length_nil] at h3
  have EE := Lib.hid (check_ok h)
  obtain ⟨l1, l2, _, _, _, _⟩ := mayL_len h
  have f1 : IntKind.i64.wrap (262144 - (x.t.length : Int)) = 262144 - (x.t.length : Int) := IntWalk.i64_in _ (by omega)
  have g1 : ¬ 262144 - (x.t.length : Int) < (0 : Int) := by omega
  have HX := Lib.hid (And.intro hX hY)
  clear hX hY
  go_enter Try.func28, Try.ntmps28
  go_wp2_with fail
  refine (lCheck x y X ca Y cb _).mono ?_
  rintro e w1 ⟨rfl, hB1⟩
  rw [EE.out]
  have hL := ((Blk.new w 70 #[.slice X x.t.length ca, .int .i64 x.k, .slice Y y.t.length cb, .int .i64 y.k]).alloc (.cells #[.int .u8 1, .int .i64 0, .slice T ([] : List Int).length ct] 72)).alloc (.cells #[.slice none 0 0, .int .i64 0, .slice none 0 0, .int .i64 0] 70) |>.below hB1 (by simp; omega)
  have hA := (blk1 w 72 #[.int .u8 1, .int .i64 0, .slice T ([] : List Int).length ct] (o := .cells #[.slice X x.t.length ca, .int .i64 x.k, .slice Y y.t.length cb, .int .i64 y.k] 70)).alloc (.cells #[.slice none 0 0, .int .i64 0, .slice none 0 0, .int .i64 0] 70) |>.below hB1 (by simp)
  have hZ := (blk2 w 70 #[.slice none 0 0, .int .i64 0, .slice none 0 0, .int .i64 0] (o := .cells #[.slice X x.t.length ca, .int .i64 x.k, .slice Y y.t.length cb, .int .i64 y.k] 70) (o' := .cells #[.int .u8 1, .int .i64 0, .slice T ([] : List Int).length ct] 72)).below hB1 (by simp)
  have hB := below_up (below_alloc (below_alloc (below_alloc (Below.refl _ _)))) hB1
  clear hB1
  have q0 : w1.cell? ⟨w.heap.size + 1, 0, none⟩ = some (.int .u8 1) := hA.cell 0
  have q1 : w1.cell? ⟨w.heap.size + 1, 1, none⟩ = some (.int .i64 0) := hA.cell 1
  have q2 : w1.cell? ⟨w.heap.size + 1, 2, none⟩ = some (.slice T ([] : List Int).length ct) := hA.cell 2
  have H1 := Lib.hid (And.intro hL (And.intro hA (And.intro hZ hB)))
  have K0 : KeptL w1 [(⟨w.heap.size + 1, 0, none⟩, .int .u8 1)] w1.drew := KeptL.drew ⟨Below.refl _ _, q0⟩
  clear hL hA hZ hB
  go_upto_region 4 with fail
  go_region_held3 (fun W => Below w1.heap.size w1 W ∧ W.cell? ⟨w.heap.size + 1, 0, none⟩ = some (.int .u8 1)) (first | exact K0 | exact KeptL.alloc (fs := [(⟨w.heap.size + 1, 0, none⟩, .int .u8 1)]) (by assumption) _ | exact KeptL.up (fs := [(⟨w.heap.size + 1, 0, none⟩, .int .u8 1)]) (by assumption) (by assumption) | assumption) (first | (go_at_call 59; refine (deeds_any _).mono ?_; rintro e w2 ⟨bm, rfl, hDM, hB2⟩; have hlk := run_look hDM 1))
  have hBq : Below w1.heap.size w1 w2 := And.left (by assumption)
  have hL := H1.out.1.below hBq H1.out.1.lt
  have hA := H1.out.2.1.below hBq H1.out.2.1.lt
  have hZ := H1.out.2.2.1.below hBq H1.out.2.2.1.lt
  have hB := below_up H1.out.2.2.2 hBq
  clear H1 K0 q0 q1 q2 hBq
  rw [show deedB 1 = true from rfl, show deedV 1 = d1 from rfl]
  unfold d1
  have a0 : w2.cell? ⟨w.heap.size + 1, 0, none⟩ = some (.int .u8 1) := hA.cell 0
  have a1 : w2.cell? ⟨w.heap.size + 1, 1, none⟩ = some (.int .i64 0) := hA.cell 1
  have a2 : w2.cell? ⟨w.heap.size + 1, 2, none⟩ = some (.slice T ([] : List Int).length ct) := hA.cell 2
  have p : w2.cell? ⟨w.heap.size, 0, none⟩ = some (.slice X x.t.length ca) := hL.cell 0
  
  go_wp2_with fail
  have kq0 := cell_regrown p
  have kq1 := cell_regrown a1
  have kq2 := cell_regrown a2
  refine wp_region_quiet_below (by kernel_rfl) (by kernel_rfl) ?_
  repeat (go_big_quiet_step (first | fail))
  refine wpQuiet_nil ?_
  intro _ hw'
  obtain ⟨⟨dq, osq⟩, hw''⟩ := hw'
  subst hw''
  have hBq := below_regrown w2 dq osq
  clear kq0 kq1 kq2
  generalize grow (redrawn w2 dq) osq = w3 at *
  have hL3 := hL.below hBq hL.lt
  have hA3 := hA.below hBq hA.lt
  have hZ3 := hZ.below hBq hZ.lt
  have hB3 := below_up hB hBq
  clear hBq hL hA hZ hB p a0 a1 a2
  have l0 : w3.cell? ⟨w.heap.size, 0, none⟩ = some (.slice X x.t.length ca) := hL3.cell 0
  have l1 : w3.cell? ⟨w.heap.size, 1, none⟩ = some (.int .i64 x.k) := hL3.cell 1
  have l2 : w3.cell? ⟨w.heap.size, 2, none⟩ = some (.slice Y y.t.length cb) := hL3.cell 2
  have l3 : w3.cell? ⟨w.heap.size, 3, none⟩ = some (.int .i64 y.k) := hL3.cell 3
  have H3 := Lib.hid (And.intro hZ3 (And.intro hB3 (And.intro hA3 hL3)))
  clear hZ3 hB3 hA3 hL3
  go_wp2_with fail
  refine (lTwin x y X ca Y cb (by omega) (by omega) _ (HX.out.1.up H3.out.2.1) (HX.out.2.up H3.out.2.1)).mono ?_
  rintro e w4 ⟨X', ca', Y', cb', rfl, hO, hP, hne, hB4⟩
  have hZ4 := H3.out.1.below hB4 H3.out.1.lt
  have hA4 := H3.out.2.2.1.below hB4 H3.out.2.2.1.lt
  have hL4 := H3.out.2.2.2.below hB4 H3.out.2.2.2.lt
  have hB5 := below_up H3.out.2.1 hB4
  have hs : w.heap.size + 1 + 1 < w3.heap.size := H3.out.1.lt
  have hs0 : w3.heap.size ≤ w4.heap.size := hB4.size
  have hs9 := H3.out.2.1.size
  have m0 : w4.cell? ⟨w.heap.size, 0, none⟩ = some (.slice X x.t.length ca) := hL4.cell 0
  have m1 : w4.cell? ⟨w.heap.size, 1, none⟩ = some (.int .i64 x.k) := hL4.cell 1
  have m2 : w4.cell? ⟨w.heap.size, 2, none⟩ = some (.slice Y y.t.length cb) := hL4.cell 2
  have m3 : w4.cell? ⟨w.heap.size, 3, none⟩ = some (.int .i64 y.k) := hL4.cell 3
  have mf0 := hL4.frozen 0
  have mf1 := hL4.frozen 1
  have mf2 := hL4.frozen 2
  have mf3 := hL4.frozen 3
  have H4 := Lib.hid (And.intro hZ4 (And.intro hA4 (And.intro hL4 (And.intro hB5 (And.intro hO (And.intro hP hne))))))
  clear hO hP hne hB4 hZ4 hA4 hL4 hB5 H3 l0 l1 l2 l3
  go_upto_region 10 with fail
  have hK5 := W4.blk H4.out.2.2.1 (.slice X' x.t.length ca') (.int .i64 x.k) (.slice Y' y.t.length cb') (.int .i64 y.k)
  have hB5 := W4.below (g := w.heap.size) H4.out.2.2.2.1 (Nat.le_refl _) (.slice X' x.t.length ca') (.int .i64 x.k) (.slice Y' y.t.length cb') (.int .i64 y.k)
  have hA5 := W4.far (g := w.heap.size) H4.out.2.1 (by omega) (.slice X' x.t.length ca') (.int .i64 x.k) (.slice Y' y.t.length cb') (.int .i64 y.k)
  have hZ5 := W4.far (g := w.heap.size) H4.out.1 (by omega) (.slice X' x.t.length ca') (.int .i64 x.k) (.slice Y' y.t.length cb') (.int .i64 y.k)
  have hO5 := W4.own (g := w.heap.size) H4.out.2.2.2.2.1 (own_ne H4.out.2.2.2.2.1 (by omega)) (.slice X' x.t.length ca') (.int .i64 x.k) (.slice Y' y.t.length cb') (.int .i64 y.k)
  have hP5 := W4.own (g := w.heap.size) H4.out.2.2.2.2.2.1 (own_ne H4.out.2.2.2.2.2.1 (by omega)) (.slice X' x.t.length ca') (.int .i64 x.k) (.slice Y' y.t.length cb') (.int .i64 y.k)
  have hs5 := W4.size w4 w.heap.size (.slice X' x.t.length ca') (.int .i64 x.k) (.slice Y' y.t.length cb') (.int .i64 y.k)
  have hne := H4.out.2.2.2.2.2.2
  clear m0 m1 m2 m3 mf0 mf1 mf2 mf3
  rw [show ((((w4.setCell ⟨w.heap.size, 0, none⟩ (.slice X' x.t.length ca')).setCell ⟨w.heap.size, 1, none⟩ (.int .i64 x.k)).setCell ⟨w.heap.size, 2, none⟩ (.slice Y' y.t.length cb')).setCell ⟨w.heap.size, 3, none⟩ (.int .i64 y.k)) = W4 w4 (w.heap.size) (.slice X' x.t.length ca') (.int .i64 x.k) (.slice Y' y.t.length cb') (.int .i64 y.k) from rfl]
  generalize W4 w4 (w.heap.size) (.slice X' x.t.length ca') (.int .i64 x.k) (.slice Y' y.t.length cb') (.int .i64 y.k) = w5 at *
  clear H4
  have H5 := Lib.hid (And.intro hZ5 (And.intro hA5 (And.intro hK5 (And.intro hB5 (And.intro hO5 (And.intro hP5 hne))))))
  have a0 : w5.cell? ⟨w.heap.size + 1, 0, none⟩ = some (.int .u8 1) := hA5.cell 0
  have a1 : w5.cell? ⟨w.heap.size + 1, 1, none⟩ = some (.int .i64 0) := hA5.cell 1
  have a2 : w5.cell? ⟨w.heap.size + 1, 2, none⟩ = some (.slice T ([] : List Int).length ct) := hA5.cell 2
  have m0 : w5.cell? ⟨w.heap.size, 0, none⟩ = some (.slice X' x.t.length ca') := hK5.cell 0
  have m1 : w5.cell? ⟨w.heap.size, 1, none⟩ = some (.int .i64 x.k) := hK5.cell 1
  have m2 : w5.cell? ⟨w.heap.size, 2, none⟩ = some (.slice Y' y.t.length cb') := hK5.cell 2
  have m3 : w5.cell? ⟨w.heap.size, 3, none⟩ = some (.int .i64 y.k) := hK5.cell 3
  have mf0 := hK5.frozen 0
  have mf1 := hK5.frozen 1
  have mf2 := hK5.frozen 2
  have mf3 := hK5.frozen 3
  clear hZ5 hA5 hK5 hB5 hO5 hP5 hne
  go_region_with (first | (go_at_call 92; refine (deed1_0 w.heap.size _ _ T ([] : List Int).length ct w5.drew m0 m1 mf0 mf1).mono ?_; rintro e w6 ⟨⟨v6, rfl⟩, hw6⟩; have HW6 := Lib.hid hw6; clear hw6))
  all_goals
    clear a0 a1 a2 m0 m1 m2 m3 mf0 mf1 mf2 mf3
    have hK6 : Blk w6 w.heap.size 70 #[.slice none 0 0, .int .i64 0, .slice Y' y.t.length cb', .int .i64 y.k] := by
      rw [HW6.out]; exact ((H5.out.2.2.1.drew.set_ 0 (.slice none 0 0)).set_ 1 (.int .i64 0))
    have hZ6 : Blk w6 (w.heap.size + 1 + 1) 70 #[.slice none 0 0, .int .i64 0, .slice none 0 0, .int .i64 0] := by
      rw [HW6.out]; exact ((H5.out.1.drew.far (p := ⟨w.heap.size, 0, none⟩) (by simp <;> omega) (.slice none 0 0)).far (p := ⟨w.heap.size, 1, none⟩) (by simp <;> omega) (.int .i64 0))
    have hB6 : Below w.heap.size w w6 := by
      rw [HW6.out]; exact ((H5.out.2.2.2.1.drew.setCell (p := ⟨w.heap.size, 0, none⟩) (Nat.le_refl _) (.slice none 0 0)).setCell (p := ⟨w.heap.size, 1, none⟩) (Nat.le_refl _) (.int .i64 0))
    have hR6 := RetL.of_own (m := ⟨AV.z, y⟩) (show TOwn ((w5.drew.setCell ⟨w.heap.size, 0, none⟩ (.slice none 0 0)).setCell ⟨w.heap.size, 1, none⟩ (.int .i64 0)) w3.heap.size (.slice none 0 0) [] from World.ownsRow_nil _ _ _ _) (Go.RowKit.ownsRow_setCell_below (Go.RowKit.ownsRow_setCell_below H5.out.2.2.2.2.2.1.drew (a := ⟨w.heap.size, 0, none⟩) (by show w.heap.size < w3.heap.size; omega) (.slice none 0 0)) (a := ⟨w.heap.size, 1, none⟩) (by show w.heap.size < w3.heap.size; omega) (.int .i64 0))
    change RetL ((w5.drew.setCell ⟨w.heap.size, 0, none⟩ (.slice none 0 0)).setCell ⟨w.heap.size, 1, none⟩ (.int .i64 0)) _ _ (.agg #[.slice none 0 0, .int .i64 0, .slice Y' y.t.length cb', .int .i64 y.k]) at hR6
    rw [← HW6.out] at hR6
    have y0 : w6.cell? ⟨w.heap.size, 0, none⟩ = some (.slice none 0 0) := hK6.cell 0
    have y1 : w6.cell? ⟨w.heap.size, 1, none⟩ = some (.int .i64 0) := hK6.cell 1
    have y2 : w6.cell? ⟨w.heap.size, 2, none⟩ = some (.slice Y' y.t.length cb') := hK6.cell 2
    have y3 : w6.cell? ⟨w.heap.size, 3, none⟩ = some (.int .i64 y.k) := hK6.cell 3
    have z0 : w6.cell? ⟨w.heap.size + 1 + 1, 0, none⟩ = some (.slice none 0 0) := hZ6.cell 0
    have z1 : w6.cell? ⟨w.heap.size + 1 + 1, 1, none⟩ = some (.int .i64 0) := hZ6.cell 1
    have z2 : w6.cell? ⟨w.heap.size + 1 + 1, 2, none⟩ = some (.slice none 0 0) := hZ6.cell 2
    have z3 : w6.cell? ⟨w.heap.size + 1 + 1, 3, none⟩ = some (.int .i64 0) := hZ6.cell 3
    have zf0 := hZ6.frozen 0
    have zf1 := hZ6.frozen 1
    have zf2 := hZ6.frozen 2
    have zf3 := hZ6.frozen 3
    have HH := Lib.hid (And.intro hZ6 (And.intro hB6 hR6))
    clear hZ6 hB6 hR6 hK6 HW6 H5 HX
    go_wp2_with fail
    have hK4 := W4.blk HH.out.1 (.slice none 0 0) (.int .i64 0) (.slice Y' y.t.length cb') (.int .i64 y.k)
    have hB4 := W4.below (g := w.heap.size + 1 + 1) HH.out.2.1 (by omega) (.slice none 0 0) (.int .i64 0) (.slice Y' y.t.length cb') (.int .i64 y.k)
    have hR4 := RetL.w4 (g := w.heap.size + 1 + 1) HH.out.2.2 hs (.slice none 0 0) (.int .i64 0) (.slice Y' y.t.length cb') (.int .i64 y.k)
    clear HH z0 z1 z2 z3 zf0 zf1 zf2 zf3 y0 y1 y2 y3
    rw [show ((((w6.setCell ⟨w.heap.size + 1 + 1, 0, none⟩ (.slice none 0 0)).setCell ⟨w.heap.size + 1 + 1, 1, none⟩ (.int .i64 0)).setCell ⟨w.heap.size + 1 + 1, 2, none⟩ (.slice Y' y.t.length cb')).setCell ⟨w.heap.size + 1 + 1, 3, none⟩ (.int .i64 y.k)) = W4 w6 (w.heap.size + 1 + 1) (.slice none 0 0) (.int .i64 0) (.slice Y' y.t.length cb') (.int .i64 y.k) from rfl]
    generalize W4 w6 (w.heap.size + 1 + 1) (.slice none 0 0) (.int .i64 0) (.slice Y' y.t.length cb') (.int .i64 y.k) = w9 at *
    have c0 := hK4.cell 0
    have c1 := hK4.cell 1
    have c2 := hK4.cell 2
    have c3 := hK4.cell 3
    simp only [List.getElem?_toArray, List.getElem?_cons_zero, List.getElem?_cons_succ] at c0 c1 c2 c3
    exact bodyPost_ret (v := .tuple #[.agg #[.slice none 0 0, .int .i64 0, .slice Y' y.t.length cb', .int .i64 y.k], .int .i64 0]) (by simp [results, Try.results28, go_sem, c0, c1, c2, c3]) rfl ⟨_, rfl, hR4.less hs9, hB4⟩
set_option maxRecDepth 100000 in
set_option maxHeartbeats 4000000 in
theorem lDoOkZ20 (x y : AV) (X : Option Addr) (ca : Nat) (Y : Option Addr) (cb : Nat) (T : Option Addr) (ct : Nat) (tx : List Int) (h : mayL ⟨x, y⟩ = true) (htx0 : tx = []) (h3 : (x.t.length : Int) + (tx.length : Int) ≤ 262144) (w : World) (hX : TAt w X x.t) (hY : TAt w Y y.t) (hT : TAt w T tx) :
    Calls Try.prog 28 #[.agg #[.slice X x.t.length ca, .int .i64 x.k, .slice Y y.t.length cb, .int .i64 y.k], .agg #[.int .u8 2, .int .i64 0, .slice T tx.length ct]] w fun e w' => ∃ v, e = .returned (.tuple #[v, .int .i64 0]) ∧ RetL w' w.heap.size ⟨⟨x.t ++ tx, x.k⟩, y⟩ v ∧ Below w.heap.size w w' := by
  subst htx0
  simp only [List.length_nil] at h3
  have EE := Lib.hid (check_ok h)
  obtain ⟨l1, l2, _, _, _, _⟩ := mayL_len h
  have f1 : IntKind.i64.wrap (262144 - (x.t.length : Int)) = 262144 - (x.t.length : Int) := IntWalk.i64_in _ (by omega)
  have g1 : ¬ 262144 - (x.t.length : Int) < (0 : Int) := by omega
  have HX := Lib.hid (And.intro hX hY)
  clear hX hY
  have HT := Lib.hid hT
  clear hT
  go_enter Try.func28, Try.ntmps28
  go_wp2_with fail
  refine (lCheck x y X ca Y cb _).mono ?_
  rintro e w1 ⟨rfl, hB1⟩
  rw [EE.out]
  have hL := ((Blk.new w 70 #[.slice X x.t.length ca, .int .i64 x.k, .slice Y y.t.length cb, .int .i64 y.k]).alloc (.cells #[.int .u8 2, .int .i64 0, .slice T ([] : List Int).length ct] 72)).alloc (.cells #[.slice none 0 0, .int .i64 0, .slice none 0 0, .int .i64 0] 70) |>.below hB1 (by simp; omega)
  have hA := (blk1 w 72 #[.int .u8 2, .int .i64 0, .slice T ([] : List Int).length ct] (o := .cells #[.slice X x.t.length ca, .int .i64 x.k, .slice Y y.t.length cb, .int .i64 y.k] 70)).alloc (.cells #[.slice none 0 0, .int .i64 0, .slice none 0 0, .int .i64 0] 70) |>.below hB1 (by simp)
  have hZ := (blk2 w 70 #[.slice none 0 0, .int .i64 0, .slice none 0 0, .int .i64 0] (o := .cells #[.slice X x.t.length ca, .int .i64 x.k, .slice Y y.t.length cb, .int .i64 y.k] 70) (o' := .cells #[.int .u8 2, .int .i64 0, .slice T ([] : List Int).length ct] 72)).below hB1 (by simp)
  have hB := below_up (below_alloc (below_alloc (below_alloc (Below.refl _ _)))) hB1
  clear hB1
  have q0 : w1.cell? ⟨w.heap.size + 1, 0, none⟩ = some (.int .u8 2) := hA.cell 0
  have q1 : w1.cell? ⟨w.heap.size + 1, 1, none⟩ = some (.int .i64 0) := hA.cell 1
  have q2 : w1.cell? ⟨w.heap.size + 1, 2, none⟩ = some (.slice T ([] : List Int).length ct) := hA.cell 2
  have H1 := Lib.hid (And.intro hL (And.intro hA (And.intro hZ hB)))
  have K0 : KeptL w1 [(⟨w.heap.size + 1, 0, none⟩, .int .u8 2)] w1.drew := KeptL.drew ⟨Below.refl _ _, q0⟩
  clear hL hA hZ hB
  go_upto_region 4 with fail
  go_region_held3 (fun W => Below w1.heap.size w1 W ∧ W.cell? ⟨w.heap.size + 1, 0, none⟩ = some (.int .u8 2)) (first | exact K0 | exact KeptL.alloc (fs := [(⟨w.heap.size + 1, 0, none⟩, .int .u8 2)]) (by assumption) _ | exact KeptL.up (fs := [(⟨w.heap.size + 1, 0, none⟩, .int .u8 2)]) (by assumption) (by assumption) | assumption) (first | (go_at_call 59; refine (deeds_any _).mono ?_; rintro e w2 ⟨bm, rfl, hDM, hB2⟩; have hlk := run_look hDM 2))
  have hBq : Below w1.heap.size w1 w2 := And.left (by assumption)
  have hL := H1.out.1.below hBq H1.out.1.lt
  have hA := H1.out.2.1.below hBq H1.out.2.1.lt
  have hZ := H1.out.2.2.1.below hBq H1.out.2.2.1.lt
  have hB := below_up H1.out.2.2.2 hBq
  clear H1 K0 q0 q1 q2 hBq
  rw [show deedB 2 = true from rfl, show deedV 2 = d2 from rfl]
  unfold d2
  have a0 : w2.cell? ⟨w.heap.size + 1, 0, none⟩ = some (.int .u8 2) := hA.cell 0
  have a1 : w2.cell? ⟨w.heap.size + 1, 1, none⟩ = some (.int .i64 0) := hA.cell 1
  have a2 : w2.cell? ⟨w.heap.size + 1, 2, none⟩ = some (.slice T ([] : List Int).length ct) := hA.cell 2
  have p : w2.cell? ⟨w.heap.size, 0, none⟩ = some (.slice X x.t.length ca) := hL.cell 0
  
  go_wp2_with fail
  have kq0 := cell_regrown p
  have kq1 := cell_regrown a1
  have kq2 := cell_regrown a2
  refine wp_region_quiet_below (by kernel_rfl) (by kernel_rfl) ?_
  repeat (go_big_quiet_step (first | fail))
  refine wpQuiet_nil ?_
  intro _ hw'
  obtain ⟨⟨dq, osq⟩, hw''⟩ := hw'
  subst hw''
  have hBq := below_regrown w2 dq osq
  clear kq0 kq1 kq2
  generalize grow (redrawn w2 dq) osq = w3 at *
  have hL3 := hL.below hBq hL.lt
  have hA3 := hA.below hBq hA.lt
  have hZ3 := hZ.below hBq hZ.lt
  have hB3 := below_up hB hBq
  clear hBq hL hA hZ hB p a0 a1 a2
  have l0 : w3.cell? ⟨w.heap.size, 0, none⟩ = some (.slice X x.t.length ca) := hL3.cell 0
  have l1 : w3.cell? ⟨w.heap.size, 1, none⟩ = some (.int .i64 x.k) := hL3.cell 1
  have l2 : w3.cell? ⟨w.heap.size, 2, none⟩ = some (.slice Y y.t.length cb) := hL3.cell 2
  have l3 : w3.cell? ⟨w.heap.size, 3, none⟩ = some (.int .i64 y.k) := hL3.cell 3
  have H3 := Lib.hid (And.intro hZ3 (And.intro hB3 (And.intro hA3 hL3)))
  clear hZ3 hB3 hA3 hL3
  go_wp2_with fail
  refine (lTwin x y X ca Y cb (by omega) (by omega) _ (HX.out.1.up H3.out.2.1) (HX.out.2.up H3.out.2.1)).mono ?_
  rintro e w4 ⟨X', ca', Y', cb', rfl, hO, hP, hne, hB4⟩
  have hZ4 := H3.out.1.below hB4 H3.out.1.lt
  have hA4 := H3.out.2.2.1.below hB4 H3.out.2.2.1.lt
  have hL4 := H3.out.2.2.2.below hB4 H3.out.2.2.2.lt
  have hB5 := below_up H3.out.2.1 hB4
  have hs : w.heap.size + 1 + 1 < w3.heap.size := H3.out.1.lt
  have hs0 : w3.heap.size ≤ w4.heap.size := hB4.size
  have hs9 := H3.out.2.1.size
  have m0 : w4.cell? ⟨w.heap.size, 0, none⟩ = some (.slice X x.t.length ca) := hL4.cell 0
  have m1 : w4.cell? ⟨w.heap.size, 1, none⟩ = some (.int .i64 x.k) := hL4.cell 1
  have m2 : w4.cell? ⟨w.heap.size, 2, none⟩ = some (.slice Y y.t.length cb) := hL4.cell 2
  have m3 : w4.cell? ⟨w.heap.size, 3, none⟩ = some (.int .i64 y.k) := hL4.cell 3
  have mf0 := hL4.frozen 0
  have mf1 := hL4.frozen 1
  have mf2 := hL4.frozen 2
  have mf3 := hL4.frozen 3
  have H4 := Lib.hid (And.intro hZ4 (And.intro hA4 (And.intro hL4 (And.intro hB5 (And.intro hO (And.intro hP hne))))))
  clear hO hP hne hB4 hZ4 hA4 hL4 hB5 H3 l0 l1 l2 l3
  go_upto_region 10 with fail
  have hK5 := W4.blk H4.out.2.2.1 (.slice X' x.t.length ca') (.int .i64 x.k) (.slice Y' y.t.length cb') (.int .i64 y.k)
  have hB5 := W4.below (g := w.heap.size) H4.out.2.2.2.1 (Nat.le_refl _) (.slice X' x.t.length ca') (.int .i64 x.k) (.slice Y' y.t.length cb') (.int .i64 y.k)
  have hA5 := W4.far (g := w.heap.size) H4.out.2.1 (by omega) (.slice X' x.t.length ca') (.int .i64 x.k) (.slice Y' y.t.length cb') (.int .i64 y.k)
  have hZ5 := W4.far (g := w.heap.size) H4.out.1 (by omega) (.slice X' x.t.length ca') (.int .i64 x.k) (.slice Y' y.t.length cb') (.int .i64 y.k)
  have hO5 := W4.own (g := w.heap.size) H4.out.2.2.2.2.1 (own_ne H4.out.2.2.2.2.1 (by omega)) (.slice X' x.t.length ca') (.int .i64 x.k) (.slice Y' y.t.length cb') (.int .i64 y.k)
  have hP5 := W4.own (g := w.heap.size) H4.out.2.2.2.2.2.1 (own_ne H4.out.2.2.2.2.2.1 (by omega)) (.slice X' x.t.length ca') (.int .i64 x.k) (.slice Y' y.t.length cb') (.int .i64 y.k)
  have hs5 := W4.size w4 w.heap.size (.slice X' x.t.length ca') (.int .i64 x.k) (.slice Y' y.t.length cb') (.int .i64 y.k)
  have hne := H4.out.2.2.2.2.2.2
  clear m0 m1 m2 m3 mf0 mf1 mf2 mf3
  rw [show ((((w4.setCell ⟨w.heap.size, 0, none⟩ (.slice X' x.t.length ca')).setCell ⟨w.heap.size, 1, none⟩ (.int .i64 x.k)).setCell ⟨w.heap.size, 2, none⟩ (.slice Y' y.t.length cb')).setCell ⟨w.heap.size, 3, none⟩ (.int .i64 y.k)) = W4 w4 (w.heap.size) (.slice X' x.t.length ca') (.int .i64 x.k) (.slice Y' y.t.length cb') (.int .i64 y.k) from rfl]
  generalize W4 w4 (w.heap.size) (.slice X' x.t.length ca') (.int .i64 x.k) (.slice Y' y.t.length cb') (.int .i64 y.k) = w5 at *
  clear H4
  have H5 := Lib.hid (And.intro hZ5 (And.intro hA5 (And.intro hK5 (And.intro hB5 (And.intro hO5 (And.intro hP5 hne))))))
  have a0 : w5.cell? ⟨w.heap.size + 1, 0, none⟩ = some (.int .u8 2) := hA5.cell 0
  have a1 : w5.cell? ⟨w.heap.size + 1, 1, none⟩ = some (.int .i64 0) := hA5.cell 1
  have a2 : w5.cell? ⟨w.heap.size + 1, 2, none⟩ = some (.slice T ([] : List Int).length ct) := hA5.cell 2
  have m0 : w5.cell? ⟨w.heap.size, 0, none⟩ = some (.slice X' x.t.length ca') := hK5.cell 0
  have m1 : w5.cell? ⟨w.heap.size, 1, none⟩ = some (.int .i64 x.k) := hK5.cell 1
  have m2 : w5.cell? ⟨w.heap.size, 2, none⟩ = some (.slice Y' y.t.length cb') := hK5.cell 2
  have m3 : w5.cell? ⟨w.heap.size, 3, none⟩ = some (.int .i64 y.k) := hK5.cell 3
  have mf0 := hK5.frozen 0
  have mf1 := hK5.frozen 1
  have mf2 := hK5.frozen 2
  have mf3 := hK5.frozen 3
  have ht5 := Lib.hid (TAt.up HT.out hB5)
  clear hZ5 hA5 hK5 hB5 hO5 hP5 hne
  go_region_with (first | (go_at_call 93; refine (deed2_0 w.heap.size w3.heap.size _ _ _ T [] ct (by omega) w5.drew (by omega) (by show w3.heap.size ≤ w5.heap.size; omega) H5.out.2.2.2.2.1.drew (ht5.out) _ _ H5.out.2.2.1.drew rfl).mono ?_; rintro e w6 ⟨⟨v6, rfl⟩, w7, X2, cz, hw6, hg7, ho7⟩; have HW6 := Lib.hid hw6; clear hw6))
  all_goals
    clear a0 a1 a2 m0 m1 m2 m3 mf0 mf1 mf2 mf3
    have hK6 : Blk w6 w.heap.size 70 #[.slice X2 x.t.length cz, .int .i64 x.k, .slice Y' y.t.length cb', .int .i64 y.k] := by
      rw [HW6.out]; exact ((H5.out.2.2.1.drew.grown hg7 (fun e => own_ne H5.out.2.2.2.2.1 (by omega) e.symm)).set_ 0 (.slice X2 x.t.length cz))
    have hZ6 : Blk w6 (w.heap.size + 1 + 1) 70 #[.slice none 0 0, .int .i64 0, .slice none 0 0, .int .i64 0] := by
      rw [HW6.out]; exact ((H5.out.1.drew.grown hg7 (fun e => own_ne H5.out.2.2.2.2.1 (by omega) e.symm)).far (p := ⟨w.heap.size, 0, none⟩) (by simp <;> omega) (.slice X2 x.t.length cz))
    have hB6 : Below w.heap.size w w6 := by
      rw [HW6.out]; exact ((H5.out.2.2.2.1.drew.grown hg7 (by have := H5.out.2.2.2.1.size; simpa using this) (fun j hj => by have := (H5.out.2.2.2.2.1.lt j hj).1; omega)).setCell (p := ⟨w.heap.size, 0, none⟩) (Nat.le_refl _) (.slice X2 x.t.length cz))
    have e9 : (x.t ++ []).length = x.t.length + ([] : List Int).length := List.length_append
    have hO6 : TOwn w6 w3.heap.size (.slice X2 (x.t ++ []).length cz) (x.t ++ []) := by
      show World.ownsRow _ _ _ _ (.slice X2 (x.t ++ []).length cz) (x.t ++ []).length _
      rw [HW6.out, e9]
      exact (Go.RowKit.ownsRow_setCell_below ho7 (a := ⟨w.heap.size, 0, none⟩) (by show w.heap.size < w3.heap.size; omega) (.slice X2 x.t.length cz))
    have hP6 : TOwn w6 w3.heap.size (.slice Y' y.t.length cb') y.t := by
      rw [HW6.out]
      exact (Go.RowKit.ownsRow_setCell_below (World.ownsRow.kept (w' := w7) H5.out.2.2.2.2.2.1.drew hg7 (by
      rcases h : (Value.slice Y' y.t.length cb').ownBlock with _ | b
      · exact .inl rfl
      · exact .inr (fun e => H5.out.2.2.2.2.2.2 b e.symm h))) (a := ⟨w.heap.size, 0, none⟩) (by show w.heap.size < w3.heap.size; omega) (.slice X2 x.t.length cz))
    have hR6 := RetL.of_own (m := ⟨⟨x.t ++ [], x.k⟩, y⟩) hO6 hP6
    dsimp only at hR6
    rw [e9] at hR6
    clear hO6 hP6 e9
    have y0 : w6.cell? ⟨w.heap.size, 0, none⟩ = some (.slice X2 x.t.length cz) := hK6.cell 0
    have y1 : w6.cell? ⟨w.heap.size, 1, none⟩ = some (.int .i64 x.k) := hK6.cell 1
    have y2 : w6.cell? ⟨w.heap.size, 2, none⟩ = some (.slice Y' y.t.length cb') := hK6.cell 2
    have y3 : w6.cell? ⟨w.heap.size, 3, none⟩ = some (.int .i64 y.k) := hK6.cell 3
    have z0 : w6.cell? ⟨w.heap.size + 1 + 1, 0, none⟩ = some (.slice none 0 0) := hZ6.cell 0
    have z1 : w6.cell? ⟨w.heap.size + 1 + 1, 1, none⟩ = some (.int .i64 0) := hZ6.cell 1
    have z2 : w6.cell? ⟨w.heap.size + 1 + 1, 2, none⟩ = some (.slice none 0 0) := hZ6.cell 2
    have z3 : w6.cell? ⟨w.heap.size + 1 + 1, 3, none⟩ = some (.int .i64 0) := hZ6.cell 3
    have zf0 := hZ6.frozen 0
    have zf1 := hZ6.frozen 1
    have zf2 := hZ6.frozen 2
    have zf3 := hZ6.frozen 3
    have HH := Lib.hid (And.intro hZ6 (And.intro hB6 hR6))
    clear hZ6 hB6 hR6 hK6 HW6 H5 HX hg7 ho7
    go_wp2_with fail
    have hK4 := W4.blk HH.out.1 (.slice X2 x.t.length cz) (.int .i64 x.k) (.slice Y' y.t.length cb') (.int .i64 y.k)
    have hB4 := W4.below (g := w.heap.size + 1 + 1) HH.out.2.1 (by omega) (.slice X2 x.t.length cz) (.int .i64 x.k) (.slice Y' y.t.length cb') (.int .i64 y.k)
    have hR4 := RetL.w4 (g := w.heap.size + 1 + 1) HH.out.2.2 hs (.slice X2 x.t.length cz) (.int .i64 x.k) (.slice Y' y.t.length cb') (.int .i64 y.k)
    clear HH z0 z1 z2 z3 zf0 zf1 zf2 zf3 y0 y1 y2 y3
    rw [show ((((w6.setCell ⟨w.heap.size + 1 + 1, 0, none⟩ (.slice X2 x.t.length cz)).setCell ⟨w.heap.size + 1 + 1, 1, none⟩ (.int .i64 x.k)).setCell ⟨w.heap.size + 1 + 1, 2, none⟩ (.slice Y' y.t.length cb')).setCell ⟨w.heap.size + 1 + 1, 3, none⟩ (.int .i64 y.k)) = W4 w6 (w.heap.size + 1 + 1) (.slice X2 x.t.length cz) (.int .i64 x.k) (.slice Y' y.t.length cb') (.int .i64 y.k) from rfl]
    generalize W4 w6 (w.heap.size + 1 + 1) (.slice X2 x.t.length cz) (.int .i64 x.k) (.slice Y' y.t.length cb') (.int .i64 y.k) = w9 at *
    have c0 := hK4.cell 0
    have c1 := hK4.cell 1
    have c2 := hK4.cell 2
    have c3 := hK4.cell 3
    simp only [List.getElem?_toArray, List.getElem?_cons_zero, List.getElem?_cons_succ] at c0 c1 c2 c3
    exact bodyPost_ret (v := .tuple #[.agg #[.slice X2 x.t.length cz, .int .i64 x.k, .slice Y' y.t.length cb', .int .i64 y.k], .int .i64 0]) (by simp [results, Try.results28, go_sem, c0, c1, c2, c3]) rfl ⟨_, rfl, hR4.less hs9, hB4⟩
set_option maxRecDepth 100000 in
set_option maxHeartbeats 4000000 in
theorem lDoOkP20 (x y : AV) (X : Option Addr) (ca : Nat) (Y : Option Addr) (cb : Nat) (T : Option Addr) (ct : Nat) (tx : List Int) (h : mayL ⟨x, y⟩ = true) (htx0 : (0 : Int) < tx.length) (h3 : (x.t.length : Int) + (tx.length : Int) ≤ 262144) (w : World) (hX : TAt w X x.t) (hY : TAt w Y y.t) (hT : TAt w T tx) :
    Calls Try.prog 28 #[.agg #[.slice X x.t.length ca, .int .i64 x.k, .slice Y y.t.length cb, .int .i64 y.k], .agg #[.int .u8 2, .int .i64 0, .slice T tx.length ct]] w fun e w' => ∃ v, e = .returned (.tuple #[v, .int .i64 0]) ∧ RetL w' w.heap.size ⟨⟨x.t ++ tx, x.k⟩, y⟩ v ∧ Below w.heap.size w w' := by
  have EE := Lib.hid (check_ok h)
  obtain ⟨l1, l2, _, _, _, _⟩ := mayL_len h
  have f1 : IntKind.i64.wrap (262144 - (x.t.length : Int)) = 262144 - (x.t.length : Int) := IntWalk.i64_in _ (by omega)
  have g1 : ¬ 262144 - (x.t.length : Int) < (tx.length : Int) := by omega
  have HX := Lib.hid (And.intro hX hY)
  clear hX hY
  have HT := Lib.hid hT
  clear hT
  go_enter Try.func28, Try.ntmps28
  go_wp2_with fail
  refine (lCheck x y X ca Y cb _).mono ?_
  rintro e w1 ⟨rfl, hB1⟩
  rw [EE.out]
  have hL := ((Blk.new w 70 #[.slice X x.t.length ca, .int .i64 x.k, .slice Y y.t.length cb, .int .i64 y.k]).alloc (.cells #[.int .u8 2, .int .i64 0, .slice T tx.length ct] 72)).alloc (.cells #[.slice none 0 0, .int .i64 0, .slice none 0 0, .int .i64 0] 70) |>.below hB1 (by simp; omega)
  have hA := (blk1 w 72 #[.int .u8 2, .int .i64 0, .slice T tx.length ct] (o := .cells #[.slice X x.t.length ca, .int .i64 x.k, .slice Y y.t.length cb, .int .i64 y.k] 70)).alloc (.cells #[.slice none 0 0, .int .i64 0, .slice none 0 0, .int .i64 0] 70) |>.below hB1 (by simp)
  have hZ := (blk2 w 70 #[.slice none 0 0, .int .i64 0, .slice none 0 0, .int .i64 0] (o := .cells #[.slice X x.t.length ca, .int .i64 x.k, .slice Y y.t.length cb, .int .i64 y.k] 70) (o' := .cells #[.int .u8 2, .int .i64 0, .slice T tx.length ct] 72)).below hB1 (by simp)
  have hB := below_up (below_alloc (below_alloc (below_alloc (Below.refl _ _)))) hB1
  clear hB1
  have q0 : w1.cell? ⟨w.heap.size + 1, 0, none⟩ = some (.int .u8 2) := hA.cell 0
  have q1 : w1.cell? ⟨w.heap.size + 1, 1, none⟩ = some (.int .i64 0) := hA.cell 1
  have q2 : w1.cell? ⟨w.heap.size + 1, 2, none⟩ = some (.slice T tx.length ct) := hA.cell 2
  have H1 := Lib.hid (And.intro hL (And.intro hA (And.intro hZ hB)))
  have K0 : KeptL w1 [(⟨w.heap.size + 1, 0, none⟩, .int .u8 2)] w1.drew := KeptL.drew ⟨Below.refl _ _, q0⟩
  clear hL hA hZ hB
  go_upto_region 4 with fail
  go_region_held3 (fun W => Below w1.heap.size w1 W ∧ W.cell? ⟨w.heap.size + 1, 0, none⟩ = some (.int .u8 2)) (first | exact K0 | exact KeptL.alloc (fs := [(⟨w.heap.size + 1, 0, none⟩, .int .u8 2)]) (by assumption) _ | exact KeptL.up (fs := [(⟨w.heap.size + 1, 0, none⟩, .int .u8 2)]) (by assumption) (by assumption) | assumption) (first | (go_at_call 59; refine (deeds_any _).mono ?_; rintro e w2 ⟨bm, rfl, hDM, hB2⟩; have hlk := run_look hDM 2))
  have hBq : Below w1.heap.size w1 w2 := And.left (by assumption)
  have hL := H1.out.1.below hBq H1.out.1.lt
  have hA := H1.out.2.1.below hBq H1.out.2.1.lt
  have hZ := H1.out.2.2.1.below hBq H1.out.2.2.1.lt
  have hB := below_up H1.out.2.2.2 hBq
  clear H1 K0 q0 q1 q2 hBq
  rw [show deedB 2 = true from rfl, show deedV 2 = d2 from rfl]
  unfold d2
  have a0 : w2.cell? ⟨w.heap.size + 1, 0, none⟩ = some (.int .u8 2) := hA.cell 0
  have a1 : w2.cell? ⟨w.heap.size + 1, 1, none⟩ = some (.int .i64 0) := hA.cell 1
  have a2 : w2.cell? ⟨w.heap.size + 1, 2, none⟩ = some (.slice T tx.length ct) := hA.cell 2
  have p : w2.cell? ⟨w.heap.size, 0, none⟩ = some (.slice X x.t.length ca) := hL.cell 0
  
  go_wp2_with fail
  have kq0 := cell_regrown p
  have kq1 := cell_regrown a1
  have kq2 := cell_regrown a2
  refine wp_region_quiet_below (by kernel_rfl) (by kernel_rfl) ?_
  repeat (go_big_quiet_step (first | fail))
  refine wpQuiet_nil ?_
  intro _ hw'
  obtain ⟨⟨dq, osq⟩, hw''⟩ := hw'
  subst hw''
  have hBq := below_regrown w2 dq osq
  clear kq0 kq1 kq2
  generalize grow (redrawn w2 dq) osq = w3 at *
  have hL3 := hL.below hBq hL.lt
  have hA3 := hA.below hBq hA.lt
  have hZ3 := hZ.below hBq hZ.lt
  have hB3 := below_up hB hBq
  clear hBq hL hA hZ hB p a0 a1 a2
  have l0 : w3.cell? ⟨w.heap.size, 0, none⟩ = some (.slice X x.t.length ca) := hL3.cell 0
  have l1 : w3.cell? ⟨w.heap.size, 1, none⟩ = some (.int .i64 x.k) := hL3.cell 1
  have l2 : w3.cell? ⟨w.heap.size, 2, none⟩ = some (.slice Y y.t.length cb) := hL3.cell 2
  have l3 : w3.cell? ⟨w.heap.size, 3, none⟩ = some (.int .i64 y.k) := hL3.cell 3
  have H3 := Lib.hid (And.intro hZ3 (And.intro hB3 (And.intro hA3 hL3)))
  clear hZ3 hB3 hA3 hL3
  go_wp2_with fail
  refine (lTwin x y X ca Y cb (by omega) (by omega) _ (HX.out.1.up H3.out.2.1) (HX.out.2.up H3.out.2.1)).mono ?_
  rintro e w4 ⟨X', ca', Y', cb', rfl, hO, hP, hne, hB4⟩
  have hZ4 := H3.out.1.below hB4 H3.out.1.lt
  have hA4 := H3.out.2.2.1.below hB4 H3.out.2.2.1.lt
  have hL4 := H3.out.2.2.2.below hB4 H3.out.2.2.2.lt
  have hB5 := below_up H3.out.2.1 hB4
  have hs : w.heap.size + 1 + 1 < w3.heap.size := H3.out.1.lt
  have hs0 : w3.heap.size ≤ w4.heap.size := hB4.size
  have hs9 := H3.out.2.1.size
  have m0 : w4.cell? ⟨w.heap.size, 0, none⟩ = some (.slice X x.t.length ca) := hL4.cell 0
  have m1 : w4.cell? ⟨w.heap.size, 1, none⟩ = some (.int .i64 x.k) := hL4.cell 1
  have m2 : w4.cell? ⟨w.heap.size, 2, none⟩ = some (.slice Y y.t.length cb) := hL4.cell 2
  have m3 : w4.cell? ⟨w.heap.size, 3, none⟩ = some (.int .i64 y.k) := hL4.cell 3
  have mf0 := hL4.frozen 0
  have mf1 := hL4.frozen 1
  have mf2 := hL4.frozen 2
  have mf3 := hL4.frozen 3
  have H4 := Lib.hid (And.intro hZ4 (And.intro hA4 (And.intro hL4 (And.intro hB5 (And.intro hO (And.intro hP hne))))))
  clear hO hP hne hB4 hZ4 hA4 hL4 hB5 H3 l0 l1 l2 l3
  go_upto_region 10 with fail
  have hK5 := W4.blk H4.out.2.2.1 (.slice X' x.t.length ca') (.int .i64 x.k) (.slice Y' y.t.length cb') (.int .i64 y.k)
  have hB5 := W4.below (g := w.heap.size) H4.out.2.2.2.1 (Nat.le_refl _) (.slice X' x.t.length ca') (.int .i64 x.k) (.slice Y' y.t.length cb') (.int .i64 y.k)
  have hA5 := W4.far (g := w.heap.size) H4.out.2.1 (by omega) (.slice X' x.t.length ca') (.int .i64 x.k) (.slice Y' y.t.length cb') (.int .i64 y.k)
  have hZ5 := W4.far (g := w.heap.size) H4.out.1 (by omega) (.slice X' x.t.length ca') (.int .i64 x.k) (.slice Y' y.t.length cb') (.int .i64 y.k)
  have hO5 := W4.own (g := w.heap.size) H4.out.2.2.2.2.1 (own_ne H4.out.2.2.2.2.1 (by omega)) (.slice X' x.t.length ca') (.int .i64 x.k) (.slice Y' y.t.length cb') (.int .i64 y.k)
  have hP5 := W4.own (g := w.heap.size) H4.out.2.2.2.2.2.1 (own_ne H4.out.2.2.2.2.2.1 (by omega)) (.slice X' x.t.length ca') (.int .i64 x.k) (.slice Y' y.t.length cb') (.int .i64 y.k)
  have hs5 := W4.size w4 w.heap.size (.slice X' x.t.length ca') (.int .i64 x.k) (.slice Y' y.t.length cb') (.int .i64 y.k)
  have hne := H4.out.2.2.2.2.2.2
  clear m0 m1 m2 m3 mf0 mf1 mf2 mf3
  rw [show ((((w4.setCell ⟨w.heap.size, 0, none⟩ (.slice X' x.t.length ca')).setCell ⟨w.heap.size, 1, none⟩ (.int .i64 x.k)).setCell ⟨w.heap.size, 2, none⟩ (.slice Y' y.t.length cb')).setCell ⟨w.heap.size, 3, none⟩ (.int .i64 y.k)) = W4 w4 (w.heap.size) (.slice X' x.t.length ca') (.int .i64 x.k) (.slice Y' y.t.length cb') (.int .i64 y.k) from rfl]
  generalize W4 w4 (w.heap.size) (.slice X' x.t.length ca') (.int .i64 x.k) (.slice Y' y.t.length cb') (.int .i64 y.k) = w5 at *
  clear H4
  have H5 := Lib.hid (And.intro hZ5 (And.intro hA5 (And.intro hK5 (And.intro hB5 (And.intro hO5 (And.intro hP5 hne))))))
  have a0 : w5.cell? ⟨w.heap.size + 1, 0, none⟩ = some (.int .u8 2) := hA5.cell 0
  have a1 : w5.cell? ⟨w.heap.size + 1, 1, none⟩ = some (.int .i64 0) := hA5.cell 1
  have a2 : w5.cell? ⟨w.heap.size + 1, 2, none⟩ = some (.slice T tx.length ct) := hA5.cell 2
  have m0 : w5.cell? ⟨w.heap.size, 0, none⟩ = some (.slice X' x.t.length ca') := hK5.cell 0
  have m1 : w5.cell? ⟨w.heap.size, 1, none⟩ = some (.int .i64 x.k) := hK5.cell 1
  have m2 : w5.cell? ⟨w.heap.size, 2, none⟩ = some (.slice Y' y.t.length cb') := hK5.cell 2
  have m3 : w5.cell? ⟨w.heap.size, 3, none⟩ = some (.int .i64 y.k) := hK5.cell 3
  have mf0 := hK5.frozen 0
  have mf1 := hK5.frozen 1
  have mf2 := hK5.frozen 2
  have mf3 := hK5.frozen 3
  have ht5 := Lib.hid (TAt.up HT.out hB5)
  clear hZ5 hA5 hK5 hB5 hO5 hP5 hne
  go_region_with (first | (go_at_call 93; refine (deed2_0 w.heap.size w3.heap.size _ _ _ T tx ct (by omega) w5.drew (by omega) (by show w3.heap.size ≤ w5.heap.size; omega) H5.out.2.2.2.2.1.drew (ht5.out) _ _ H5.out.2.2.1.drew rfl).mono ?_; rintro e w6 ⟨⟨v6, rfl⟩, w7, X2, cz, hw6, hg7, ho7⟩; have HW6 := Lib.hid hw6; clear hw6))
  all_goals
    clear a0 a1 a2 m0 m1 m2 m3 mf0 mf1 mf2 mf3
    have hK6 : Blk w6 w.heap.size 70 #[.slice X2 (x.t.length + tx.length) cz, .int .i64 x.k, .slice Y' y.t.length cb', .int .i64 y.k] := by
      rw [HW6.out]; exact ((H5.out.2.2.1.drew.grown hg7 (fun e => own_ne H5.out.2.2.2.2.1 (by omega) e.symm)).set_ 0 (.slice X2 (x.t.length + tx.length) cz))
    have hZ6 : Blk w6 (w.heap.size + 1 + 1) 70 #[.slice none 0 0, .int .i64 0, .slice none 0 0, .int .i64 0] := by
      rw [HW6.out]; exact ((H5.out.1.drew.grown hg7 (fun e => own_ne H5.out.2.2.2.2.1 (by omega) e.symm)).far (p := ⟨w.heap.size, 0, none⟩) (by simp <;> omega) (.slice X2 (x.t.length + tx.length) cz))
    have hB6 : Below w.heap.size w w6 := by
      rw [HW6.out]; exact ((H5.out.2.2.2.1.drew.grown hg7 (by have := H5.out.2.2.2.1.size; simpa using this) (fun j hj => by have := (H5.out.2.2.2.2.1.lt j hj).1; omega)).setCell (p := ⟨w.heap.size, 0, none⟩) (Nat.le_refl _) (.slice X2 (x.t.length + tx.length) cz))
    have e9 : (x.t ++ tx).length = x.t.length + tx.length := List.length_append
    have hO6 : TOwn w6 w3.heap.size (.slice X2 (x.t ++ tx).length cz) (x.t ++ tx) := by
      show World.ownsRow _ _ _ _ (.slice X2 (x.t ++ tx).length cz) (x.t ++ tx).length _
      rw [HW6.out, e9]
      exact (Go.RowKit.ownsRow_setCell_below ho7 (a := ⟨w.heap.size, 0, none⟩) (by show w.heap.size < w3.heap.size; omega) (.slice X2 (x.t.length + tx.length) cz))
    have hP6 : TOwn w6 w3.heap.size (.slice Y' y.t.length cb') y.t := by
      rw [HW6.out]
      exact (Go.RowKit.ownsRow_setCell_below (World.ownsRow.kept (w' := w7) H5.out.2.2.2.2.2.1.drew hg7 (by
      rcases h : (Value.slice Y' y.t.length cb').ownBlock with _ | b
      · exact .inl rfl
      · exact .inr (fun e => H5.out.2.2.2.2.2.2 b e.symm h))) (a := ⟨w.heap.size, 0, none⟩) (by show w.heap.size < w3.heap.size; omega) (.slice X2 (x.t.length + tx.length) cz))
    have hR6 := RetL.of_own (m := ⟨⟨x.t ++ tx, x.k⟩, y⟩) hO6 hP6
    dsimp only at hR6
    rw [e9] at hR6
    clear hO6 hP6 e9
    have y0 : w6.cell? ⟨w.heap.size, 0, none⟩ = some (.slice X2 (x.t.length + tx.length) cz) := hK6.cell 0
    have y1 : w6.cell? ⟨w.heap.size, 1, none⟩ = some (.int .i64 x.k) := hK6.cell 1
    have y2 : w6.cell? ⟨w.heap.size, 2, none⟩ = some (.slice Y' y.t.length cb') := hK6.cell 2
    have y3 : w6.cell? ⟨w.heap.size, 3, none⟩ = some (.int .i64 y.k) := hK6.cell 3
    have z0 : w6.cell? ⟨w.heap.size + 1 + 1, 0, none⟩ = some (.slice none 0 0) := hZ6.cell 0
    have z1 : w6.cell? ⟨w.heap.size + 1 + 1, 1, none⟩ = some (.int .i64 0) := hZ6.cell 1
    have z2 : w6.cell? ⟨w.heap.size + 1 + 1, 2, none⟩ = some (.slice none 0 0) := hZ6.cell 2
    have z3 : w6.cell? ⟨w.heap.size + 1 + 1, 3, none⟩ = some (.int .i64 0) := hZ6.cell 3
    have zf0 := hZ6.frozen 0
    have zf1 := hZ6.frozen 1
    have zf2 := hZ6.frozen 2
    have zf3 := hZ6.frozen 3
    have HH := Lib.hid (And.intro hZ6 (And.intro hB6 hR6))
    clear hZ6 hB6 hR6 hK6 HW6 H5 HX hg7 ho7
    go_wp2_with fail
    have hK4 := W4.blk HH.out.1 (.slice X2 (x.t.length + tx.length) cz) (.int .i64 x.k) (.slice Y' y.t.length cb') (.int .i64 y.k)
    have hB4 := W4.below (g := w.heap.size + 1 + 1) HH.out.2.1 (by omega) (.slice X2 (x.t.length + tx.length) cz) (.int .i64 x.k) (.slice Y' y.t.length cb') (.int .i64 y.k)
    have hR4 := RetL.w4 (g := w.heap.size + 1 + 1) HH.out.2.2 hs (.slice X2 (x.t.length + tx.length) cz) (.int .i64 x.k) (.slice Y' y.t.length cb') (.int .i64 y.k)
    clear HH z0 z1 z2 z3 zf0 zf1 zf2 zf3 y0 y1 y2 y3
    rw [show ((((w6.setCell ⟨w.heap.size + 1 + 1, 0, none⟩ (.slice X2 (x.t.length + tx.length) cz)).setCell ⟨w.heap.size + 1 + 1, 1, none⟩ (.int .i64 x.k)).setCell ⟨w.heap.size + 1 + 1, 2, none⟩ (.slice Y' y.t.length cb')).setCell ⟨w.heap.size + 1 + 1, 3, none⟩ (.int .i64 y.k)) = W4 w6 (w.heap.size + 1 + 1) (.slice X2 (x.t.length + tx.length) cz) (.int .i64 x.k) (.slice Y' y.t.length cb') (.int .i64 y.k) from rfl]
    generalize W4 w6 (w.heap.size + 1 + 1) (.slice X2 (x.t.length + tx.length) cz) (.int .i64 x.k) (.slice Y' y.t.length cb') (.int .i64 y.k) = w9 at *
    have c0 := hK4.cell 0
    have c1 := hK4.cell 1
    have c2 := hK4.cell 2
    have c3 := hK4.cell 3
    simp only [List.getElem?_toArray, List.getElem?_cons_zero, List.getElem?_cons_succ] at c0 c1 c2 c3
    exact bodyPost_ret (v := .tuple #[.agg #[.slice X2 (x.t.length + tx.length) cz, .int .i64 x.k, .slice Y' y.t.length cb', .int .i64 y.k], .int .i64 0]) (by simp [results, Try.results28, go_sem, c0, c1, c2, c3]) rfl ⟨_, rfl, hR4.less hs9, hB4⟩
set_option maxRecDepth 100000 in
set_option maxHeartbeats 4000000 in
theorem lDoOk30 (x y : AV) (X : Option Addr) (ca : Nat) (Y : Option Addr) (cb : Nat) (T : Option Addr) (ct : Nat) (tx : List Int) (h : mayL ⟨x, y⟩ = true) (htx0 : tx = []) (h3 : (x.t.length : Int) + (tx.length : Int) ≤ 262144) (w : World) (hX : TAt w X x.t) (hY : TAt w Y y.t) :
    Calls Try.prog 28 #[.agg #[.slice X x.t.length ca, .int .i64 x.k, .slice Y y.t.length cb, .int .i64 y.k], .agg #[.int .u8 3, .int .i64 0, .slice T tx.length ct]] w fun e w' => ∃ v, e = .returned (.tuple #[v, .int .i64 0]) ∧ RetL w' w.heap.size ⟨⟨x.t, (x.t.length : Int)⟩, y⟩ v ∧ Below w.heap.size w w' := by
  subst htx0
  simp only [List.length_nil] at h3
  have EE := Lib.hid (check_ok h)
  obtain ⟨l1, l2, _, _, _, _⟩ := mayL_len h
  have f1 : IntKind.i64.wrap (262144 - (x.t.length : Int)) = 262144 - (x.t.length : Int) := IntWalk.i64_in _ (by omega)
  have g1 : ¬ 262144 - (x.t.length : Int) < (0 : Int) := by omega
  have HX := Lib.hid (And.intro hX hY)
  clear hX hY
  go_enter Try.func28, Try.ntmps28
  go_wp2_with fail
  refine (lCheck x y X ca Y cb _).mono ?_
  rintro e w1 ⟨rfl, hB1⟩
  rw [EE.out]
  have hL := ((Blk.new w 70 #[.slice X x.t.length ca, .int .i64 x.k, .slice Y y.t.length cb, .int .i64 y.k]).alloc (.cells #[.int .u8 3, .int .i64 0, .slice T ([] : List Int).length ct] 72)).alloc (.cells #[.slice none 0 0, .int .i64 0, .slice none 0 0, .int .i64 0] 70) |>.below hB1 (by simp; omega)
  have hA := (blk1 w 72 #[.int .u8 3, .int .i64 0, .slice T ([] : List Int).length ct] (o := .cells #[.slice X x.t.length ca, .int .i64 x.k, .slice Y y.t.length cb, .int .i64 y.k] 70)).alloc (.cells #[.slice none 0 0, .int .i64 0, .slice none 0 0, .int .i64 0] 70) |>.below hB1 (by simp)
  have hZ := (blk2 w 70 #[.slice none 0 0, .int .i64 0, .slice none 0 0, .int .i64 0] (o := .cells #[.slice X x.t.length ca, .int .i64 x.k, .slice Y y.t.length cb, .int .i64 y.k] 70) (o' := .cells #[.int .u8 3, .int .i64 0, .slice T ([] : List Int).length ct] 72)).below hB1 (by simp)
  have hB := below_up (below_alloc (below_alloc (below_alloc (Below.refl _ _)))) hB1
  clear hB1
  have q0 : w1.cell? ⟨w.heap.size + 1, 0, none⟩ = some (.int .u8 3) := hA.cell 0
  have q1 : w1.cell? ⟨w.heap.size + 1, 1, none⟩ = some (.int .i64 0) := hA.cell 1
  have q2 : w1.cell? ⟨w.heap.size + 1, 2, none⟩ = some (.slice T ([] : List Int).length ct) := hA.cell 2
  have H1 := Lib.hid (And.intro hL (And.intro hA (And.intro hZ hB)))
  have K0 : KeptL w1 [(⟨w.heap.size + 1, 0, none⟩, .int .u8 3)] w1.drew := KeptL.drew ⟨Below.refl _ _, q0⟩
  clear hL hA hZ hB
  go_upto_region 4 with fail
  go_region_held3 (fun W => Below w1.heap.size w1 W ∧ W.cell? ⟨w.heap.size + 1, 0, none⟩ = some (.int .u8 3)) (first | exact K0 | exact KeptL.alloc (fs := [(⟨w.heap.size + 1, 0, none⟩, .int .u8 3)]) (by assumption) _ | exact KeptL.up (fs := [(⟨w.heap.size + 1, 0, none⟩, .int .u8 3)]) (by assumption) (by assumption) | assumption) (first | (go_at_call 59; refine (deeds_any _).mono ?_; rintro e w2 ⟨bm, rfl, hDM, hB2⟩; have hlk := run_look hDM 3))
  have hBq : Below w1.heap.size w1 w2 := And.left (by assumption)
  have hL := H1.out.1.below hBq H1.out.1.lt
  have hA := H1.out.2.1.below hBq H1.out.2.1.lt
  have hZ := H1.out.2.2.1.below hBq H1.out.2.2.1.lt
  have hB := below_up H1.out.2.2.2 hBq
  clear H1 K0 q0 q1 q2 hBq
  rw [show deedB 3 = true from rfl, show deedV 3 = d3 from rfl]
  unfold d3
  have a0 : w2.cell? ⟨w.heap.size + 1, 0, none⟩ = some (.int .u8 3) := hA.cell 0
  have a1 : w2.cell? ⟨w.heap.size + 1, 1, none⟩ = some (.int .i64 0) := hA.cell 1
  have a2 : w2.cell? ⟨w.heap.size + 1, 2, none⟩ = some (.slice T ([] : List Int).length ct) := hA.cell 2
  have p : w2.cell? ⟨w.heap.size, 0, none⟩ = some (.slice X x.t.length ca) := hL.cell 0
  
  go_wp2_with fail
  have kq0 := cell_regrown p
  have kq1 := cell_regrown a1
  have kq2 := cell_regrown a2
  refine wp_region_quiet_below (by kernel_rfl) (by kernel_rfl) ?_
  repeat (go_big_quiet_step (first | fail))
  refine wpQuiet_nil ?_
  intro _ hw'
  obtain ⟨⟨dq, osq⟩, hw''⟩ := hw'
  subst hw''
  have hBq := below_regrown w2 dq osq
  clear kq0 kq1 kq2
  generalize grow (redrawn w2 dq) osq = w3 at *
  have hL3 := hL.below hBq hL.lt
  have hA3 := hA.below hBq hA.lt
  have hZ3 := hZ.below hBq hZ.lt
  have hB3 := below_up hB hBq
  clear hBq hL hA hZ hB p a0 a1 a2
  have l0 : w3.cell? ⟨w.heap.size, 0, none⟩ = some (.slice X x.t.length ca) := hL3.cell 0
  have l1 : w3.cell? ⟨w.heap.size, 1, none⟩ = some (.int .i64 x.k) := hL3.cell 1
  have l2 : w3.cell? ⟨w.heap.size, 2, none⟩ = some (.slice Y y.t.length cb) := hL3.cell 2
  have l3 : w3.cell? ⟨w.heap.size, 3, none⟩ = some (.int .i64 y.k) := hL3.cell 3
  have H3 := Lib.hid (And.intro hZ3 (And.intro hB3 (And.intro hA3 hL3)))
  clear hZ3 hB3 hA3 hL3
  go_wp2_with fail
  refine (lTwin x y X ca Y cb (by omega) (by omega) _ (HX.out.1.up H3.out.2.1) (HX.out.2.up H3.out.2.1)).mono ?_
  rintro e w4 ⟨X', ca', Y', cb', rfl, hO, hP, hne, hB4⟩
  have hZ4 := H3.out.1.below hB4 H3.out.1.lt
  have hA4 := H3.out.2.2.1.below hB4 H3.out.2.2.1.lt
  have hL4 := H3.out.2.2.2.below hB4 H3.out.2.2.2.lt
  have hB5 := below_up H3.out.2.1 hB4
  have hs : w.heap.size + 1 + 1 < w3.heap.size := H3.out.1.lt
  have hs0 : w3.heap.size ≤ w4.heap.size := hB4.size
  have hs9 := H3.out.2.1.size
  have m0 : w4.cell? ⟨w.heap.size, 0, none⟩ = some (.slice X x.t.length ca) := hL4.cell 0
  have m1 : w4.cell? ⟨w.heap.size, 1, none⟩ = some (.int .i64 x.k) := hL4.cell 1
  have m2 : w4.cell? ⟨w.heap.size, 2, none⟩ = some (.slice Y y.t.length cb) := hL4.cell 2
  have m3 : w4.cell? ⟨w.heap.size, 3, none⟩ = some (.int .i64 y.k) := hL4.cell 3
  have mf0 := hL4.frozen 0
  have mf1 := hL4.frozen 1
  have mf2 := hL4.frozen 2
  have mf3 := hL4.frozen 3
  have H4 := Lib.hid (And.intro hZ4 (And.intro hA4 (And.intro hL4 (And.intro hB5 (And.intro hO (And.intro hP hne))))))
  clear hO hP hne hB4 hZ4 hA4 hL4 hB5 H3 l0 l1 l2 l3
  go_upto_region 10 with fail
  have hK5 := W4.blk H4.out.2.2.1 (.slice X' x.t.length ca') (.int .i64 x.k) (.slice Y' y.t.length cb') (.int .i64 y.k)
  have hB5 := W4.below (g := w.heap.size) H4.out.2.2.2.1 (Nat.le_refl _) (.slice X' x.t.length ca') (.int .i64 x.k) (.slice Y' y.t.length cb') (.int .i64 y.k)
  have hA5 := W4.far (g := w.heap.size) H4.out.2.1 (by omega) (.slice X' x.t.length ca') (.int .i64 x.k) (.slice Y' y.t.length cb') (.int .i64 y.k)
  have hZ5 := W4.far (g := w.heap.size) H4.out.1 (by omega) (.slice X' x.t.length ca') (.int .i64 x.k) (.slice Y' y.t.length cb') (.int .i64 y.k)
  have hO5 := W4.own (g := w.heap.size) H4.out.2.2.2.2.1 (own_ne H4.out.2.2.2.2.1 (by omega)) (.slice X' x.t.length ca') (.int .i64 x.k) (.slice Y' y.t.length cb') (.int .i64 y.k)
  have hP5 := W4.own (g := w.heap.size) H4.out.2.2.2.2.2.1 (own_ne H4.out.2.2.2.2.2.1 (by omega)) (.slice X' x.t.length ca') (.int .i64 x.k) (.slice Y' y.t.length cb') (.int .i64 y.k)
  have hs5 := W4.size w4 w.heap.size (.slice X' x.t.length ca') (.int .i64 x.k) (.slice Y' y.t.length cb') (.int .i64 y.k)
  have hne := H4.out.2.2.2.2.2.2
  clear m0 m1 m2 m3 mf0 mf1 mf2 mf3
  rw [show ((((w4.setCell ⟨w.heap.size, 0, none⟩ (.slice X' x.t.length ca')).setCell ⟨w.heap.size, 1, none⟩ (.int .i64 x.k)).setCell ⟨w.heap.size, 2, none⟩ (.slice Y' y.t.length cb')).setCell ⟨w.heap.size, 3, none⟩ (.int .i64 y.k)) = W4 w4 (w.heap.size) (.slice X' x.t.length ca') (.int .i64 x.k) (.slice Y' y.t.length cb') (.int .i64 y.k) from rfl]
  generalize W4 w4 (w.heap.size) (.slice X' x.t.length ca') (.int .i64 x.k) (.slice Y' y.t.length cb') (.int .i64 y.k) = w5 at *
  clear H4
  have H5 := Lib.hid (And.intro hZ5 (And.intro hA5 (And.intro hK5 (And.intro hB5 (And.intro hO5 (And.intro hP5 hne))))))
  have a0 : w5.cell? ⟨w.heap.size + 1, 0, none⟩ = some (.int .u8 3) := hA5.cell 0
  have a1 : w5.cell? ⟨w.heap.size + 1, 1, none⟩ = some (.int .i64 0) := hA5.cell 1
  have a2 : w5.cell? ⟨w.heap.size + 1, 2, none⟩ = some (.slice T ([] : List Int).length ct) := hA5.cell 2
  have m0 : w5.cell? ⟨w.heap.size, 0, none⟩ = some (.slice X' x.t.length ca') := hK5.cell 0
  have m1 : w5.cell? ⟨w.heap.size, 1, none⟩ = some (.int .i64 x.k) := hK5.cell 1
  have m2 : w5.cell? ⟨w.heap.size, 2, none⟩ = some (.slice Y' y.t.length cb') := hK5.cell 2
  have m3 : w5.cell? ⟨w.heap.size, 3, none⟩ = some (.int .i64 y.k) := hK5.cell 3
  have mf0 := hK5.frozen 0
  have mf1 := hK5.frozen 1
  have mf2 := hK5.frozen 2
  have mf3 := hK5.frozen 3
  clear hZ5 hA5 hK5 hB5 hO5 hP5 hne
  go_region_with (first | (go_at_call 94; refine (deed3_0 w.heap.size _ _ _ _ T ([] : List Int).length ct w5.drew m0 m1 mf1).mono ?_; rintro e w6 ⟨⟨v6, rfl⟩, hw6⟩; have HW6 := Lib.hid hw6; clear hw6))
  all_goals
    clear a0 a1 a2 m0 m1 m2 m3 mf0 mf1 mf2 mf3
    have hK6 : Blk w6 w.heap.size 70 #[.slice X' x.t.length ca', .int .i64 (x.t.length : Int), .slice Y' y.t.length cb', .int .i64 y.k] := by
      rw [HW6.out]; exact (H5.out.2.2.1.drew.set_ 1 (.int .i64 (x.t.length : Int)))
    have hZ6 : Blk w6 (w.heap.size + 1 + 1) 70 #[.slice none 0 0, .int .i64 0, .slice none 0 0, .int .i64 0] := by
      rw [HW6.out]; exact (H5.out.1.drew.far (p := ⟨w.heap.size, 1, none⟩) (by simp <;> omega) (.int .i64 (x.t.length : Int)))
    have hB6 : Below w.heap.size w w6 := by
      rw [HW6.out]; exact (H5.out.2.2.2.1.drew.setCell (p := ⟨w.heap.size, 1, none⟩) (Nat.le_refl _) (.int .i64 (x.t.length : Int)))
    have hR6 := RetL.of_own (m := ⟨⟨x.t, (x.t.length : Int)⟩, y⟩) (Go.RowKit.ownsRow_setCell_below H5.out.2.2.2.2.1.drew (a := ⟨w.heap.size, 1, none⟩) (by show w.heap.size < w3.heap.size; omega) (.int .i64 (x.t.length : Int))) (Go.RowKit.ownsRow_setCell_below H5.out.2.2.2.2.2.1.drew (a := ⟨w.heap.size, 1, none⟩) (by show w.heap.size < w3.heap.size; omega) (.int .i64 (x.t.length : Int)))
    change RetL (w5.drew.setCell ⟨w.heap.size, 1, none⟩ (.int .i64 (x.t.length : Int))) _ _ (.agg #[.slice X' x.t.length ca', .int .i64 (x.t.length : Int), .slice Y' y.t.length cb', .int .i64 y.k]) at hR6
    rw [← HW6.out] at hR6
    have y0 : w6.cell? ⟨w.heap.size, 0, none⟩ = some (.slice X' x.t.length ca') := hK6.cell 0
    have y1 : w6.cell? ⟨w.heap.size, 1, none⟩ = some (.int .i64 (x.t.length : Int)) := hK6.cell 1
    have y2 : w6.cell? ⟨w.heap.size, 2, none⟩ = some (.slice Y' y.t.length cb') := hK6.cell 2
    have y3 : w6.cell? ⟨w.heap.size, 3, none⟩ = some (.int .i64 y.k) := hK6.cell 3
    have z0 : w6.cell? ⟨w.heap.size + 1 + 1, 0, none⟩ = some (.slice none 0 0) := hZ6.cell 0
    have z1 : w6.cell? ⟨w.heap.size + 1 + 1, 1, none⟩ = some (.int .i64 0) := hZ6.cell 1
    have z2 : w6.cell? ⟨w.heap.size + 1 + 1, 2, none⟩ = some (.slice none 0 0) := hZ6.cell 2
    have z3 : w6.cell? ⟨w.heap.size + 1 + 1, 3, none⟩ = some (.int .i64 0) := hZ6.cell 3
    have zf0 := hZ6.frozen 0
    have zf1 := hZ6.frozen 1
    have zf2 := hZ6.frozen 2
    have zf3 := hZ6.frozen 3
    have HH := Lib.hid (And.intro hZ6 (And.intro hB6 hR6))
    clear hZ6 hB6 hR6 hK6 HW6 H5 HX
    go_wp2_with fail
    have hK4 := W4.blk HH.out.1 (.slice X' x.t.length ca') (.int .i64 (x.t.length : Int)) (.slice Y' y.t.length cb') (.int .i64 y.k)
    have hB4 := W4.below (g := w.heap.size + 1 + 1) HH.out.2.1 (by omega) (.slice X' x.t.length ca') (.int .i64 (x.t.length : Int)) (.slice Y' y.t.length cb') (.int .i64 y.k)
    have hR4 := RetL.w4 (g := w.heap.size + 1 + 1) HH.out.2.2 hs (.slice X' x.t.length ca') (.int .i64 (x.t.length : Int)) (.slice Y' y.t.length cb') (.int .i64 y.k)
    clear HH z0 z1 z2 z3 zf0 zf1 zf2 zf3 y0 y1 y2 y3
    rw [show ((((w6.setCell ⟨w.heap.size + 1 + 1, 0, none⟩ (.slice X' x.t.length ca')).setCell ⟨w.heap.size + 1 + 1, 1, none⟩ (.int .i64 (x.t.length : Int))).setCell ⟨w.heap.size + 1 + 1, 2, none⟩ (.slice Y' y.t.length cb')).setCell ⟨w.heap.size + 1 + 1, 3, none⟩ (.int .i64 y.k)) = W4 w6 (w.heap.size + 1 + 1) (.slice X' x.t.length ca') (.int .i64 (x.t.length : Int)) (.slice Y' y.t.length cb') (.int .i64 y.k) from rfl]
    generalize W4 w6 (w.heap.size + 1 + 1) (.slice X' x.t.length ca') (.int .i64 (x.t.length : Int)) (.slice Y' y.t.length cb') (.int .i64 y.k) = w9 at *
    have c0 := hK4.cell 0
    have c1 := hK4.cell 1
    have c2 := hK4.cell 2
    have c3 := hK4.cell 3
    simp only [List.getElem?_toArray, List.getElem?_cons_zero, List.getElem?_cons_succ] at c0 c1 c2 c3
    exact bodyPost_ret (v := .tuple #[.agg #[.slice X' x.t.length ca', .int .i64 (x.t.length : Int), .slice Y' y.t.length cb', .int .i64 y.k], .int .i64 0]) (by simp [results, Try.results28, go_sem, c0, c1, c2, c3]) rfl ⟨_, rfl, hR4.less hs9, hB4⟩
end Go.Proofs.Ytfdldbfjeamlcaa.LogDoA
