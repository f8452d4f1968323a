/- The contract of pos.Far: how many steps two are apart. -/
import Derived.Test.YthapginaphdmjaaPosOn
namespace Go.Proofs.Ythapginaphdmjaa.PosFar
open Go.RowKit Go.Shelf PosMath PosCheck PosMany Mem SeqKit PosSeq Round PosAt PosOf PosRef PosOn
set_option linter.unusedVariables false

theorem least_to (p q r : Int) (h : r = if q < p then q else p) (w : World) :
    Calls Try.prog 28 #[.int .i64 p, .int .i64 q] w fun e w' => e = .returned (.int .i64 r) ∧ w = w' := by
  by_cases h1 : q < p
  · rw [if_pos h1] at h
    subst h
    go_enter Try.func28, Try.ntmps28
    go_wp2
    go_ret
    exact ⟨rfl, rfl⟩
  · rw [if_neg h1] at h
    subst h
    go_enter Try.func28, Try.ntmps28
    go_wp2
    go_ret
    exact ⟨rfl, rfl⟩
def farR (a b c m n : Int) : Int := dist (cx a m) (cx a n) a + dist (cy a b m) (cy a b n) b + dist (cz a b c m) (cz a b c n) c
/-- The loop over axes. -/
def RelFar (a b c m n : Int) (i v : Value) : Prop :=
  (i = .int .i64 0 ∧ v = .int .i64 0) ∨ (i = .int .i64 1 ∧ v = .int .i64 (dist (cx a m) (cx a n) a)) ∨ (i = .int .i64 2 ∧ v = .int .i64 (dist (cx a m) (cx a n) a + dist (cy a b m) (cy a b n) b)) ∨ (i = .int .i64 3 ∧ v = .int .i64 (farR a b c m n))
set_option maxRecDepth 100000 in
set_option maxHeartbeats 2000000 in
theorem far_ok (a b c m n : Int) (h : May a b c) (h0 : 0 ≤ m) (h1 : m < num a b c) (h2 : 0 ≤ n) (h3 : n < num a b c) (w : World) :
    Calls Try.prog 20 #[.agg #[.int .i64 a, .int .i64 b, .int .i64 c], .int .i64 m, .int .i64 n] w fun e w' => e = .returned (.tuple #[.int .i64 (farR a b c m n), .int .i64 0]) ∧ Below w.heap.size w w' := by
  have HH := Lib.hid h
  have HM := Lib.hid (And.intro h0 h1)
  have HN := Lib.hid (And.intro h2 h3)
  obtain ⟨⟨q1, q2⟩, ⟨q3, q4⟩, ⟨q5, q6⟩⟩ := ok_of (m := m) h
  obtain ⟨⟨p1, p2⟩, ⟨p3, p4⟩, ⟨p5, p6⟩⟩ := ok_of (m := n) h
  obtain ⟨d1, d2⟩ := dist_range (p := cx a m) (q := cx a n) ⟨q1, q2⟩ ⟨p1, p2⟩
  obtain ⟨d3, d4⟩ := dist_range (p := cy a b m) (q := cy a b n) ⟨q3, q4⟩ ⟨p3, p4⟩
  obtain ⟨d5, d6⟩ := dist_range (p := cz a b c m) (q := cz a b c n) ⟨q5, q6⟩ ⟨p5, p6⟩
  obtain ⟨⟨ha, ha'⟩, ⟨hb, hb'⟩, ⟨hc, hc'⟩⟩ := h
  clear h0 h1 h2 h3
  have i0 : ∀ w, (Instr.index 23 (.agg #[.int .i64 a, .int .i64 b, .int .i64 c]) (.int .i64 0)).run Try.prog w = .ok (.int .i64 a) w := fun _ => by kernel_rfl
  have i1 : ∀ w, (Instr.index 23 (.agg #[.int .i64 a, .int .i64 b, .int .i64 c]) (.int .i64 1)).run Try.prog w = .ok (.int .i64 b) w := fun _ => by kernel_rfl
  have i2 : ∀ w, (Instr.index 23 (.agg #[.int .i64 a, .int .i64 b, .int .i64 c]) (.int .i64 2)).run Try.prog w = .ok (.int .i64 c) w := fun _ => by kernel_rfl
  go_enter Try.func20, Try.ntmps20
  go_wp2_with fail
  refine (of_ok a b c m HH.out HM.out.1 HM.out.2 _).mono ?_
  rintro e w1 ⟨rfl, hB1⟩
  have HB1 : Hid (Below w.heap.size w w1) := below_up (below_alloc (Below.refl _ _)) hB1
  have c1_0 : w1.cell? ⟨w.heap.size, 0, none⟩ = some (.int .i64 a) := keep_cell (box0 w 23 #[.int .i64 a, .int .i64 b, .int .i64 c] 0) hB1
  have c1_1 : w1.cell? ⟨w.heap.size, 1, none⟩ = some (.int .i64 b) := keep_cell (box0 w 23 #[.int .i64 a, .int .i64 b, .int .i64 c] 1) hB1
  have c1_2 : w1.cell? ⟨w.heap.size, 2, none⟩ = some (.int .i64 c) := keep_cell (box0 w 23 #[.int .i64 a, .int .i64 b, .int .i64 c] 2) hB1
  have z1_0 : w.heap.size < w1.heap.size := cell_lt c1_0
  clear hB1  
  go_wp2_with fail
  refine (of_ok a b c n HH.out HN.out.1 HN.out.2 _).mono ?_
  rintro e w2 ⟨rfl, hB2⟩
  have HB2 : Hid (Below w.heap.size w w2) := below_up (below_alloc HB1.out) hB2
  have c2_0 : w2.cell? ⟨w.heap.size, 0, none⟩ = some (.int .i64 a) := keep_cell (cell_over _ c1_0) hB2
  have c2_1 : w2.cell? ⟨w.heap.size, 1, none⟩ = some (.int .i64 b) := keep_cell (cell_over _ c1_1) hB2
  have c2_2 : w2.cell? ⟨w.heap.size, 2, none⟩ = some (.int .i64 c) := keep_cell (cell_over _ c1_2) hB2
  have c2_3 : w2.cell? ⟨w1.heap.size, 0, none⟩ = some (.int .i64 (cx a m)) := keep_cell (box0 w1 22 #[.int .i64 (cx a m), .int .i64 (cy a b m), .int .i64 (cz a b c m)] 0) hB2
  have c2_4 : w2.cell? ⟨w1.heap.size, 1, none⟩ = some (.int .i64 (cy a b m)) := keep_cell (box0 w1 22 #[.int .i64 (cx a m), .int .i64 (cy a b m), .int .i64 (cz a b c m)] 1) hB2
  have c2_5 : w2.cell? ⟨w1.heap.size, 2, none⟩ = some (.int .i64 (cz a b c m)) := keep_cell (box0 w1 22 #[.int .i64 (cx a m), .int .i64 (cy a b m), .int .i64 (cz a b c m)] 2) hB2
  have z2_0 : w.heap.size < w2.heap.size := cell_lt c2_0
  have z2_1 : w1.heap.size < w2.heap.size := cell_lt c2_3
  clear hB2 c1_0 c1_1 c1_2 z1_0
  go_wp2_with fail
  have k4 : Blk (w2.alloc (.cells #[.int .i64 (cx a n), .int .i64 (cy a b n), .int .i64 (cz a b c n)] 22)) w2.heap.size 22 #[.int .i64 (cx a n), .int .i64 (cy a b n), .int .i64 (cz a b c n)] := Blk.new _ _ _
  have hb4 : Below w.heap.size w (w2.alloc (.cells #[.int .i64 (cx a n), .int .i64 (cy a b n), .int .i64 (cz a b c n)] 22)) := below_alloc HB2.out
  have g0 : (w2.alloc (.cells #[.int .i64 (cx a n), .int .i64 (cy a b n), .int .i64 (cz a b c n)] 22)).cell? ⟨w1.heap.size, 0, none⟩ = some (.int .i64 (cx a m)) := cell_over _ c2_3
  have g1 : (w2.alloc (.cells #[.int .i64 (cx a n), .int .i64 (cy a b n), .int .i64 (cz a b c n)] 22)).cell? ⟨w1.heap.size, 1, none⟩ = some (.int .i64 (cy a b m)) := cell_over _ c2_4
  have g2 : (w2.alloc (.cells #[.int .i64 (cx a n), .int .i64 (cy a b n), .int .i64 (cz a b c n)] 22)).cell? ⟨w1.heap.size, 2, none⟩ = some (.int .i64 (cz a b c m)) := cell_over _ c2_5
  generalize hW0 : w2.alloc (.cells #[.int .i64 (cx a n), .int .i64 (cy a b n), .int .i64 (cz a b c n)] 22) = W0 at *
  have g3 : W0.cell? ⟨w2.heap.size, 0, none⟩ = some (.int .i64 (cx a n)) := k4.cell 0
  have g4 : W0.cell? ⟨w2.heap.size, 1, none⟩ = some (.int .i64 (cy a b n)) := k4.cell 1
  have g5 : W0.cell? ⟨w2.heap.size, 2, none⟩ = some (.int .i64 (cz a b c n)) := k4.cell 2
  have HB4 := Lib.hid hb4
  clear hb4 k4 c2_0 c2_1 c2_2 c2_3 c2_4 c2_5 hW0
  go_loopw [6, 32] (fun v i wr => RelFar a b c m n i v ∧ Hid (Below w.heap.size w wr) ∧ wr.cell? ⟨w1.heap.size, 0, none⟩ = some (.int .i64 (cx a m)) ∧ wr.cell? ⟨w1.heap.size, 1, none⟩ = some (.int .i64 (cy a b m)) ∧ wr.cell? ⟨w1.heap.size, 2, none⟩ = some (.int .i64 (cz a b c m)) ∧ wr.cell? ⟨w2.heap.size, 0, none⟩ = some (.int .i64 (cx a n)) ∧ wr.cell? ⟨w2.heap.size, 1, none⟩ = some (.int .i64 (cy a b n)) ∧ wr.cell? ⟨w2.heap.size, 2, none⟩ = some (.int .i64 (cz a b c n)))
    (fun _ i _ => 3 - (intOf i).toNat)
  case atStart => exact ⟨.inl ⟨rfl, rfl⟩, HB4.out, g0, g1, g2, g3, g4, g5⟩
  case round =>
    obtain ⟨hr, hB, e0, e1, e2, e3, e4, e5⟩ := hrel
    clear g0 g1 g2 g3 g4 g5
    rcases hr with ⟨rfl, rfl⟩ | ⟨rfl, rfl⟩ | ⟨rfl, rfl⟩ | ⟨rfl, rfl⟩
    · have f0 : ¬ a = 0 := by omega
      have f1 : IntKind.i64.wrap (cx a n - cx a m) = cx a n - cx a m := IntWalk.i64_in _ (by omega)
      have f2 : IntKind.i64.wrap (cx a n - cx a m + a) = cx a n - cx a m + a := IntWalk.i64_in _ (by omega)
      obtain ⟨o, ho⟩ : ∃ o, o = (cx a n - cx a m + a) % a := ⟨_, rfl⟩
      have f3 : (cx a n - cx a m + a).tmod a = o := by rw [ho]; exact Int.tmod_eq_emod_of_nonneg (by omega)
      have o1 : 0 ≤ o := by rw [ho]; exact Int.emod_nonneg _ f0
      have o2 : o < a := by rw [ho]; exact Int.emod_lt_of_pos _ (by omega)
      have hl : dist (cx a m) (cx a n) a = if a - o < o then a - o else o := by rw [ho]; rfl
      have HL := Lib.hid hl
      clear ho hl
      go_wp2_with fail
      go_quiet (fail)
      go_wp2_with fail
      refine (least_to o (a - o) _ HL.out _).mono ?_
      rintro e w' ⟨rfl, rfl⟩
      go_wp2_with fail
      go_roundw
      case rel => exact ⟨.inr (.inl ⟨rfl, rfl⟩), below_drewN hB.out _, e0, e1, e2, e3, e4, e5⟩
      case measure => simp [intOf]
    · have f0 : ¬ b = 0 := by omega
      have f1 : IntKind.i64.wrap (cy a b n - cy a b m) = cy a b n - cy a b m := IntWalk.i64_in _ (by omega)
      have f2 : IntKind.i64.wrap (cy a b n - cy a b m + b) = cy a b n - cy a b m + b := IntWalk.i64_in _ (by omega)
      obtain ⟨o, ho⟩ : ∃ o, o = (cy a b n - cy a b m + b) % b := ⟨_, rfl⟩
      have f3 : (cy a b n - cy a b m + b).tmod b = o := by rw [ho]; exact Int.tmod_eq_emod_of_nonneg (by omega)
      have o1 : 0 ≤ o := by rw [ho]; exact Int.emod_nonneg _ f0
      have o2 : o < b := by rw [ho]; exact Int.emod_lt_of_pos _ (by omega)
      have hl : dist (cy a b m) (cy a b n) b = if b - o < o then b - o else o := by rw [ho]; rfl
      have HL := Lib.hid hl
      clear ho hl
      go_wp2_with fail
      go_quiet (fail)
      go_wp2_with fail
      refine (least_to o (b - o) _ HL.out _).mono ?_
      rintro e w' ⟨rfl, rfl⟩
      go_wp2_with fail
      go_roundw
      case rel => exact ⟨.inr (.inr (.inl ⟨rfl, rfl⟩)), below_drewN hB.out _, e0, e1, e2, e3, e4, e5⟩
      case measure => simp [intOf]
    · have f0 : ¬ c = 0 := by omega
      have f1 : IntKind.i64.wrap (cz a b c n - cz a b c m) = cz a b c n - cz a b c m := IntWalk.i64_in _ (by omega)
      have f2 : IntKind.i64.wrap (cz a b c n - cz a b c m + c) = cz a b c n - cz a b c m + c := IntWalk.i64_in _ (by omega)
      obtain ⟨o, ho⟩ : ∃ o, o = (cz a b c n - cz a b c m + c) % c := ⟨_, rfl⟩
      have f3 : (cz a b c n - cz a b c m + c).tmod c = o := by rw [ho]; exact Int.tmod_eq_emod_of_nonneg (by omega)
      have o1 : 0 ≤ o := by rw [ho]; exact Int.emod_nonneg _ f0
      have o2 : o < c := by rw [ho]; exact Int.emod_lt_of_pos _ (by omega)
      have hl : dist (cz a b c m) (cz a b c n) c = if c - o < o then c - o else o := by rw [ho]; rfl
      have HL := Lib.hid hl
      clear ho hl
      go_wp2_with fail
      go_quiet (fail)
      go_wp2_with fail
      refine (least_to o (c - o) _ HL.out _).mono ?_
      rintro e w' ⟨rfl, rfl⟩
      go_wp2_with fail
      go_roundw
      case rel => exact ⟨.inr (.inr (.inr ⟨rfl, rfl⟩)), below_drewN hB.out _, e0, e1, e2, e3, e4, e5⟩
      case measure => simp [intOf]
    · go_wp2_with fail
      go_ret2
      exact ⟨rfl, hB.out⟩
set_option maxRecDepth 100000 in
set_option maxHeartbeats 2000000 in
theorem far_bad (a b c m n : Int) (h : ¬ May a b c) (w : World) :
    Calls Try.prog 20 #[.agg #[.int .i64 a, .int .i64 b, .int .i64 c], .int .i64 m, .int .i64 n] w fun e w' => e = .returned (.tuple #[.int .i64 0, .int .i64 8]) ∧ Below w.heap.size w w' := by
  have HH := Lib.hid h
  clear h
  go_enter Try.func20, Try.ntmps20
  go_wp2_with fail
  refine (of_bad a b c m HH.out _).mono ?_
  rintro e w1 ⟨rfl, hB1⟩
  have HB1 : Hid (Below w.heap.size w w1) := below_up (below_alloc (Below.refl _ _)) hB1
  have c1_0 : w1.cell? ⟨w.heap.size, 0, none⟩ = some (.int .i64 a) := keep_cell (box0 w 23 #[.int .i64 a, .int .i64 b, .int .i64 c] 0) hB1
  have c1_1 : w1.cell? ⟨w.heap.size, 1, none⟩ = some (.int .i64 b) := keep_cell (box0 w 23 #[.int .i64 a, .int .i64 b, .int .i64 c] 1) hB1
  have c1_2 : w1.cell? ⟨w.heap.size, 2, none⟩ = some (.int .i64 c) := keep_cell (box0 w 23 #[.int .i64 a, .int .i64 b, .int .i64 c] 2) hB1
  have z1_0 : w.heap.size < w1.heap.size := cell_lt c1_0
  clear hB1  
  go_wp2_with fail
  go_ret2
  exact ⟨rfl, below_alloc HB1.out⟩
set_option maxRecDepth 100000 in
set_option maxHeartbeats 2000000 in
theorem far_arg (a b c m n : Int) (h : May a b c) (hm : ¬ (0 ≤ m ∧ m < num a b c)) (w : World) :
    Calls Try.prog 20 #[.agg #[.int .i64 a, .int .i64 b, .int .i64 c], .int .i64 m, .int .i64 n] w fun e w' => e = .returned (.tuple #[.int .i64 0, .int .i64 2]) ∧ Below w.heap.size w w' := by
  have HH := Lib.hid h
  have HM := Lib.hid hm
  clear h hm
  go_enter Try.func20, Try.ntmps20
  go_wp2_with fail
  refine (of_arg a b c m HH.out HM.out _).mono ?_
  rintro e w1 ⟨rfl, hB1⟩
  have HB1 : Hid (Below w.heap.size w w1) := below_up (below_alloc (Below.refl _ _)) hB1
  have c1_0 : w1.cell? ⟨w.heap.size, 0, none⟩ = some (.int .i64 a) := keep_cell (box0 w 23 #[.int .i64 a, .int .i64 b, .int .i64 c] 0) hB1
  have c1_1 : w1.cell? ⟨w.heap.size, 1, none⟩ = some (.int .i64 b) := keep_cell (box0 w 23 #[.int .i64 a, .int .i64 b, .int .i64 c] 1) hB1
  have c1_2 : w1.cell? ⟨w.heap.size, 2, none⟩ = some (.int .i64 c) := keep_cell (box0 w 23 #[.int .i64 a, .int .i64 b, .int .i64 c] 2) hB1
  have z1_0 : w.heap.size < w1.heap.size := cell_lt c1_0
  clear hB1  
  go_wp2_with fail
  go_ret2
  exact ⟨rfl, below_alloc HB1.out⟩
set_option maxRecDepth 100000 in
set_option maxHeartbeats 2000000 in
theorem far_arg2 (a b c m n : Int) (h : May a b c) (h0 : 0 ≤ m) (h1 : m < num a b c) (hm : ¬ (0 ≤ n ∧ n < num a b c)) (w : World) :
    Calls Try.prog 20 #[.agg #[.int .i64 a, .int .i64 b, .int .i64 c], .int .i64 m, .int .i64 n] w fun e w' => e = .returned (.tuple #[.int .i64 0, .int .i64 2]) ∧ Below w.heap.size w w' := by
  have HH := Lib.hid h
  have HM := Lib.hid hm
  have HN := Lib.hid (And.intro h0 h1)
  clear h hm h0 h1
  go_enter Try.func20, Try.ntmps20
  go_wp2_with fail
  refine (of_ok a b c m HH.out HN.out.1 HN.out.2 _).mono ?_
  rintro e w1 ⟨rfl, hB1⟩
  have HB1 : Hid (Below w.heap.size w w1) := below_up (below_alloc (Below.refl _ _)) hB1
  have c1_0 : w1.cell? ⟨w.heap.size, 0, none⟩ = some (.int .i64 a) := keep_cell (box0 w 23 #[.int .i64 a, .int .i64 b, .int .i64 c] 0) hB1
  have c1_1 : w1.cell? ⟨w.heap.size, 1, none⟩ = some (.int .i64 b) := keep_cell (box0 w 23 #[.int .i64 a, .int .i64 b, .int .i64 c] 1) hB1
  have c1_2 : w1.cell? ⟨w.heap.size, 2, none⟩ = some (.int .i64 c) := keep_cell (box0 w 23 #[.int .i64 a, .int .i64 b, .int .i64 c] 2) hB1
  have z1_0 : w.heap.size < w1.heap.size := cell_lt c1_0
  clear hB1  
  go_wp2_with fail
  refine (of_arg a b c n HH.out HM.out _).mono ?_
  rintro e w2 ⟨rfl, hB2⟩
  have HB2 : Hid (Below w.heap.size w w2) := below_up (below_alloc HB1.out) hB2
  have c2_0 : w2.cell? ⟨w.heap.size, 0, none⟩ = some (.int .i64 a) := keep_cell (cell_over _ c1_0) hB2
  have c2_1 : w2.cell? ⟨w.heap.size, 1, none⟩ = some (.int .i64 b) := keep_cell (cell_over _ c1_1) hB2
  have c2_2 : w2.cell? ⟨w.heap.size, 2, none⟩ = some (.int .i64 c) := keep_cell (cell_over _ c1_2) hB2
  have c2_3 : w2.cell? ⟨w1.heap.size, 0, none⟩ = some (.int .i64 (cx a m)) := keep_cell (box0 w1 22 #[.int .i64 (cx a m), .int .i64 (cy a b m), .int .i64 (cz a b c m)] 0) hB2
  have c2_4 : w2.cell? ⟨w1.heap.size, 1, none⟩ = some (.int .i64 (cy a b m)) := keep_cell (box0 w1 22 #[.int .i64 (cx a m), .int .i64 (cy a b m), .int .i64 (cz a b c m)] 1) hB2
  have c2_5 : w2.cell? ⟨w1.heap.size, 2, none⟩ = some (.int .i64 (cz a b c m)) := keep_cell (box0 w1 22 #[.int .i64 (cx a m), .int .i64 (cy a b m), .int .i64 (cz a b c m)] 2) hB2
  have z2_0 : w.heap.size < w2.heap.size := cell_lt c2_0
  have z2_1 : w1.heap.size < w2.heap.size := cell_lt c2_3
  clear hB2 c1_0 c1_1 c1_2 z1_0
  go_wp2_with fail
  go_ret2
  exact ⟨rfl, below_alloc HB2.out⟩
end Go.Proofs.Ythapginaphdmjaa.PosFar
