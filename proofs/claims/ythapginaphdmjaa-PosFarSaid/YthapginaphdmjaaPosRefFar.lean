/- The contract of the reference's Far: how many steps two are apart, looked for. -/
import Derived.Test.YthapginaphdmjaaPosFar
import Derived.Lib.QuietBelow
namespace Go.Proofs.Ythapginaphdmjaa.PosRefFar
open Go.RowKit Go.Shelf Go.Sort PosMath PosCheck PosMany Mem SeqKit PosSeq Round PosAt PosOf PosRef PosOn PosFar
set_option linter.unusedVariables false

def coR (a b c m : Int) : Ax → Int → Value
  | none, k => .agg #[.int .i64 (stp (cx a m) a k), .int .i64 (cy a b m), .int .i64 (cz a b c m)]
  | some false, k => .agg #[.int .i64 (cx a m), .int .i64 (stp (cy a b m) b k), .int .i64 (cz a b c m)]
  | some true, k => .agg #[.int .i64 (cx a m), .int .i64 (cy a b m), .int .i64 (stp (cz a b c m) c k)]
theorem where_on (a b c m : Int) (k : Ax) (n : Int) (h : May a b c) (w : World) :
    Calls Try.prog 27 #[.agg #[.int .i64 a, .int .i64 b, .int .i64 c], .int .i64 (onR a b c m k n)] w fun e w' => e = .returned (coR a b c m k n) ∧ Below w.heap.size w w' := by
  obtain ⟨hx, hy, hz⟩ := ok_of (m := m) h
  have hr := on_range (m := m) h k n
  have hw := where_ok a b c (onR a b c m k n) h hr.1 hr.2 w
  rcases k with _ | _ | _
  · have s := stp_range (p := cx a m) (k := n) h.1.1
    dsimp only [onR, coR] at hw ⊢
    rw [cx_at h s, cy_at h s hy, cz_at h s hy hz] at hw; exact hw
  · have s := stp_range (p := cy a b m) (k := n) h.2.1.1
    dsimp only [onR, coR] at hw ⊢
    rw [cx_at h hx, cy_at h hx s, cz_at h hx s hz] at hw; exact hw
  · have s := stp_range (p := cz a b c m) (k := n) h.2.2.1
    dsimp only [onR, coR] at hw ⊢
    rw [cx_at h hx, cy_at h hx hy, cz_at h hx hy s] at hw; exact hw
theorem index_on0 (a b c m k : Int) (w : World) : (Instr.index 22 (coR a b c m none k) (.int .i64 0)).run Try.prog w = .ok (.int .i64 (stp (cx a m) a k)) w := by
  dsimp only [coR]; kernel_rfl
theorem index_on1 (a b c m k : Int) (w : World) : (Instr.index 22 (coR a b c m (some false) k) (.int .i64 1)).run Try.prog w = .ok (.int .i64 (stp (cy a b m) b k)) w := by
  dsimp only [coR]; kernel_rfl
theorem index_on2 (a b c m k : Int) (w : World) : (Instr.index 22 (coR a b c m (some true) k) (.int .i64 2)).run Try.prog w = .ok (.int .i64 (stp (cz a b c m) c k)) w := by
  dsimp only [coR]; kernel_rfl
/-- The loop over axes. -/
def RelR (a b c m n : Int) (i v : Value) : Prop :=
  (i = .int .i64 0 ∧ v = .int .i64 0) ∨ (i = .int .i64 1 ∧ v = .int .i64 (dist (cx a m) (cx a n) a)) ∨ (i = .int .i64 2 ∧ v = .int .i64 (dist (cx a m) (cx a n) a + dist (cy a b m) (cy a b n) b)) ∨ (i = .int .i64 3 ∧ v = .int .i64 (farR a b c m n))
set_option maxRecDepth 100000 in
set_option maxHeartbeats 4000000 in
theorem refar_ok (a b c m n : Int) (h : May a b c) (h0 : 0 ≤ m) (h1 : m < num a b c) (h2 : 0 ≤ n) (h3 : n < num a b c) (w : World) :
    Calls Try.prog 22 #[.agg #[.int .i64 a, .int .i64 b, .int .i64 c], .int .i64 m, .int .i64 n] w fun e w' => e = .returned (.tuple #[.int .i64 (farR a b c m n), .int .i64 0]) ∧ Below w.heap.size w w' := by
  have HH := Lib.hid h
  have HM := Lib.hid (And.intro h0 h1)
  have HN := Lib.hid (And.intro h2 h3)
  obtain ⟨⟨q1, q2⟩, ⟨q3, q4⟩, ⟨q5, q6⟩⟩ := ok_of (m := m) h
  obtain ⟨⟨p1, p2⟩, ⟨p3, p4⟩, ⟨p5, p6⟩⟩ := ok_of (m := n) h
  obtain ⟨d1, d2⟩ := dist_range (p := cx a m) (q := cx a n) ⟨q1, q2⟩ ⟨p1, p2⟩
  obtain ⟨d3, d4⟩ := dist_range (p := cy a b m) (q := cy a b n) ⟨q3, q4⟩ ⟨p3, p4⟩
  obtain ⟨d5, d6⟩ := dist_range (p := cz a b c m) (q := cz a b c n) ⟨q5, q6⟩ ⟨p5, p6⟩
  obtain ⟨⟨ha, ha'⟩, ⟨hb, hb'⟩, ⟨hc, hc'⟩⟩ := h
  obtain ⟨N, hN⟩ : ∃ N, N = num a b c := ⟨_, rfl⟩
  rw [← hN] at h1 h3
  have hcn : ∀ w', Calls Try.prog 24 #[.agg #[.int .i64 a, .int .i64 b, .int .i64 c]] w' fun e w'' => e = .returned (.int .i64 N) ∧ Below w'.heap.size w' w'' := by
    rw [hN]; exact refN_ok a b c HH.out
  have HC := Lib.hid hcn
  clear hcn hN
  go_enter Try.func22, Try.ntmps22
  go_wp2_with fail
  refine (may_ok a b c HH.out _).mono ?_
  rintro e w1 ⟨rfl, hB1⟩
  have HB1 : Hid (Below w.heap.size w w1) := below_up (below_alloc (Below.refl _ _)) hB1
  have c1_0 : w1.cell? ⟨w.heap.size, 0, none⟩ = some (.int .i64 a) := keep_cell (box0 w 23 #[.int .i64 a, .int .i64 b, .int .i64 c] 0) hB1
  have c1_1 : w1.cell? ⟨w.heap.size, 1, none⟩ = some (.int .i64 b) := keep_cell (box0 w 23 #[.int .i64 a, .int .i64 b, .int .i64 c] 1) hB1
  have c1_2 : w1.cell? ⟨w.heap.size, 2, none⟩ = some (.int .i64 c) := keep_cell (box0 w 23 #[.int .i64 a, .int .i64 b, .int .i64 c] 2) hB1
  have z1_0 : w.heap.size < w1.heap.size := cell_lt c1_0
  clear hB1  
  go_wp2_with fail
  refine (HC.out _).mono ?_
  rintro e w2 ⟨rfl, hB2⟩
  have HB2 : Hid (Below w.heap.size w w2) := below_up HB1.out hB2
  have c2_0 : w2.cell? ⟨w.heap.size, 0, none⟩ = some (.int .i64 a) := keep_cell c1_0 hB2
  have c2_1 : w2.cell? ⟨w.heap.size, 1, none⟩ = some (.int .i64 b) := keep_cell c1_1 hB2
  have c2_2 : w2.cell? ⟨w.heap.size, 2, none⟩ = some (.int .i64 c) := keep_cell c1_2 hB2
  have z2_0 : w.heap.size < w2.heap.size := cell_lt c2_0
  clear hB2 c1_0 c1_1 c1_2 z1_0
  go_wp2_with fail
  refine (HC.out _).mono ?_
  rintro e w3 ⟨rfl, hB3⟩
  have HB3 : Hid (Below w.heap.size w w3) := below_up HB2.out hB3
  have c3_0 : w3.cell? ⟨w.heap.size, 0, none⟩ = some (.int .i64 a) := keep_cell c2_0 hB3
  have c3_1 : w3.cell? ⟨w.heap.size, 1, none⟩ = some (.int .i64 b) := keep_cell c2_1 hB3
  have c3_2 : w3.cell? ⟨w.heap.size, 2, none⟩ = some (.int .i64 c) := keep_cell c2_2 hB3
  have z3_0 : w.heap.size < w3.heap.size := cell_lt c3_0
  clear hB3 c2_0 c2_1 c2_2 z2_0
  go_wp2_with fail
  refine (where_ok a b c n HH.out HN.out.1 HN.out.2 _).mono ?_
  rintro e w4 ⟨rfl, hB4⟩
  have HB4 : Hid (Below w.heap.size w w4) := below_up HB3.out hB4
  have c4_0 : w4.cell? ⟨w.heap.size, 0, none⟩ = some (.int .i64 a) := keep_cell c3_0 hB4
  have c4_1 : w4.cell? ⟨w.heap.size, 1, none⟩ = some (.int .i64 b) := keep_cell c3_1 hB4
  have c4_2 : w4.cell? ⟨w.heap.size, 2, none⟩ = some (.int .i64 c) := keep_cell c3_2 hB4
  have z4_0 : w.heap.size < w4.heap.size := cell_lt c4_0
  clear hB4 c3_0 c3_1 c3_2 z3_0
  go_wp2_with fail
  have k4 : Blk (w4.alloc (.cells #[.int .i64 (cx a n), .int .i64 (cy a b n), .int .i64 (cz a b c n)] 22)) w4.heap.size 22 #[.int .i64 (cx a n), .int .i64 (cy a b n), .int .i64 (cz a b c n)] := Blk.new _ _ _
  have hb4 : Below w.heap.size w (w4.alloc (.cells #[.int .i64 (cx a n), .int .i64 (cy a b n), .int .i64 (cz a b c n)] 22)) := below_alloc HB4.out
  have g0 : (w4.alloc (.cells #[.int .i64 (cx a n), .int .i64 (cy a b n), .int .i64 (cz a b c n)] 22)).cell? ⟨w.heap.size, 0, none⟩ = some (.int .i64 a) := cell_over _ c4_0
  have g1 : (w4.alloc (.cells #[.int .i64 (cx a n), .int .i64 (cy a b n), .int .i64 (cz a b c n)] 22)).cell? ⟨w.heap.size, 1, none⟩ = some (.int .i64 b) := cell_over _ c4_1
  have g2 : (w4.alloc (.cells #[.int .i64 (cx a n), .int .i64 (cy a b n), .int .i64 (cz a b c n)] 22)).cell? ⟨w.heap.size, 2, none⟩ = some (.int .i64 c) := cell_over _ c4_2
  generalize hW0 : (w4.alloc (.cells #[.int .i64 (cx a n), .int .i64 (cy a b n), .int .i64 (cz a b c n)] 22)) = W0 at *
  have g3 : W0.cell? ⟨w4.heap.size, 0, none⟩ = some (.int .i64 (cx a n)) := k4.cell 0
  have g4 : W0.cell? ⟨w4.heap.size, 1, none⟩ = some (.int .i64 (cy a b n)) := k4.cell 1
  have g5 : W0.cell? ⟨w4.heap.size, 2, none⟩ = some (.int .i64 (cz a b c n)) := k4.cell 2
  have HB5 := Lib.hid hb4
  clear hb4 k4 c4_0 c4_1 c4_2 hW0 h0 h1 h2 h3
  go_loopw [8, 10] (fun v i wr => RelR a b c m n i v ∧ Hid (Below w.heap.size w wr) ∧ wr.cell? ⟨w.heap.size, 0, none⟩ = some (.int .i64 a) ∧ wr.cell? ⟨w.heap.size, 1, none⟩ = some (.int .i64 b) ∧ wr.cell? ⟨w.heap.size, 2, none⟩ = some (.int .i64 c) ∧ wr.cell? ⟨w4.heap.size, 0, none⟩ = some (.int .i64 (cx a n)) ∧ wr.cell? ⟨w4.heap.size, 1, none⟩ = some (.int .i64 (cy a b n)) ∧ wr.cell? ⟨w4.heap.size, 2, none⟩ = some (.int .i64 (cz a b c n)))
    (fun _ i _ => 3 - (intOf i).toNat)
  case atStart => exact ⟨.inl ⟨rfl, rfl⟩, HB5.out, g0, g1, g2, g3, g4, g5⟩
  case round =>
    obtain ⟨hr, hB, e0, e1, e2, e3, e4, e5⟩ := hrel
    clear g0 g1 g2 g3 g4 g5
    rcases hr with ⟨rfl, rfl⟩ | ⟨rfl, rfl⟩ | ⟨rfl, rfl⟩ | ⟨rfl, rfl⟩
    · have ix : ∀ k w, (Instr.index 22 (coR a b c m none k) (.int .i64 0)).run Try.prog w = .ok (.int .i64 (stp (cx a m) a k)) w := index_on0 a b c m
      have there := dist_there (p := cx a m) (q := cx a n) (n := a) ⟨by omega, by omega⟩
      have least := fun k : Int => dist_least (p := cx a m) (q := cx a n) (n := a) (k := k) ⟨by omega, by omega⟩ ⟨by omega, by omega⟩
      have HT := Lib.hid there
      have HL := Lib.hid least
      clear there least
      go_wp2_with fail
      go_loopw [11] (fun i wi => (∃ k : Nat, (k : Int) ≤ dist (cx a m) (cx a n) a ∧ i = .int .i64 k) ∧ Hid (Below w.heap.size w wi) ∧ wi.cell? ⟨w.heap.size, 0, none⟩ = some (.int .i64 a) ∧ wi.cell? ⟨w.heap.size, 1, none⟩ = some (.int .i64 b) ∧ wi.cell? ⟨w.heap.size, 2, none⟩ = some (.int .i64 c) ∧ wi.cell? ⟨w4.heap.size, 0, none⟩ = some (.int .i64 (cx a n)) ∧ wi.cell? ⟨w4.heap.size, 1, none⟩ = some (.int .i64 (cy a b n)) ∧ wi.cell? ⟨w4.heap.size, 2, none⟩ = some (.int .i64 (cz a b c n)))
        (fun i _ => 17 - (intOf i).toNat)
      case atStart => exact ⟨⟨0, by omega, rfl⟩, hB.out, e0, e1, e2, e3, e4, e5⟩
      case round =>
        obtain ⟨⟨k, hk, rfl⟩, hB2, x0, x1, x2, x3, x4, x5⟩ := hrel
        clear e0 e1 e2 e3 e4 e5
        have k0 := cell_regrown x0
        have k1 := cell_regrown x1
        have k2 := cell_regrown x2
        have k3 := cell_regrown x3
        have k4 := cell_regrown x4
        have k5 := cell_regrown x5
        have f9 : IntKind.i64.wrap (-(k : Int)) = -(k : Int) := IntWalk.i64_in _ (by omega)
        by_cases hlt : (k : Int) < dist (cx a m) (cx a n) a
        · obtain ⟨n1, n2⟩ := HL.out k (by omega) hlt
          have t1 : (stp (cx a m) a ↑k != cx a n) = true := by simpa using n1
          have t2 : (stp (cx a m) a (-↑k) != cx a n) = true := by simpa using n2
          clear n1 n2
          go_wp2_with fail
          refine wp_region_quiet_below (by kernel_rfl) (by kernel_rfl) ?_
          repeat (go_big_quiet_step (first | exact Calls.regrown_of (on0 a b c m _ HH.out HM.out.1 HM.out.2 _) | exact Calls.regrown_of (where_on a b c m none _ HH.out _)))
          refine wpQuiet_nil ?_
          intro _ hw'
          obtain ⟨⟨dq, osq⟩, hw''⟩ := hw'
          subst hw''
          have hg := below_regrown wr dq osq
          have y := below_up hB2.out hg
          have y0 := keep_cell x0 hg
          have y1 := keep_cell x1 hg
          have y2 := keep_cell x2 hg
          have y3 := keep_cell x3 hg
          have y4 := keep_cell x4 hg
          have y5 := keep_cell x5 hg
          clear hg k0 k1 k2 k3 k4 k5 x0 x1 x2 x3 x4 x5
          generalize grow (redrawn wr dq) osq = w' at *
          have Y := Lib.hid y
          clear y t1 t2
          go_wp2_with fail
          go_roundw
          case rel => exact ⟨⟨k + 1, by omega, by go_num⟩, Y.out, y0, y1, y2, y3, y4, y5⟩
          case measure => simp [intOf]; omega
        · have hke : dist (cx a m) (cx a n) a = (k : Int) := by omega
          have hth := HT.out
          rw [hke] at hth
          have HKE := Lib.hid hke
          clear hke
          by_cases n1 : stp (cx a m) a ↑k = cx a n
          · have t1 : (stp (cx a m) a ↑k != cx a n) = false := by simpa using n1
            clear n1 hth hlt
            go_wp2_with fail
            refine wp_region_quiet_below (by kernel_rfl) (by kernel_rfl) ?_
            repeat (go_big_quiet_step (first | exact Calls.regrown_of (on0 a b c m _ HH.out HM.out.1 HM.out.2 _) | exact Calls.regrown_of (where_on a b c m none _ HH.out _)))
            refine wpQuiet_nil ?_
            intro _ hw'
            obtain ⟨⟨dq, osq⟩, hw''⟩ := hw'
            subst hw''
            have hg := below_regrown wr dq osq
            have y := below_up hB2.out hg
            have y0 := keep_cell x0 hg
            have y1 := keep_cell x1 hg
            have y2 := keep_cell x2 hg
            have y3 := keep_cell x3 hg
            have y4 := keep_cell x4 hg
            have y5 := keep_cell x5 hg
            clear hg k0 k1 k2 k3 k4 k5 x0 x1 x2 x3 x4 x5
            generalize grow (redrawn wr dq) osq = w' at *
            have Y := Lib.hid y
            clear y t1
            go_wp2_with fail
            go_roundw
            case rel => exact ⟨.inr (.inl ⟨rfl, by rw [HKE.out]⟩), Y.out, y0, y1, y2, y3, y4, y5⟩
            case measure => simp [intOf]
          · have t2 : (stp (cx a m) a (-↑k) != cx a n) = false := by
              rcases hth with h | h
              · exact absurd h n1
              · simpa using h
            have t1 : (stp (cx a m) a ↑k != cx a n) = true := by simpa using n1
            clear n1 hth hlt
            go_wp2_with fail
            refine wp_region_quiet_below (by kernel_rfl) (by kernel_rfl) ?_
            repeat (go_big_quiet_step (first | exact Calls.regrown_of (on0 a b c m _ HH.out HM.out.1 HM.out.2 _) | exact Calls.regrown_of (where_on a b c m none _ HH.out _)))
            refine wpQuiet_nil ?_
            intro _ hw'
            obtain ⟨⟨dq, osq⟩, hw''⟩ := hw'
            subst hw''
            have hg := below_regrown wr dq osq
            have y := below_up hB2.out hg
            have y0 := keep_cell x0 hg
            have y1 := keep_cell x1 hg
            have y2 := keep_cell x2 hg
            have y3 := keep_cell x3 hg
            have y4 := keep_cell x4 hg
            have y5 := keep_cell x5 hg
            clear hg k0 k1 k2 k3 k4 k5 x0 x1 x2 x3 x4 x5
            generalize grow (redrawn wr dq) osq = w' at *
            have Y := Lib.hid y
            clear y t1 t2
            go_wp2_with fail
            go_roundw
            case rel => exact ⟨.inr (.inl ⟨rfl, by rw [HKE.out]⟩), Y.out, y0, y1, y2, y3, y4, y5⟩
            case measure => simp [intOf]
    · have ix : ∀ k w, (Instr.index 22 (coR a b c m (some false) k) (.int .i64 1)).run Try.prog w = .ok (.int .i64 (stp (cy a b m) b k)) w := index_on1 a b c m
      have there := dist_there (p := cy a b m) (q := cy a b n) (n := b) ⟨by omega, by omega⟩
      have least := fun k : Int => dist_least (p := cy a b m) (q := cy a b n) (n := b) (k := k) ⟨by omega, by omega⟩ ⟨by omega, by omega⟩
      have HT := Lib.hid there
      have HL := Lib.hid least
      clear there least
      go_wp2_with fail
      go_loopw [11] (fun i wi => (∃ k : Nat, (k : Int) ≤ dist (cy a b m) (cy a b n) b ∧ i = .int .i64 k) ∧ Hid (Below w.heap.size w wi) ∧ wi.cell? ⟨w.heap.size, 0, none⟩ = some (.int .i64 a) ∧ wi.cell? ⟨w.heap.size, 1, none⟩ = some (.int .i64 b) ∧ wi.cell? ⟨w.heap.size, 2, none⟩ = some (.int .i64 c) ∧ wi.cell? ⟨w4.heap.size, 0, none⟩ = some (.int .i64 (cx a n)) ∧ wi.cell? ⟨w4.heap.size, 1, none⟩ = some (.int .i64 (cy a b n)) ∧ wi.cell? ⟨w4.heap.size, 2, none⟩ = some (.int .i64 (cz a b c n)))
        (fun i _ => 17 - (intOf i).toNat)
      case atStart => exact ⟨⟨0, by omega, rfl⟩, hB.out, e0, e1, e2, e3, e4, e5⟩
      case round =>
        obtain ⟨⟨k, hk, rfl⟩, hB2, x0, x1, x2, x3, x4, x5⟩ := hrel
        clear e0 e1 e2 e3 e4 e5
        have k0 := cell_regrown x0
        have k1 := cell_regrown x1
        have k2 := cell_regrown x2
        have k3 := cell_regrown x3
        have k4 := cell_regrown x4
        have k5 := cell_regrown x5
        have f9 : IntKind.i64.wrap (-(k : Int)) = -(k : Int) := IntWalk.i64_in _ (by omega)
        by_cases hlt : (k : Int) < dist (cy a b m) (cy a b n) b
        · obtain ⟨n1, n2⟩ := HL.out k (by omega) hlt
          have t1 : (stp (cy a b m) b ↑k != cy a b n) = true := by simpa using n1
          have t2 : (stp (cy a b m) b (-↑k) != cy a b n) = true := by simpa using n2
          clear n1 n2
          go_wp2_with fail
          refine wp_region_quiet_below (by kernel_rfl) (by kernel_rfl) ?_
          repeat (go_big_quiet_step (first | exact Calls.regrown_of (on1 a b c m _ HH.out HM.out.1 HM.out.2 _) | exact Calls.regrown_of (where_on a b c m (some false) _ HH.out _)))
          refine wpQuiet_nil ?_
          intro _ hw'
          obtain ⟨⟨dq, osq⟩, hw''⟩ := hw'
          subst hw''
          have hg := below_regrown wr dq osq
          have y := below_up hB2.out hg
          have y0 := keep_cell x0 hg
          have y1 := keep_cell x1 hg
          have y2 := keep_cell x2 hg
          have y3 := keep_cell x3 hg
          have y4 := keep_cell x4 hg
          have y5 := keep_cell x5 hg
          clear hg k0 k1 k2 k3 k4 k5 x0 x1 x2 x3 x4 x5
          generalize grow (redrawn wr dq) osq = w' at *
          have Y := Lib.hid y
          clear y t1 t2
          go_wp2_with fail
          go_roundw
          case rel => exact ⟨⟨k + 1, by omega, by go_num⟩, Y.out, y0, y1, y2, y3, y4, y5⟩
          case measure => simp [intOf]; omega
        · have hke : dist (cy a b m) (cy a b n) b = (k : Int) := by omega
          have hth := HT.out
          rw [hke] at hth
          have HKE := Lib.hid hke
          clear hke
          by_cases n1 : stp (cy a b m) b ↑k = cy a b n
          · have t1 : (stp (cy a b m) b ↑k != cy a b n) = false := by simpa using n1
            clear n1 hth hlt
            go_wp2_with fail
            refine wp_region_quiet_below (by kernel_rfl) (by kernel_rfl) ?_
            repeat (go_big_quiet_step (first | exact Calls.regrown_of (on1 a b c m _ HH.out HM.out.1 HM.out.2 _) | exact Calls.regrown_of (where_on a b c m (some false) _ HH.out _)))
            refine wpQuiet_nil ?_
            intro _ hw'
            obtain ⟨⟨dq, osq⟩, hw''⟩ := hw'
            subst hw''
            have hg := below_regrown wr dq osq
            have y := below_up hB2.out hg
            have y0 := keep_cell x0 hg
            have y1 := keep_cell x1 hg
            have y2 := keep_cell x2 hg
            have y3 := keep_cell x3 hg
            have y4 := keep_cell x4 hg
            have y5 := keep_cell x5 hg
            clear hg k0 k1 k2 k3 k4 k5 x0 x1 x2 x3 x4 x5
            generalize grow (redrawn wr dq) osq = w' at *
            have Y := Lib.hid y
            clear y t1
            go_wp2_with fail
            go_roundw
            case rel => exact ⟨.inr (.inr (.inl ⟨rfl, by rw [HKE.out]⟩)), Y.out, y0, y1, y2, y3, y4, y5⟩
            case measure => simp [intOf]
          · have t2 : (stp (cy a b m) b (-↑k) != cy a b n) = false := by
              rcases hth with h | h
              · exact absurd h n1
              · simpa using h
            have t1 : (stp (cy a b m) b ↑k != cy a b n) = true := by simpa using n1
            clear n1 hth hlt
            go_wp2_with fail
            refine wp_region_quiet_below (by kernel_rfl) (by kernel_rfl) ?_
            repeat (go_big_quiet_step (first | exact Calls.regrown_of (on1 a b c m _ HH.out HM.out.1 HM.out.2 _) | exact Calls.regrown_of (where_on a b c m (some false) _ HH.out _)))
            refine wpQuiet_nil ?_
            intro _ hw'
            obtain ⟨⟨dq, osq⟩, hw''⟩ := hw'
            subst hw''
            have hg := below_regrown wr dq osq
            have y := below_up hB2.out hg
            have y0 := keep_cell x0 hg
            have y1 := keep_cell x1 hg
            have y2 := keep_cell x2 hg
            have y3 := keep_cell x3 hg
            have y4 := keep_cell x4 hg
            have y5 := keep_cell x5 hg
            clear hg k0 k1 k2 k3 k4 k5 x0 x1 x2 x3 x4 x5
            generalize grow (redrawn wr dq) osq = w' at *
            have Y := Lib.hid y
            clear y t1 t2
            go_wp2_with fail
            go_roundw
            case rel => exact ⟨.inr (.inr (.inl ⟨rfl, by rw [HKE.out]⟩)), Y.out, y0, y1, y2, y3, y4, y5⟩
            case measure => simp [intOf]
    · have ix : ∀ k w, (Instr.index 22 (coR a b c m (some true) k) (.int .i64 2)).run Try.prog w = .ok (.int .i64 (stp (cz a b c m) c k)) w := index_on2 a b c m
      have there := dist_there (p := cz a b c m) (q := cz a b c n) (n := c) ⟨by omega, by omega⟩
      have least := fun k : Int => dist_least (p := cz a b c m) (q := cz a b c n) (n := c) (k := k) ⟨by omega, by omega⟩ ⟨by omega, by omega⟩
      have HT := Lib.hid there
      have HL := Lib.hid least
      clear there least
      go_wp2_with fail
      go_loopw [11] (fun i wi => (∃ k : Nat, (k : Int) ≤ dist (cz a b c m) (cz a b c n) c ∧ i = .int .i64 k) ∧ Hid (Below w.heap.size w wi) ∧ wi.cell? ⟨w.heap.size, 0, none⟩ = some (.int .i64 a) ∧ wi.cell? ⟨w.heap.size, 1, none⟩ = some (.int .i64 b) ∧ wi.cell? ⟨w.heap.size, 2, none⟩ = some (.int .i64 c) ∧ wi.cell? ⟨w4.heap.size, 0, none⟩ = some (.int .i64 (cx a n)) ∧ wi.cell? ⟨w4.heap.size, 1, none⟩ = some (.int .i64 (cy a b n)) ∧ wi.cell? ⟨w4.heap.size, 2, none⟩ = some (.int .i64 (cz a b c n)))
        (fun i _ => 17 - (intOf i).toNat)
      case atStart => exact ⟨⟨0, by omega, rfl⟩, hB.out, e0, e1, e2, e3, e4, e5⟩
      case round =>
        obtain ⟨⟨k, hk, rfl⟩, hB2, x0, x1, x2, x3, x4, x5⟩ := hrel
        clear e0 e1 e2 e3 e4 e5
        have k0 := cell_regrown x0
        have k1 := cell_regrown x1
        have k2 := cell_regrown x2
        have k3 := cell_regrown x3
        have k4 := cell_regrown x4
        have k5 := cell_regrown x5
        have f9 : IntKind.i64.wrap (-(k : Int)) = -(k : Int) := IntWalk.i64_in _ (by omega)
        by_cases hlt : (k : Int) < dist (cz a b c m) (cz a b c n) c
        · obtain ⟨n1, n2⟩ := HL.out k (by omega) hlt
          have t1 : (stp (cz a b c m) c ↑k != cz a b c n) = true := by simpa using n1
          have t2 : (stp (cz a b c m) c (-↑k) != cz a b c n) = true := by simpa using n2
          clear n1 n2
          go_wp2_with fail
          refine wp_region_quiet_below (by kernel_rfl) (by kernel_rfl) ?_
          repeat (go_big_quiet_step (first | exact Calls.regrown_of (on2 a b c m _ HH.out HM.out.1 HM.out.2 _) | exact Calls.regrown_of (where_on a b c m (some true) _ HH.out _)))
          refine wpQuiet_nil ?_
          intro _ hw'
          obtain ⟨⟨dq, osq⟩, hw''⟩ := hw'
          subst hw''
          have hg := below_regrown wr dq osq
          have y := below_up hB2.out hg
          have y0 := keep_cell x0 hg
          have y1 := keep_cell x1 hg
          have y2 := keep_cell x2 hg
          have y3 := keep_cell x3 hg
          have y4 := keep_cell x4 hg
          have y5 := keep_cell x5 hg
          clear hg k0 k1 k2 k3 k4 k5 x0 x1 x2 x3 x4 x5
          generalize grow (redrawn wr dq) osq = w' at *
          have Y := Lib.hid y
          clear y t1 t2
          go_wp2_with fail
          go_roundw
          case rel => exact ⟨⟨k + 1, by omega, by go_num⟩, Y.out, y0, y1, y2, y3, y4, y5⟩
          case measure => simp [intOf]; omega
        · have hke : dist (cz a b c m) (cz a b c n) c = (k : Int) := by omega
          have hth := HT.out
          rw [hke] at hth
          have HKE := Lib.hid hke
          clear hke
          by_cases n1 : stp (cz a b c m) c ↑k = cz a b c n
          · have t1 : (stp (cz a b c m) c ↑k != cz a b c n) = false := by simpa using n1
            clear n1 hth hlt
            go_wp2_with fail
            refine wp_region_quiet_below (by kernel_rfl) (by kernel_rfl) ?_
            repeat (go_big_quiet_step (first | exact Calls.regrown_of (on2 a b c m _ HH.out HM.out.1 HM.out.2 _) | exact Calls.regrown_of (where_on a b c m (some true) _ HH.out _)))
            refine wpQuiet_nil ?_
            intro _ hw'
            obtain ⟨⟨dq, osq⟩, hw''⟩ := hw'
            subst hw''
            have hg := below_regrown wr dq osq
            have y := below_up hB2.out hg
            have y0 := keep_cell x0 hg
            have y1 := keep_cell x1 hg
            have y2 := keep_cell x2 hg
            have y3 := keep_cell x3 hg
            have y4 := keep_cell x4 hg
            have y5 := keep_cell x5 hg
            clear hg k0 k1 k2 k3 k4 k5 x0 x1 x2 x3 x4 x5
            generalize grow (redrawn wr dq) osq = w' at *
            have Y := Lib.hid y
            clear y t1
            go_wp2_with fail
            go_roundw
            case rel => exact ⟨.inr (.inr (.inr ⟨rfl, by unfold farR; rw [HKE.out]⟩)), Y.out, y0, y1, y2, y3, y4, y5⟩
            case measure => simp [intOf]
          · have t2 : (stp (cz a b c m) c (-↑k) != cz a b c n) = false := by
              rcases hth with h | h
              · exact absurd h n1
              · simpa using h
            have t1 : (stp (cz a b c m) c ↑k != cz a b c n) = true := by simpa using n1
            clear n1 hth hlt
            go_wp2_with fail
            refine wp_region_quiet_below (by kernel_rfl) (by kernel_rfl) ?_
            repeat (go_big_quiet_step (first | exact Calls.regrown_of (on2 a b c m _ HH.out HM.out.1 HM.out.2 _) | exact Calls.regrown_of (where_on a b c m (some true) _ HH.out _)))
            refine wpQuiet_nil ?_
            intro _ hw'
            obtain ⟨⟨dq, osq⟩, hw''⟩ := hw'
            subst hw''
            have hg := below_regrown wr dq osq
            have y := below_up hB2.out hg
            have y0 := keep_cell x0 hg
            have y1 := keep_cell x1 hg
            have y2 := keep_cell x2 hg
            have y3 := keep_cell x3 hg
            have y4 := keep_cell x4 hg
            have y5 := keep_cell x5 hg
            clear hg k0 k1 k2 k3 k4 k5 x0 x1 x2 x3 x4 x5
            generalize grow (redrawn wr dq) osq = w' at *
            have Y := Lib.hid y
            clear y t1 t2
            go_wp2_with fail
            go_roundw
            case rel => exact ⟨.inr (.inr (.inr ⟨rfl, by unfold farR; rw [HKE.out]⟩)), Y.out, y0, y1, y2, y3, y4, y5⟩
            case measure => simp [intOf]
    · go_wp2_with fail
      go_ret2
      exact ⟨rfl, hB.out⟩
end Go.Proofs.Ythapginaphdmjaa.PosRefFar
