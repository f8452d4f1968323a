/- The walk of PosFar. -/
import Derived.Test.YthapginaphdmjaaPosLaws
namespace Go.Proofs.Ythapginaphdmjaa.PosLaws3
open Go.RowKit Go.Shelf Go.Sort PosMath PosCheck PosMany Mem SeqKit PosSeq Round PosAt PosOf PosRef PosOn PosFar PosRefFar PosSame Arr PosLaws
set_option linter.unusedVariables false

theorem far_range {a b c m n : Int} (h : May a b c) : 0 ≤ farR a b c m n ∧ farR a b c m n ≤ 48 := by
  obtain ⟨hx, hy, hz⟩ := ok_of (m := m) h
  obtain ⟨kx, ky, kz⟩ := ok_of (m := n) h
  have d1 := dist_range hx kx
  have d2 := dist_range hy ky
  have d3 := dist_range hz kz
  obtain ⟨⟨ha, ha'⟩, ⟨hb, hb'⟩, ⟨hc, hc'⟩⟩ := h
  unfold farR; omega
theorem far_comm {a b c m n : Int} (h : May a b c) : farR a b c m n = farR a b c n m := by
  obtain ⟨hx, hy, hz⟩ := ok_of (m := m) h
  obtain ⟨kx, ky, kz⟩ := ok_of (m := n) h
  unfold farR; rw [dist_comm hx kx, dist_comm hy ky, dist_comm hz kz]
theorem far_tri {a b c m n o : Int} (h : May a b c) : farR a b c m o ≤ farR a b c m n + farR a b c n o := by
  obtain ⟨hx, hy, hz⟩ := ok_of (m := m) h
  obtain ⟨kx, ky, kz⟩ := ok_of (m := n) h
  obtain ⟨lx, ly, lz⟩ := ok_of (m := o) h
  have d1 := dist_tri hx kx lx
  have d2 := dist_tri hy ky ly
  have d3 := dist_tri hz kz lz
  unfold farR; omega
theorem far_self {a b c m : Int} (h : May a b c) : farR a b c m m = 0 := by
  obtain ⟨hx, hy, hz⟩ := ok_of (m := m) h
  unfold farR; rw [dist_self hx, dist_self hy, dist_self hz]; rfl
theorem far_zero {a b c m n : Int} (h : May a b c) (h0 : 0 ≤ m) (h1 : m < num a b c) (h2 : 0 ≤ n) (h3 : n < num a b c) (hf : farR a b c m n = 0) : m = n := by
  obtain ⟨hx, hy, hz⟩ := ok_of (m := m) h
  obtain ⟨kx, ky, kz⟩ := ok_of (m := n) h
  have d1 := dist_range hx kx
  have d2 := dist_range hy ky
  have d3 := dist_range hz kz
  unfold farR at hf
  have e1 := (dist_zero hx kx).1 (by omega)
  have e2 := (dist_zero hy ky).1 (by omega)
  have e3 := (dist_zero hz kz).1 (by omega)
  have a1 := at_of h h0 h1
  have a2 := at_of h h2 h3
  rw [← a1, ← a2, e1, e2, e3]
theorem far_on {a b c m : Int} (h : May a b c) (k : Ax) : farR a b c m (onR a b c m k 1) = if 1 < of3 a b c k then 1 else 0 := by
  obtain ⟨hx, hy, hz⟩ := ok_of (m := m) h
  obtain ⟨e1, e2, e3⟩ := on_cx (m := m) h k 1
  unfold farR
  rw [e1, e2, e3]
  rcases k with _ | _ | _ <;> simp [of3, dist_self hx, dist_self hy, dist_self hz, dist_step hx, dist_step hy, dist_step hz] <;> rfl
/-- The loop over axes. -/
def RelI (i : Value) : Prop := i = .int .i64 0 ∨ i = .int .i64 1 ∨ i = .int .i64 2 ∨ i = .int .i64 3
set_option maxRecDepth 100000 in
set_option maxHeartbeats 4000000 in
theorem far_bad1 (w : World) (a b c p q r : Int) (h : ¬ May a b c) :
    Calls Try.prog 8 #[.agg #[.int .i64 a, .int .i64 b, .int .i64 c], .int .i64 p, .int .i64 q, .int .i64 r] w fun e w' => e = .returned (.bool true) ∧ Below w.heap.size w w' := by
  have HH := Lib.hid h
  clear h
  go_enter Try.func8, Try.ntmps8
  go_wp2_with fail
  refine (alive_any _).mono ?_
  rintro e w1 ⟨rfl, hB1⟩
  have HB1 : Hid (Below w.heap.size w w1) := below_up (below_alloc (Below.refl _ _)) hB1
  have c1_0 : w1.cell? ⟨w.heap.size, 0, none⟩ = some (.int .i64 a) := keep_cell (box0 w 23 #[.int .i64 a, .int .i64 b, .int .i64 c] 0) hB1
  have c1_1 : w1.cell? ⟨w.heap.size, 1, none⟩ = some (.int .i64 b) := keep_cell (box0 w 23 #[.int .i64 a, .int .i64 b, .int .i64 c] 1) hB1
  have c1_2 : w1.cell? ⟨w.heap.size, 2, none⟩ = some (.int .i64 c) := keep_cell (box0 w 23 #[.int .i64 a, .int .i64 b, .int .i64 c] 2) hB1
  have z1_0 : w.heap.size < w1.heap.size := cell_lt c1_0
  clear hB1  
  go_wp2_with fail
  refine (many_bad a b c HH.out _).mono ?_
  rintro e w2 ⟨rfl, hB2⟩
  have HB2 : Hid (Below w.heap.size w w2) := below_up HB1.out hB2
  have c2_0 : w2.cell? ⟨w.heap.size, 0, none⟩ = some (.int .i64 a) := keep_cell c1_0 hB2
  have c2_1 : w2.cell? ⟨w.heap.size, 1, none⟩ = some (.int .i64 b) := keep_cell c1_1 hB2
  have c2_2 : w2.cell? ⟨w.heap.size, 2, none⟩ = some (.int .i64 c) := keep_cell c1_2 hB2
  have z2_0 : w.heap.size < w2.heap.size := cell_lt c2_0
  clear hB2 c1_0 c1_1 c1_2 z1_0
  go_wp2_with fail
  go_ret
  exact ⟨rfl, HB2.out⟩
set_option maxRecDepth 100000 in
set_option maxHeartbeats 4000000 in
theorem far_p0 (w : World) (a b c p q r : Int) (h : May a b c) (hc : p < 0) :
    Calls Try.prog 8 #[.agg #[.int .i64 a, .int .i64 b, .int .i64 c], .int .i64 p, .int .i64 q, .int .i64 r] w fun e w' => e = .returned (.bool true) ∧ Below w.heap.size w w' := by
  have HH := Lib.hid h
  obtain ⟨n, hn⟩ : ∃ n, n = num a b c := ⟨_, rfl⟩
  have HN := Lib.hid hn
  clear hn h
  go_enter Try.func8, Try.ntmps8
  go_wp2_with fail
  refine (alive_any _).mono ?_
  rintro e w1 ⟨rfl, hB1⟩
  have HB1 : Hid (Below w.heap.size w w1) := below_up (below_alloc (Below.refl _ _)) hB1
  have c1_0 : w1.cell? ⟨w.heap.size, 0, none⟩ = some (.int .i64 a) := keep_cell (box0 w 23 #[.int .i64 a, .int .i64 b, .int .i64 c] 0) hB1
  have c1_1 : w1.cell? ⟨w.heap.size, 1, none⟩ = some (.int .i64 b) := keep_cell (box0 w 23 #[.int .i64 a, .int .i64 b, .int .i64 c] 1) hB1
  have c1_2 : w1.cell? ⟨w.heap.size, 2, none⟩ = some (.int .i64 c) := keep_cell (box0 w 23 #[.int .i64 a, .int .i64 b, .int .i64 c] 2) hB1
  have z1_0 : w.heap.size < w1.heap.size := cell_lt c1_0
  clear hB1  
  go_wp2_with fail
  refine (many_to a b c n HH.out HN.out _).mono ?_
  rintro e w2 ⟨rfl, hB2⟩
  have HB2 : Hid (Below w.heap.size w w2) := below_up HB1.out hB2
  have c2_0 : w2.cell? ⟨w.heap.size, 0, none⟩ = some (.int .i64 a) := keep_cell c1_0 hB2
  have c2_1 : w2.cell? ⟨w.heap.size, 1, none⟩ = some (.int .i64 b) := keep_cell c1_1 hB2
  have c2_2 : w2.cell? ⟨w.heap.size, 2, none⟩ = some (.int .i64 c) := keep_cell c1_2 hB2
  have z2_0 : w.heap.size < w2.heap.size := cell_lt c2_0
  clear hB2 c1_0 c1_1 c1_2 z1_0
  go_wp2_with fail
  go_ret
  exact ⟨rfl, HB2.out⟩
set_option maxRecDepth 100000 in
set_option maxHeartbeats 4000000 in
theorem far_p1 (w : World) (a b c p q r : Int) (h : May a b c) (h0 : 0 ≤ p) (hc : num a b c ≤ p) :
    Calls Try.prog 8 #[.agg #[.int .i64 a, .int .i64 b, .int .i64 c], .int .i64 p, .int .i64 q, .int .i64 r] w fun e w' => e = .returned (.bool true) ∧ Below w.heap.size w w' := by
  have HH := Lib.hid h
  obtain ⟨n, hn⟩ : ∃ n, n = num a b c := ⟨_, rfl⟩
  rw [← hn] at hc
  have HN := Lib.hid hn
  clear hn h
  go_enter Try.func8, Try.ntmps8
  go_wp2_with fail
  refine (alive_any _).mono ?_
  rintro e w1 ⟨rfl, hB1⟩
  have HB1 : Hid (Below w.heap.size w w1) := below_up (below_alloc (Below.refl _ _)) hB1
  have c1_0 : w1.cell? ⟨w.heap.size, 0, none⟩ = some (.int .i64 a) := keep_cell (box0 w 23 #[.int .i64 a, .int .i64 b, .int .i64 c] 0) hB1
  have c1_1 : w1.cell? ⟨w.heap.size, 1, none⟩ = some (.int .i64 b) := keep_cell (box0 w 23 #[.int .i64 a, .int .i64 b, .int .i64 c] 1) hB1
  have c1_2 : w1.cell? ⟨w.heap.size, 2, none⟩ = some (.int .i64 c) := keep_cell (box0 w 23 #[.int .i64 a, .int .i64 b, .int .i64 c] 2) hB1
  have z1_0 : w.heap.size < w1.heap.size := cell_lt c1_0
  clear hB1  
  go_wp2_with fail
  refine (many_to a b c n HH.out HN.out _).mono ?_
  rintro e w2 ⟨rfl, hB2⟩
  have HB2 : Hid (Below w.heap.size w w2) := below_up HB1.out hB2
  have c2_0 : w2.cell? ⟨w.heap.size, 0, none⟩ = some (.int .i64 a) := keep_cell c1_0 hB2
  have c2_1 : w2.cell? ⟨w.heap.size, 1, none⟩ = some (.int .i64 b) := keep_cell c1_1 hB2
  have c2_2 : w2.cell? ⟨w.heap.size, 2, none⟩ = some (.int .i64 c) := keep_cell c1_2 hB2
  have z2_0 : w.heap.size < w2.heap.size := cell_lt c2_0
  clear hB2 c1_0 c1_1 c1_2 z1_0
  go_wp2_with fail
  go_ret
  exact ⟨rfl, HB2.out⟩
set_option maxRecDepth 100000 in
set_option maxHeartbeats 4000000 in
theorem far_q0 (w : World) (a b c p q r : Int) (h : May a b c) (h0 : 0 ≤ p) (h1 : p < num a b c) (hc : q < 0) :
    Calls Try.prog 8 #[.agg #[.int .i64 a, .int .i64 b, .int .i64 c], .int .i64 p, .int .i64 q, .int .i64 r] w fun e w' => e = .returned (.bool true) ∧ Below w.heap.size w w' := by
  have HH := Lib.hid h
  obtain ⟨n, hn⟩ : ∃ n, n = num a b c := ⟨_, rfl⟩
  rw [← hn] at h1
  have HN := Lib.hid hn
  clear hn h
  go_enter Try.func8, Try.ntmps8
  go_wp2_with fail
  refine (alive_any _).mono ?_
  rintro e w1 ⟨rfl, hB1⟩
  have HB1 : Hid (Below w.heap.size w w1) := below_up (below_alloc (Below.refl _ _)) hB1
  have c1_0 : w1.cell? ⟨w.heap.size, 0, none⟩ = some (.int .i64 a) := keep_cell (box0 w 23 #[.int .i64 a, .int .i64 b, .int .i64 c] 0) hB1
  have c1_1 : w1.cell? ⟨w.heap.size, 1, none⟩ = some (.int .i64 b) := keep_cell (box0 w 23 #[.int .i64 a, .int .i64 b, .int .i64 c] 1) hB1
  have c1_2 : w1.cell? ⟨w.heap.size, 2, none⟩ = some (.int .i64 c) := keep_cell (box0 w 23 #[.int .i64 a, .int .i64 b, .int .i64 c] 2) hB1
  have z1_0 : w.heap.size < w1.heap.size := cell_lt c1_0
  clear hB1  
  go_wp2_with fail
  refine (many_to a b c n HH.out HN.out _).mono ?_
  rintro e w2 ⟨rfl, hB2⟩
  have HB2 : Hid (Below w.heap.size w w2) := below_up HB1.out hB2
  have c2_0 : w2.cell? ⟨w.heap.size, 0, none⟩ = some (.int .i64 a) := keep_cell c1_0 hB2
  have c2_1 : w2.cell? ⟨w.heap.size, 1, none⟩ = some (.int .i64 b) := keep_cell c1_1 hB2
  have c2_2 : w2.cell? ⟨w.heap.size, 2, none⟩ = some (.int .i64 c) := keep_cell c1_2 hB2
  have z2_0 : w.heap.size < w2.heap.size := cell_lt c2_0
  clear hB2 c1_0 c1_1 c1_2 z1_0
  go_wp2_with fail
  go_ret
  exact ⟨rfl, HB2.out⟩
set_option maxRecDepth 100000 in
set_option maxHeartbeats 4000000 in
theorem far_q1 (w : World) (a b c p q r : Int) (h : May a b c) (h0 : 0 ≤ p) (h1 : p < num a b c) (h2 : 0 ≤ q) (hc : num a b c ≤ q) :
    Calls Try.prog 8 #[.agg #[.int .i64 a, .int .i64 b, .int .i64 c], .int .i64 p, .int .i64 q, .int .i64 r] w fun e w' => e = .returned (.bool true) ∧ Below w.heap.size w w' := by
  have HH := Lib.hid h
  obtain ⟨n, hn⟩ : ∃ n, n = num a b c := ⟨_, rfl⟩
  rw [← hn] at h1 hc
  have HN := Lib.hid hn
  clear hn h
  go_enter Try.func8, Try.ntmps8
  go_wp2_with fail
  refine (alive_any _).mono ?_
  rintro e w1 ⟨rfl, hB1⟩
  have HB1 : Hid (Below w.heap.size w w1) := below_up (below_alloc (Below.refl _ _)) hB1
  have c1_0 : w1.cell? ⟨w.heap.size, 0, none⟩ = some (.int .i64 a) := keep_cell (box0 w 23 #[.int .i64 a, .int .i64 b, .int .i64 c] 0) hB1
  have c1_1 : w1.cell? ⟨w.heap.size, 1, none⟩ = some (.int .i64 b) := keep_cell (box0 w 23 #[.int .i64 a, .int .i64 b, .int .i64 c] 1) hB1
  have c1_2 : w1.cell? ⟨w.heap.size, 2, none⟩ = some (.int .i64 c) := keep_cell (box0 w 23 #[.int .i64 a, .int .i64 b, .int .i64 c] 2) hB1
  have z1_0 : w.heap.size < w1.heap.size := cell_lt c1_0
  clear hB1  
  go_wp2_with fail
  refine (many_to a b c n HH.out HN.out _).mono ?_
  rintro e w2 ⟨rfl, hB2⟩
  have HB2 : Hid (Below w.heap.size w w2) := below_up HB1.out hB2
  have c2_0 : w2.cell? ⟨w.heap.size, 0, none⟩ = some (.int .i64 a) := keep_cell c1_0 hB2
  have c2_1 : w2.cell? ⟨w.heap.size, 1, none⟩ = some (.int .i64 b) := keep_cell c1_1 hB2
  have c2_2 : w2.cell? ⟨w.heap.size, 2, none⟩ = some (.int .i64 c) := keep_cell c1_2 hB2
  have z2_0 : w.heap.size < w2.heap.size := cell_lt c2_0
  clear hB2 c1_0 c1_1 c1_2 z1_0
  go_wp2_with fail
  go_ret
  exact ⟨rfl, HB2.out⟩
set_option maxRecDepth 100000 in
set_option maxHeartbeats 4000000 in
theorem far_r0 (w : World) (a b c p q r : Int) (h : May a b c) (h0 : 0 ≤ p) (h1 : p < num a b c) (h2 : 0 ≤ q) (h3 : q < num a b c) (hc : r < 0) :
    Calls Try.prog 8 #[.agg #[.int .i64 a, .int .i64 b, .int .i64 c], .int .i64 p, .int .i64 q, .int .i64 r] w fun e w' => e = .returned (.bool true) ∧ Below w.heap.size w w' := by
  have HH := Lib.hid h
  obtain ⟨n, hn⟩ : ∃ n, n = num a b c := ⟨_, rfl⟩
  rw [← hn] at h1 h3
  have HN := Lib.hid hn
  clear hn h
  go_enter Try.func8, Try.ntmps8
  go_wp2_with fail
  refine (alive_any _).mono ?_
  rintro e w1 ⟨rfl, hB1⟩
  have HB1 : Hid (Below w.heap.size w w1) := below_up (below_alloc (Below.refl _ _)) hB1
  have c1_0 : w1.cell? ⟨w.heap.size, 0, none⟩ = some (.int .i64 a) := keep_cell (box0 w 23 #[.int .i64 a, .int .i64 b, .int .i64 c] 0) hB1
  have c1_1 : w1.cell? ⟨w.heap.size, 1, none⟩ = some (.int .i64 b) := keep_cell (box0 w 23 #[.int .i64 a, .int .i64 b, .int .i64 c] 1) hB1
  have c1_2 : w1.cell? ⟨w.heap.size, 2, none⟩ = some (.int .i64 c) := keep_cell (box0 w 23 #[.int .i64 a, .int .i64 b, .int .i64 c] 2) hB1
  have z1_0 : w.heap.size < w1.heap.size := cell_lt c1_0
  clear hB1  
  go_wp2_with fail
  refine (many_to a b c n HH.out HN.out _).mono ?_
  rintro e w2 ⟨rfl, hB2⟩
  have HB2 : Hid (Below w.heap.size w w2) := below_up HB1.out hB2
  have c2_0 : w2.cell? ⟨w.heap.size, 0, none⟩ = some (.int .i64 a) := keep_cell c1_0 hB2
  have c2_1 : w2.cell? ⟨w.heap.size, 1, none⟩ = some (.int .i64 b) := keep_cell c1_1 hB2
  have c2_2 : w2.cell? ⟨w.heap.size, 2, none⟩ = some (.int .i64 c) := keep_cell c1_2 hB2
  have z2_0 : w.heap.size < w2.heap.size := cell_lt c2_0
  clear hB2 c1_0 c1_1 c1_2 z1_0
  go_wp2_with fail
  go_ret
  exact ⟨rfl, HB2.out⟩
set_option maxRecDepth 100000 in
set_option maxHeartbeats 4000000 in
theorem far_r1 (w : World) (a b c p q r : Int) (h : May a b c) (h0 : 0 ≤ p) (h1 : p < num a b c) (h2 : 0 ≤ q) (h3 : q < num a b c) (h4 : 0 ≤ r) (hc : num a b c ≤ r) :
    Calls Try.prog 8 #[.agg #[.int .i64 a, .int .i64 b, .int .i64 c], .int .i64 p, .int .i64 q, .int .i64 r] w fun e w' => e = .returned (.bool true) ∧ Below w.heap.size w w' := by
  have HH := Lib.hid h
  obtain ⟨n, hn⟩ : ∃ n, n = num a b c := ⟨_, rfl⟩
  rw [← hn] at h1 h3 hc
  have HN := Lib.hid hn
  clear hn h
  go_enter Try.func8, Try.ntmps8
  go_wp2_with fail
  refine (alive_any _).mono ?_
  rintro e w1 ⟨rfl, hB1⟩
  have HB1 : Hid (Below w.heap.size w w1) := below_up (below_alloc (Below.refl _ _)) hB1
  have c1_0 : w1.cell? ⟨w.heap.size, 0, none⟩ = some (.int .i64 a) := keep_cell (box0 w 23 #[.int .i64 a, .int .i64 b, .int .i64 c] 0) hB1
  have c1_1 : w1.cell? ⟨w.heap.size, 1, none⟩ = some (.int .i64 b) := keep_cell (box0 w 23 #[.int .i64 a, .int .i64 b, .int .i64 c] 1) hB1
  have c1_2 : w1.cell? ⟨w.heap.size, 2, none⟩ = some (.int .i64 c) := keep_cell (box0 w 23 #[.int .i64 a, .int .i64 b, .int .i64 c] 2) hB1
  have z1_0 : w.heap.size < w1.heap.size := cell_lt c1_0
  clear hB1  
  go_wp2_with fail
  refine (many_to a b c n HH.out HN.out _).mono ?_
  rintro e w2 ⟨rfl, hB2⟩
  have HB2 : Hid (Below w.heap.size w w2) := below_up HB1.out hB2
  have c2_0 : w2.cell? ⟨w.heap.size, 0, none⟩ = some (.int .i64 a) := keep_cell c1_0 hB2
  have c2_1 : w2.cell? ⟨w.heap.size, 1, none⟩ = some (.int .i64 b) := keep_cell c1_1 hB2
  have c2_2 : w2.cell? ⟨w.heap.size, 2, none⟩ = some (.int .i64 c) := keep_cell c1_2 hB2
  have z2_0 : w.heap.size < w2.heap.size := cell_lt c2_0
  clear hB2 c1_0 c1_1 c1_2 z1_0
  go_wp2_with fail
  go_ret
  exact ⟨rfl, HB2.out⟩
set_option maxRecDepth 100000 in
set_option maxHeartbeats 4000000 in
theorem far_main_same (w : World) (a b c p r : Int) (h : May a b c) (h0 : 0 ≤ p) (h1 : p < num a b c) (h4 : 0 ≤ r) (h5 : r < num a b c) :
    Calls Try.prog 8 #[.agg #[.int .i64 a, .int .i64 b, .int .i64 c], .int .i64 p, .int .i64 p, .int .i64 r] w fun e w' => e = .returned (.bool true) ∧ Below w.heap.size w w' := by
  have HM := Lib.hid (And.intro h0 h1)
  have HQ := HM
  have HR := Lib.hid (And.intro h4 h5)
  obtain ⟨X, hX⟩ : ∃ X, X = farR a b c p p := ⟨_, rfl⟩
  obtain ⟨Z, hZ⟩ : ∃ Z, Z = farR a b c p r := ⟨_, rfl⟩
  obtain ⟨V, hV⟩ : ∃ V, V = farR a b c p r := ⟨_, rfl⟩
  obtain ⟨x0, x1⟩ := far_range (m := p) (n := p) h
  obtain ⟨z0, z1⟩ := far_range (m := p) (n := r) h
  have hY : X = farR a b c p p := hX.trans (far_comm h)
  have tri : V ≤ X + Z := by rw [hV, hX, hZ]; exact far_tri h
  rw [← hX] at x0 x1
  rw [← hZ] at z0 z1
  have hX0 : X = 0 := by rw [hX]; exact far_self h
  subst hX0
  have HX := Lib.hid hX
  have HY := Lib.hid hY
  have HZ := Lib.hid hZ
  have HV := Lib.hid hV
  have HF := Lib.hid (fun k => far_on (m := p) h k)
  have HO := Lib.hid (fun k => on_range (m := p) h k 1)
  obtain ⟨⟨ha, ha'⟩, ⟨hb, hb'⟩, ⟨hc, hc'⟩⟩ := id h
  have HH := Lib.hid h
  obtain ⟨n, hn⟩ : ∃ n, n = num a b c := ⟨_, rfl⟩
  rw [← hn] at h1 h5
  have HN := Lib.hid hn
  clear hn h hX hY hZ hV
  go_enter Try.func8, Try.ntmps8
  go_wp2_with fail
  refine (alive_any _).mono ?_
  rintro e w1 ⟨rfl, hB1⟩
  have HB1 : Hid (Below w.heap.size w w1) := below_up (below_alloc (Below.refl _ _)) hB1
  have c1_0 : w1.cell? ⟨w.heap.size, 0, none⟩ = some (.int .i64 a) := keep_cell (box0 w 23 #[.int .i64 a, .int .i64 b, .int .i64 c] 0) hB1
  have c1_1 : w1.cell? ⟨w.heap.size, 1, none⟩ = some (.int .i64 b) := keep_cell (box0 w 23 #[.int .i64 a, .int .i64 b, .int .i64 c] 1) hB1
  have c1_2 : w1.cell? ⟨w.heap.size, 2, none⟩ = some (.int .i64 c) := keep_cell (box0 w 23 #[.int .i64 a, .int .i64 b, .int .i64 c] 2) hB1
  have z1_0 : w.heap.size < w1.heap.size := cell_lt c1_0
  clear hB1  
  go_wp2_with fail
  refine (many_to a b c n HH.out HN.out _).mono ?_
  rintro e w2 ⟨rfl, hB2⟩
  have HB2 : Hid (Below w.heap.size w w2) := below_up HB1.out hB2
  have c2_0 : w2.cell? ⟨w.heap.size, 0, none⟩ = some (.int .i64 a) := keep_cell c1_0 hB2
  have c2_1 : w2.cell? ⟨w.heap.size, 1, none⟩ = some (.int .i64 b) := keep_cell c1_1 hB2
  have c2_2 : w2.cell? ⟨w.heap.size, 2, none⟩ = some (.int .i64 c) := keep_cell c1_2 hB2
  have z2_0 : w.heap.size < w2.heap.size := cell_lt c2_0
  clear hB2 c1_0 c1_1 c1_2 z1_0
  go_wp2_with fail
  refine (far_to a b c p p 0 HH.out HM.out.1 HM.out.2 HQ.out.1 HQ.out.2 HX.out _).mono ?_
  rintro e w3 ⟨rfl, hB3⟩
  have HB3 : Hid (Below w.heap.size w w3) := below_up HB2.out hB3
  have c3_0 : w3.cell? ⟨w.heap.size, 0, none⟩ = some (.int .i64 a) := keep_cell c2_0 hB3
  have c3_1 : w3.cell? ⟨w.heap.size, 1, none⟩ = some (.int .i64 b) := keep_cell c2_1 hB3
  have c3_2 : w3.cell? ⟨w.heap.size, 2, none⟩ = some (.int .i64 c) := keep_cell c2_2 hB3
  have z3_0 : w.heap.size < w3.heap.size := cell_lt c3_0
  clear hB3 c2_0 c2_1 c2_2 z2_0
  go_wp2_with fail
  refine (far_to a b c p p 0 HH.out HQ.out.1 HQ.out.2 HM.out.1 HM.out.2 HY.out _).mono ?_
  rintro e w4 ⟨rfl, hB4⟩
  have HB4 : Hid (Below w.heap.size w w4) := below_up HB3.out hB4
  have c4_0 : w4.cell? ⟨w.heap.size, 0, none⟩ = some (.int .i64 a) := keep_cell c3_0 hB4
  have c4_1 : w4.cell? ⟨w.heap.size, 1, none⟩ = some (.int .i64 b) := keep_cell c3_1 hB4
  have c4_2 : w4.cell? ⟨w.heap.size, 2, none⟩ = some (.int .i64 c) := keep_cell c3_2 hB4
  have z4_0 : w.heap.size < w4.heap.size := cell_lt c4_0
  clear hB4 c3_0 c3_1 c3_2 z3_0
  go_wp2_with fail
  refine (far_to a b c p r Z HH.out HQ.out.1 HQ.out.2 HR.out.1 HR.out.2 HZ.out _).mono ?_
  rintro e w5 ⟨rfl, hB5⟩
  have HB5 : Hid (Below w.heap.size w w5) := below_up HB4.out hB5
  have c5_0 : w5.cell? ⟨w.heap.size, 0, none⟩ = some (.int .i64 a) := keep_cell c4_0 hB5
  have c5_1 : w5.cell? ⟨w.heap.size, 1, none⟩ = some (.int .i64 b) := keep_cell c4_1 hB5
  have c5_2 : w5.cell? ⟨w.heap.size, 2, none⟩ = some (.int .i64 c) := keep_cell c4_2 hB5
  have z5_0 : w.heap.size < w5.heap.size := cell_lt c5_0
  clear hB5 c4_0 c4_1 c4_2 z4_0
  go_wp2_with fail
  refine (far_to a b c p r V HH.out HM.out.1 HM.out.2 HR.out.1 HR.out.2 HV.out _).mono ?_
  rintro e w6 ⟨rfl, hB6⟩
  have HB6 : Hid (Below w.heap.size w w6) := below_up HB5.out hB6
  have c6_0 : w6.cell? ⟨w.heap.size, 0, none⟩ = some (.int .i64 a) := keep_cell c5_0 hB6
  have c6_1 : w6.cell? ⟨w.heap.size, 1, none⟩ = some (.int .i64 b) := keep_cell c5_1 hB6
  have c6_2 : w6.cell? ⟨w.heap.size, 2, none⟩ = some (.int .i64 c) := keep_cell c5_2 hB6
  have z6_0 : w.heap.size < w6.heap.size := cell_lt c6_0
  clear hB6 c5_0 c5_1 c5_2 z5_0
  go_wp2_with fail
  go_loopw [20] (fun i wr => RelI i ∧ Hid (Below w.heap.size w wr) ∧ wr.cell? ⟨w.heap.size, 0, none⟩ = some (.int .i64 a) ∧ wr.cell? ⟨w.heap.size, 1, none⟩ = some (.int .i64 b) ∧ wr.cell? ⟨w.heap.size, 2, none⟩ = some (.int .i64 c))
    (fun i _ => 3 - (intOf i).toNat)
  case atStart => exact ⟨.inl rfl, HB6.out, c6_0, c6_1, c6_2⟩
  case round =>
    obtain ⟨hr, hB, e0, e1, e2⟩ := hrel
    clear c6_0 c6_1 c6_2 z6_0
    rcases hr with rfl | rfl | rfl | rfl
    · obtain ⟨M, hM⟩ : ∃ M, M = onR a b c p none 1 := ⟨_, rfl⟩
      have rM := HO.out none
      have fM : farR a b c p (onR a b c p none 1) = if 1 < a then 1 else 0 := HF.out none
      rw [← hM] at rM fM
      have HM2 := Lib.hid hM
      have RM := Lib.hid rM
      clear hM rM
      by_cases hd : 1 < a
      · rw [if_pos hd] at fM
        have FM := Lib.hid fM.symm
        clear fM
        go_wp2_with fail
        refine (step_to none _ rfl a b c p 1 M HH.out HM.out.1 HM.out.2 HM2.out _).mono ?_
        rintro e y1 ⟨rfl, g1⟩
        have G1 : Hid (Below w.heap.size w y1) := below_up hB.out g1
        have k0 := keep_cell e0 g1
        have k1 := keep_cell e1 g1
        have k2 := keep_cell e2 g1
        clear g1 e0 e1 e2
        go_wp2_with fail
        refine (far_to a b c p M 1 HH.out HM.out.1 HM.out.2 RM.out.1 RM.out.2 FM.out _).mono ?_
        rintro e y2 ⟨rfl, g2⟩
        have G2 : Hid (Below w.heap.size w y2) := below_up G1.out g2
        have l0 := keep_cell k0 g2
        have l1 := keep_cell k1 g2
        have l2 := keep_cell k2 g2
        clear g2 k0 k1 k2
        go_wp2_with fail
        go_roundw
        case rel => exact ⟨.inr (.inl rfl), G2.out, l0, l1, l2⟩
        case measure => simp [intOf]
      · rw [if_neg hd] at fM
        have FM := Lib.hid fM.symm
        clear fM
        go_wp2_with fail
        refine (step_to none _ rfl a b c p 1 M HH.out HM.out.1 HM.out.2 HM2.out _).mono ?_
        rintro e y1 ⟨rfl, g1⟩
        have G1 : Hid (Below w.heap.size w y1) := below_up hB.out g1
        have k0 := keep_cell e0 g1
        have k1 := keep_cell e1 g1
        have k2 := keep_cell e2 g1
        clear g1 e0 e1 e2
        go_wp2_with fail
        refine (far_to a b c p M 0 HH.out HM.out.1 HM.out.2 RM.out.1 RM.out.2 FM.out _).mono ?_
        rintro e y2 ⟨rfl, g2⟩
        have G2 : Hid (Below w.heap.size w y2) := below_up G1.out g2
        have l0 := keep_cell k0 g2
        have l1 := keep_cell k1 g2
        have l2 := keep_cell k2 g2
        clear g2 k0 k1 k2
        go_wp2_with fail
        go_roundw
        case rel => exact ⟨.inr (.inl rfl), G2.out, l0, l1, l2⟩
        case measure => simp [intOf]
    · obtain ⟨M, hM⟩ : ∃ M, M = onR a b c p (some false) 1 := ⟨_, rfl⟩
      have rM := HO.out (some false)
      have fM : farR a b c p (onR a b c p (some false) 1) = if 1 < b then 1 else 0 := HF.out (some false)
      rw [← hM] at rM fM
      have HM2 := Lib.hid hM
      have RM := Lib.hid rM
      clear hM rM
      by_cases hd : 1 < b
      · rw [if_pos hd] at fM
        have FM := Lib.hid fM.symm
        clear fM
        go_wp2_with fail
        refine (step_to (some false) _ rfl a b c p 1 M HH.out HM.out.1 HM.out.2 HM2.out _).mono ?_
        rintro e y1 ⟨rfl, g1⟩
        have G1 : Hid (Below w.heap.size w y1) := below_up hB.out g1
        have k0 := keep_cell e0 g1
        have k1 := keep_cell e1 g1
        have k2 := keep_cell e2 g1
        clear g1 e0 e1 e2
        go_wp2_with fail
        refine (far_to a b c p M 1 HH.out HM.out.1 HM.out.2 RM.out.1 RM.out.2 FM.out _).mono ?_
        rintro e y2 ⟨rfl, g2⟩
        have G2 : Hid (Below w.heap.size w y2) := below_up G1.out g2
        have l0 := keep_cell k0 g2
        have l1 := keep_cell k1 g2
        have l2 := keep_cell k2 g2
        clear g2 k0 k1 k2
        go_wp2_with fail
        go_roundw
        case rel => exact ⟨.inr (.inr (.inl rfl)), G2.out, l0, l1, l2⟩
        case measure => simp [intOf]
      · rw [if_neg hd] at fM
        have FM := Lib.hid fM.symm
        clear fM
        go_wp2_with fail
        refine (step_to (some false) _ rfl a b c p 1 M HH.out HM.out.1 HM.out.2 HM2.out _).mono ?_
        rintro e y1 ⟨rfl, g1⟩
        have G1 : Hid (Below w.heap.size w y1) := below_up hB.out g1
        have k0 := keep_cell e0 g1
        have k1 := keep_cell e1 g1
        have k2 := keep_cell e2 g1
        clear g1 e0 e1 e2
        go_wp2_with fail
        refine (far_to a b c p M 0 HH.out HM.out.1 HM.out.2 RM.out.1 RM.out.2 FM.out _).mono ?_
        rintro e y2 ⟨rfl, g2⟩
        have G2 : Hid (Below w.heap.size w y2) := below_up G1.out g2
        have l0 := keep_cell k0 g2
        have l1 := keep_cell k1 g2
        have l2 := keep_cell k2 g2
        clear g2 k0 k1 k2
        go_wp2_with fail
        go_roundw
        case rel => exact ⟨.inr (.inr (.inl rfl)), G2.out, l0, l1, l2⟩
        case measure => simp [intOf]
    · obtain ⟨M, hM⟩ : ∃ M, M = onR a b c p (some true) 1 := ⟨_, rfl⟩
      have rM := HO.out (some true)
      have fM : farR a b c p (onR a b c p (some true) 1) = if 1 < c then 1 else 0 := HF.out (some true)
      rw [← hM] at rM fM
      have HM2 := Lib.hid hM
      have RM := Lib.hid rM
      clear hM rM
      by_cases hd : 1 < c
      · rw [if_pos hd] at fM
        have FM := Lib.hid fM.symm
        clear fM
        go_wp2_with fail
        refine (step_to (some true) _ rfl a b c p 1 M HH.out HM.out.1 HM.out.2 HM2.out _).mono ?_
        rintro e y1 ⟨rfl, g1⟩
        have G1 : Hid (Below w.heap.size w y1) := below_up hB.out g1
        have k0 := keep_cell e0 g1
        have k1 := keep_cell e1 g1
        have k2 := keep_cell e2 g1
        clear g1 e0 e1 e2
        go_wp2_with fail
        refine (far_to a b c p M 1 HH.out HM.out.1 HM.out.2 RM.out.1 RM.out.2 FM.out _).mono ?_
        rintro e y2 ⟨rfl, g2⟩
        have G2 : Hid (Below w.heap.size w y2) := below_up G1.out g2
        have l0 := keep_cell k0 g2
        have l1 := keep_cell k1 g2
        have l2 := keep_cell k2 g2
        clear g2 k0 k1 k2
        go_wp2_with fail
        go_roundw
        case rel => exact ⟨.inr (.inr (.inr rfl)), G2.out, l0, l1, l2⟩
        case measure => simp [intOf]
      · rw [if_neg hd] at fM
        have FM := Lib.hid fM.symm
        clear fM
        go_wp2_with fail
        refine (step_to (some true) _ rfl a b c p 1 M HH.out HM.out.1 HM.out.2 HM2.out _).mono ?_
        rintro e y1 ⟨rfl, g1⟩
        have G1 : Hid (Below w.heap.size w y1) := below_up hB.out g1
        have k0 := keep_cell e0 g1
        have k1 := keep_cell e1 g1
        have k2 := keep_cell e2 g1
        clear g1 e0 e1 e2
        go_wp2_with fail
        refine (far_to a b c p M 0 HH.out HM.out.1 HM.out.2 RM.out.1 RM.out.2 FM.out _).mono ?_
        rintro e y2 ⟨rfl, g2⟩
        have G2 : Hid (Below w.heap.size w y2) := below_up G1.out g2
        have l0 := keep_cell k0 g2
        have l1 := keep_cell k1 g2
        have l2 := keep_cell k2 g2
        clear g2 k0 k1 k2
        go_wp2_with fail
        go_roundw
        case rel => exact ⟨.inr (.inr (.inr rfl)), G2.out, l0, l1, l2⟩
        case measure => simp [intOf]
    · go_wp2_with fail
      go_ret
      exact ⟨rfl, hB.out⟩
set_option maxRecDepth 100000 in
set_option maxHeartbeats 4000000 in
theorem far_main_two (w : World) (a b c p q r : Int) (h : May a b c) (h0 : 0 ≤ p) (h1 : p < num a b c) (h2 : 0 ≤ q) (h3 : q < num a b c) (hpq : p ≠ q) (h4 : 0 ≤ r) (h5 : r < num a b c) :
    Calls Try.prog 8 #[.agg #[.int .i64 a, .int .i64 b, .int .i64 c], .int .i64 p, .int .i64 q, .int .i64 r] w fun e w' => e = .returned (.bool true) ∧ Below w.heap.size w w' := by
  have HM := Lib.hid (And.intro h0 h1)
  have HQ := Lib.hid (And.intro h2 h3)
  have HR := Lib.hid (And.intro h4 h5)
  obtain ⟨X, hX⟩ : ∃ X, X = farR a b c p q := ⟨_, rfl⟩
  obtain ⟨Z, hZ⟩ : ∃ Z, Z = farR a b c q r := ⟨_, rfl⟩
  obtain ⟨V, hV⟩ : ∃ V, V = farR a b c p r := ⟨_, rfl⟩
  obtain ⟨x0, x1⟩ := far_range (m := p) (n := q) h
  obtain ⟨z0, z1⟩ := far_range (m := q) (n := r) h
  have hY : X = farR a b c q p := hX.trans (far_comm h)
  have tri : V ≤ X + Z := by rw [hV, hX, hZ]; exact far_tri h
  rw [← hX] at x0 x1
  rw [← hZ] at z0 z1
  have t1 : (X == 0) = false := by
    simp only [beq_eq_false_iff_ne, ne_eq]
    intro e
    exact hpq (far_zero h h0 h1 h2 h3 (by rw [← hX, e]))
  have t2 : (p == q) = false := by simpa using hpq
  clear hpq
  have HX := Lib.hid hX
  have HY := Lib.hid hY
  have HZ := Lib.hid hZ
  have HV := Lib.hid hV
  have HF := Lib.hid (fun k => far_on (m := p) h k)
  have HO := Lib.hid (fun k => on_range (m := p) h k 1)
  obtain ⟨⟨ha, ha'⟩, ⟨hb, hb'⟩, ⟨hc, hc'⟩⟩ := id h
  have HH := Lib.hid h
  obtain ⟨n, hn⟩ : ∃ n, n = num a b c := ⟨_, rfl⟩
  rw [← hn] at h1 h3 h5
  have HN := Lib.hid hn
  clear hn h hX hY hZ hV
  go_enter Try.func8, Try.ntmps8
  go_wp2_with fail
  refine (alive_any _).mono ?_
  rintro e w1 ⟨rfl, hB1⟩
  have HB1 : Hid (Below w.heap.size w w1) := below_up (below_alloc (Below.refl _ _)) hB1
  have c1_0 : w1.cell? ⟨w.heap.size, 0, none⟩ = some (.int .i64 a) := keep_cell (box0 w 23 #[.int .i64 a, .int .i64 b, .int .i64 c] 0) hB1
  have c1_1 : w1.cell? ⟨w.heap.size, 1, none⟩ = some (.int .i64 b) := keep_cell (box0 w 23 #[.int .i64 a, .int .i64 b, .int .i64 c] 1) hB1
  have c1_2 : w1.cell? ⟨w.heap.size, 2, none⟩ = some (.int .i64 c) := keep_cell (box0 w 23 #[.int .i64 a, .int .i64 b, .int .i64 c] 2) hB1
  have z1_0 : w.heap.size < w1.heap.size := cell_lt c1_0
  clear hB1  
  go_wp2_with fail
  refine (many_to a b c n HH.out HN.out _).mono ?_
  rintro e w2 ⟨rfl, hB2⟩
  have HB2 : Hid (Below w.heap.size w w2) := below_up HB1.out hB2
  have c2_0 : w2.cell? ⟨w.heap.size, 0, none⟩ = some (.int .i64 a) := keep_cell c1_0 hB2
  have c2_1 : w2.cell? ⟨w.heap.size, 1, none⟩ = some (.int .i64 b) := keep_cell c1_1 hB2
  have c2_2 : w2.cell? ⟨w.heap.size, 2, none⟩ = some (.int .i64 c) := keep_cell c1_2 hB2
  have z2_0 : w.heap.size < w2.heap.size := cell_lt c2_0
  clear hB2 c1_0 c1_1 c1_2 z1_0
  go_wp2_with fail
  refine (far_to a b c p q X HH.out HM.out.1 HM.out.2 HQ.out.1 HQ.out.2 HX.out _).mono ?_
  rintro e w3 ⟨rfl, hB3⟩
  have HB3 : Hid (Below w.heap.size w w3) := below_up HB2.out hB3
  have c3_0 : w3.cell? ⟨w.heap.size, 0, none⟩ = some (.int .i64 a) := keep_cell c2_0 hB3
  have c3_1 : w3.cell? ⟨w.heap.size, 1, none⟩ = some (.int .i64 b) := keep_cell c2_1 hB3
  have c3_2 : w3.cell? ⟨w.heap.size, 2, none⟩ = some (.int .i64 c) := keep_cell c2_2 hB3
  have z3_0 : w.heap.size < w3.heap.size := cell_lt c3_0
  clear hB3 c2_0 c2_1 c2_2 z2_0
  go_wp2_with fail
  refine (far_to a b c q p X HH.out HQ.out.1 HQ.out.2 HM.out.1 HM.out.2 HY.out _).mono ?_
  rintro e w4 ⟨rfl, hB4⟩
  have HB4 : Hid (Below w.heap.size w w4) := below_up HB3.out hB4
  have c4_0 : w4.cell? ⟨w.heap.size, 0, none⟩ = some (.int .i64 a) := keep_cell c3_0 hB4
  have c4_1 : w4.cell? ⟨w.heap.size, 1, none⟩ = some (.int .i64 b) := keep_cell c3_1 hB4
  have c4_2 : w4.cell? ⟨w.heap.size, 2, none⟩ = some (.int .i64 c) := keep_cell c3_2 hB4
  have z4_0 : w.heap.size < w4.heap.size := cell_lt c4_0
  clear hB4 c3_0 c3_1 c3_2 z3_0
  go_wp2_with fail
  refine (far_to a b c q r Z HH.out HQ.out.1 HQ.out.2 HR.out.1 HR.out.2 HZ.out _).mono ?_
  rintro e w5 ⟨rfl, hB5⟩
  have HB5 : Hid (Below w.heap.size w w5) := below_up HB4.out hB5
  have c5_0 : w5.cell? ⟨w.heap.size, 0, none⟩ = some (.int .i64 a) := keep_cell c4_0 hB5
  have c5_1 : w5.cell? ⟨w.heap.size, 1, none⟩ = some (.int .i64 b) := keep_cell c4_1 hB5
  have c5_2 : w5.cell? ⟨w.heap.size, 2, none⟩ = some (.int .i64 c) := keep_cell c4_2 hB5
  have z5_0 : w.heap.size < w5.heap.size := cell_lt c5_0
  clear hB5 c4_0 c4_1 c4_2 z4_0
  go_wp2_with fail
  refine (far_to a b c p r V HH.out HM.out.1 HM.out.2 HR.out.1 HR.out.2 HV.out _).mono ?_
  rintro e w6 ⟨rfl, hB6⟩
  have HB6 : Hid (Below w.heap.size w w6) := below_up HB5.out hB6
  have c6_0 : w6.cell? ⟨w.heap.size, 0, none⟩ = some (.int .i64 a) := keep_cell c5_0 hB6
  have c6_1 : w6.cell? ⟨w.heap.size, 1, none⟩ = some (.int .i64 b) := keep_cell c5_1 hB6
  have c6_2 : w6.cell? ⟨w.heap.size, 2, none⟩ = some (.int .i64 c) := keep_cell c5_2 hB6
  have z6_0 : w.heap.size < w6.heap.size := cell_lt c6_0
  clear hB6 c5_0 c5_1 c5_2 z5_0
  go_wp2_with fail
  go_loopw [20] (fun i wr => RelI i ∧ Hid (Below w.heap.size w wr) ∧ wr.cell? ⟨w.heap.size, 0, none⟩ = some (.int .i64 a) ∧ wr.cell? ⟨w.heap.size, 1, none⟩ = some (.int .i64 b) ∧ wr.cell? ⟨w.heap.size, 2, none⟩ = some (.int .i64 c))
    (fun i _ => 3 - (intOf i).toNat)
  case atStart => exact ⟨.inl rfl, HB6.out, c6_0, c6_1, c6_2⟩
  case round =>
    obtain ⟨hr, hB, e0, e1, e2⟩ := hrel
    clear c6_0 c6_1 c6_2 z6_0
    rcases hr with rfl | rfl | rfl | rfl
    · obtain ⟨M, hM⟩ : ∃ M, M = onR a b c p none 1 := ⟨_, rfl⟩
      have rM := HO.out none
      have fM : farR a b c p (onR a b c p none 1) = if 1 < a then 1 else 0 := HF.out none
      rw [← hM] at rM fM
      have HM2 := Lib.hid hM
      have RM := Lib.hid rM
      clear hM rM
      by_cases hd : 1 < a
      · rw [if_pos hd] at fM
        have FM := Lib.hid fM.symm
        clear fM
        go_wp2_with fail
        refine (step_to none _ rfl a b c p 1 M HH.out HM.out.1 HM.out.2 HM2.out _).mono ?_
        rintro e y1 ⟨rfl, g1⟩
        have G1 : Hid (Below w.heap.size w y1) := below_up hB.out g1
        have k0 := keep_cell e0 g1
        have k1 := keep_cell e1 g1
        have k2 := keep_cell e2 g1
        clear g1 e0 e1 e2
        go_wp2_with fail
        refine (far_to a b c p M 1 HH.out HM.out.1 HM.out.2 RM.out.1 RM.out.2 FM.out _).mono ?_
        rintro e y2 ⟨rfl, g2⟩
        have G2 : Hid (Below w.heap.size w y2) := below_up G1.out g2
        have l0 := keep_cell k0 g2
        have l1 := keep_cell k1 g2
        have l2 := keep_cell k2 g2
        clear g2 k0 k1 k2
        go_wp2_with fail
        go_roundw
        case rel => exact ⟨.inr (.inl rfl), G2.out, l0, l1, l2⟩
        case measure => simp [intOf]
      · rw [if_neg hd] at fM
        have FM := Lib.hid fM.symm
        clear fM
        go_wp2_with fail
        refine (step_to none _ rfl a b c p 1 M HH.out HM.out.1 HM.out.2 HM2.out _).mono ?_
        rintro e y1 ⟨rfl, g1⟩
        have G1 : Hid (Below w.heap.size w y1) := below_up hB.out g1
        have k0 := keep_cell e0 g1
        have k1 := keep_cell e1 g1
        have k2 := keep_cell e2 g1
        clear g1 e0 e1 e2
        go_wp2_with fail
        refine (far_to a b c p M 0 HH.out HM.out.1 HM.out.2 RM.out.1 RM.out.2 FM.out _).mono ?_
        rintro e y2 ⟨rfl, g2⟩
        have G2 : Hid (Below w.heap.size w y2) := below_up G1.out g2
        have l0 := keep_cell k0 g2
        have l1 := keep_cell k1 g2
        have l2 := keep_cell k2 g2
        clear g2 k0 k1 k2
        go_wp2_with fail
        go_roundw
        case rel => exact ⟨.inr (.inl rfl), G2.out, l0, l1, l2⟩
        case measure => simp [intOf]
    · obtain ⟨M, hM⟩ : ∃ M, M = onR a b c p (some false) 1 := ⟨_, rfl⟩
      have rM := HO.out (some false)
      have fM : farR a b c p (onR a b c p (some false) 1) = if 1 < b then 1 else 0 := HF.out (some false)
      rw [← hM] at rM fM
      have HM2 := Lib.hid hM
      have RM := Lib.hid rM
      clear hM rM
      by_cases hd : 1 < b
      · rw [if_pos hd] at fM
        have FM := Lib.hid fM.symm
        clear fM
        go_wp2_with fail
        refine (step_to (some false) _ rfl a b c p 1 M HH.out HM.out.1 HM.out.2 HM2.out _).mono ?_
        rintro e y1 ⟨rfl, g1⟩
        have G1 : Hid (Below w.heap.size w y1) := below_up hB.out g1
        have k0 := keep_cell e0 g1
        have k1 := keep_cell e1 g1
        have k2 := keep_cell e2 g1
        clear g1 e0 e1 e2
        go_wp2_with fail
        refine (far_to a b c p M 1 HH.out HM.out.1 HM.out.2 RM.out.1 RM.out.2 FM.out _).mono ?_
        rintro e y2 ⟨rfl, g2⟩
        have G2 : Hid (Below w.heap.size w y2) := below_up G1.out g2
        have l0 := keep_cell k0 g2
        have l1 := keep_cell k1 g2
        have l2 := keep_cell k2 g2
        clear g2 k0 k1 k2
        go_wp2_with fail
        go_roundw
        case rel => exact ⟨.inr (.inr (.inl rfl)), G2.out, l0, l1, l2⟩
        case measure => simp [intOf]
      · rw [if_neg hd] at fM
        have FM := Lib.hid fM.symm
        clear fM
        go_wp2_with fail
        refine (step_to (some false) _ rfl a b c p 1 M HH.out HM.out.1 HM.out.2 HM2.out _).mono ?_
        rintro e y1 ⟨rfl, g1⟩
        have G1 : Hid (Below w.heap.size w y1) := below_up hB.out g1
        have k0 := keep_cell e0 g1
        have k1 := keep_cell e1 g1
        have k2 := keep_cell e2 g1
        clear g1 e0 e1 e2
        go_wp2_with fail
        refine (far_to a b c p M 0 HH.out HM.out.1 HM.out.2 RM.out.1 RM.out.2 FM.out _).mono ?_
        rintro e y2 ⟨rfl, g2⟩
        have G2 : Hid (Below w.heap.size w y2) := below_up G1.out g2
        have l0 := keep_cell k0 g2
        have l1 := keep_cell k1 g2
        have l2 := keep_cell k2 g2
        clear g2 k0 k1 k2
        go_wp2_with fail
        go_roundw
        case rel => exact ⟨.inr (.inr (.inl rfl)), G2.out, l0, l1, l2⟩
        case measure => simp [intOf]
    · obtain ⟨M, hM⟩ : ∃ M, M = onR a b c p (some true) 1 := ⟨_, rfl⟩
      have rM := HO.out (some true)
      have fM : farR a b c p (onR a b c p (some true) 1) = if 1 < c then 1 else 0 := HF.out (some true)
      rw [← hM] at rM fM
      have HM2 := Lib.hid hM
      have RM := Lib.hid rM
      clear hM rM
      by_cases hd : 1 < c
      · rw [if_pos hd] at fM
        have FM := Lib.hid fM.symm
        clear fM
        go_wp2_with fail
        refine (step_to (some true) _ rfl a b c p 1 M HH.out HM.out.1 HM.out.2 HM2.out _).mono ?_
        rintro e y1 ⟨rfl, g1⟩
        have G1 : Hid (Below w.heap.size w y1) := below_up hB.out g1
        have k0 := keep_cell e0 g1
        have k1 := keep_cell e1 g1
        have k2 := keep_cell e2 g1
        clear g1 e0 e1 e2
        go_wp2_with fail
        refine (far_to a b c p M 1 HH.out HM.out.1 HM.out.2 RM.out.1 RM.out.2 FM.out _).mono ?_
        rintro e y2 ⟨rfl, g2⟩
        have G2 : Hid (Below w.heap.size w y2) := below_up G1.out g2
        have l0 := keep_cell k0 g2
        have l1 := keep_cell k1 g2
        have l2 := keep_cell k2 g2
        clear g2 k0 k1 k2
        go_wp2_with fail
        go_roundw
        case rel => exact ⟨.inr (.inr (.inr rfl)), G2.out, l0, l1, l2⟩
        case measure => simp [intOf]
      · rw [if_neg hd] at fM
        have FM := Lib.hid fM.symm
        clear fM
        go_wp2_with fail
        refine (step_to (some true) _ rfl a b c p 1 M HH.out HM.out.1 HM.out.2 HM2.out _).mono ?_
        rintro e y1 ⟨rfl, g1⟩
        have G1 : Hid (Below w.heap.size w y1) := below_up hB.out g1
        have k0 := keep_cell e0 g1
        have k1 := keep_cell e1 g1
        have k2 := keep_cell e2 g1
        clear g1 e0 e1 e2
        go_wp2_with fail
        refine (far_to a b c p M 0 HH.out HM.out.1 HM.out.2 RM.out.1 RM.out.2 FM.out _).mono ?_
        rintro e y2 ⟨rfl, g2⟩
        have G2 : Hid (Below w.heap.size w y2) := below_up G1.out g2
        have l0 := keep_cell k0 g2
        have l1 := keep_cell k1 g2
        have l2 := keep_cell k2 g2
        clear g2 k0 k1 k2
        go_wp2_with fail
        go_roundw
        case rel => exact ⟨.inr (.inr (.inr rfl)), G2.out, l0, l1, l2⟩
        case measure => simp [intOf]
    · go_wp2_with fail
      go_ret
      exact ⟨rfl, hB.out⟩
set_option maxRecDepth 100000 in
set_option maxHeartbeats 4000000 in
theorem farLaw (w : World) (a b c : Int) (wa : (Lit.int .i64 a).wf = true) (wb : (Lit.int .i64 b).wf = true) (wc : (Lit.int .i64 c).wf = true) (p : Int) (wp : (Lit.int .i64 p).wf = true) (q : Int) (wq : (Lit.int .i64 q).wf = true) (r : Int) (wr : (Lit.int .i64 r).wf = true) :
    Calls Try.prog 8 #[.agg #[.int .i64 a, .int .i64 b, .int .i64 c], .int .i64 p, .int .i64 q, .int .i64 r] w fun e w' => e = .returned (.bool true) ∧ Below w.heap.size w w' := by
  by_cases h : May a b c
  · by_cases h0 : 0 ≤ p
    · by_cases h1 : p < num a b c
      · by_cases h2 : 0 ≤ q
        · by_cases h3 : q < num a b c
          · by_cases h4 : 0 ≤ r
            · by_cases h5 : r < num a b c
              · by_cases hpq : p = q
                · subst hpq; exact far_main_same w a b c p r h h0 h1 h4 h5
                · exact far_main_two w a b c p q r h h0 h1 h2 h3 hpq h4 h5
              · exact far_r1 w a b c p q r h h0 h1 h2 h3 h4 (by omega)
            · exact far_r0 w a b c p q r h h0 h1 h2 h3 (by omega)
          · exact far_q1 w a b c p q r h h0 h1 h2 (by omega)
        · exact far_q0 w a b c p q r h h0 h1 (by omega)
      · exact far_p1 w a b c p q r h h0 (by omega)
    · exact far_p0 w a b c p q r h (by omega)
  · exact far_bad1 w a b c p q r h
end Go.Proofs.Ythapginaphdmjaa.PosLaws3
