/- The walk of PosRound. -/
import Derived.Test.YthapginaphdmjaaPosLaws
import Derived.Test.YthapginaphdmjaaBounds
namespace Go.Proofs.Ythapginaphdmjaa.PosLaws2
open Go.RowKit Go.Shelf Go.Sort PosMath PosCheck PosMany Mem SeqKit PosSeq Round PosAt PosOf PosRef PosOn PosFar PosRefFar PosSame Arr PosLaws Bounds
set_option linter.unusedVariables false

set_option maxRecDepth 100000 in
set_option maxHeartbeats 4000000 in
theorem round_bad (w : World) (a b c m ax ay by_ more : Int) (h : ¬ May a b c) :
    Calls Try.prog 5 #[.agg #[.int .i64 a, .int .i64 b, .int .i64 c], .int .i64 m, .int .u8 ax, .int .u8 ay, .int .i64 by_, .int .i64 more] w fun e w' => e = .returned (.bool true) ∧ Below w.heap.size w w' := by
  have HH := Lib.hid h
  clear h
  go_enter Try.func5, Try.ntmps5
  go_wp2_with fail
  refine (alive_any _).mono ?_
  rintro e w1 ⟨rfl, hB1⟩
  have HB1 : Hid (Below w.heap.size w w1) := below_up (below_alloc (Below.refl _ _)) hB1
  have c1_0 : w1.cell? ⟨w.heap.size, 0, none⟩ = some (.int .i64 a) := keep_cell (box0 w 23 #[.int .i64 a, .int .i64 b, .int .i64 c] 0) hB1
  have c1_1 : w1.cell? ⟨w.heap.size, 1, none⟩ = some (.int .i64 b) := keep_cell (box0 w 23 #[.int .i64 a, .int .i64 b, .int .i64 c] 1) hB1
  have c1_2 : w1.cell? ⟨w.heap.size, 2, none⟩ = some (.int .i64 c) := keep_cell (box0 w 23 #[.int .i64 a, .int .i64 b, .int .i64 c] 2) hB1
  have z1_0 : w.heap.size < w1.heap.size := cell_lt c1_0
  clear hB1  
  go_wp2_with fail
  refine (many_bad a b c HH.out _).mono ?_
  rintro e w2 ⟨rfl, hB2⟩
  have HB2 : Hid (Below w.heap.size w w2) := below_up HB1.out hB2
  have c2_0 : w2.cell? ⟨w.heap.size, 0, none⟩ = some (.int .i64 a) := keep_cell c1_0 hB2
  have c2_1 : w2.cell? ⟨w.heap.size, 1, none⟩ = some (.int .i64 b) := keep_cell c1_1 hB2
  have c2_2 : w2.cell? ⟨w.heap.size, 2, none⟩ = some (.int .i64 c) := keep_cell c1_2 hB2
  have z2_0 : w.heap.size < w2.heap.size := cell_lt c2_0
  clear hB2 c1_0 c1_1 c1_2 z1_0
  go_wp2_with fail
  go_ret
  exact ⟨rfl, HB2.out⟩
set_option maxRecDepth 100000 in
set_option maxHeartbeats 4000000 in
theorem round_neg (w : World) (a b c m ax ay by_ more : Int) (h : May a b c) (hc : m < 0) :
    Calls Try.prog 5 #[.agg #[.int .i64 a, .int .i64 b, .int .i64 c], .int .i64 m, .int .u8 ax, .int .u8 ay, .int .i64 by_, .int .i64 more] w fun e w' => e = .returned (.bool true) ∧ Below w.heap.size w w' := by
  have HH := Lib.hid h
  obtain ⟨n, hn⟩ : ∃ n, n = num a b c := ⟨_, rfl⟩
  have HN := Lib.hid hn
  clear hn h
  go_enter Try.func5, Try.ntmps5
  go_wp2_with fail
  refine (alive_any _).mono ?_
  rintro e w1 ⟨rfl, hB1⟩
  have HB1 : Hid (Below w.heap.size w w1) := below_up (below_alloc (Below.refl _ _)) hB1
  have c1_0 : w1.cell? ⟨w.heap.size, 0, none⟩ = some (.int .i64 a) := keep_cell (box0 w 23 #[.int .i64 a, .int .i64 b, .int .i64 c] 0) hB1
  have c1_1 : w1.cell? ⟨w.heap.size, 1, none⟩ = some (.int .i64 b) := keep_cell (box0 w 23 #[.int .i64 a, .int .i64 b, .int .i64 c] 1) hB1
  have c1_2 : w1.cell? ⟨w.heap.size, 2, none⟩ = some (.int .i64 c) := keep_cell (box0 w 23 #[.int .i64 a, .int .i64 b, .int .i64 c] 2) hB1
  have z1_0 : w.heap.size < w1.heap.size := cell_lt c1_0
  clear hB1  
  go_wp2_with fail
  refine (many_to a b c n HH.out HN.out _).mono ?_
  rintro e w2 ⟨rfl, hB2⟩
  have HB2 : Hid (Below w.heap.size w w2) := below_up HB1.out hB2
  have c2_0 : w2.cell? ⟨w.heap.size, 0, none⟩ = some (.int .i64 a) := keep_cell c1_0 hB2
  have c2_1 : w2.cell? ⟨w.heap.size, 1, none⟩ = some (.int .i64 b) := keep_cell c1_1 hB2
  have c2_2 : w2.cell? ⟨w.heap.size, 2, none⟩ = some (.int .i64 c) := keep_cell c1_2 hB2
  have z2_0 : w.heap.size < w2.heap.size := cell_lt c2_0
  clear hB2 c1_0 c1_1 c1_2 z1_0
  go_wp2_with fail
  go_ret
  exact ⟨rfl, HB2.out⟩
set_option maxRecDepth 100000 in
set_option maxHeartbeats 4000000 in
theorem round_big (w : World) (a b c m ax ay by_ more : Int) (h : May a b c) (h0 : 0 ≤ m) (hc : num a b c ≤ m) :
    Calls Try.prog 5 #[.agg #[.int .i64 a, .int .i64 b, .int .i64 c], .int .i64 m, .int .u8 ax, .int .u8 ay, .int .i64 by_, .int .i64 more] w fun e w' => e = .returned (.bool true) ∧ Below w.heap.size w w' := by
  have HH := Lib.hid h
  obtain ⟨n, hn⟩ : ∃ n, n = num a b c := ⟨_, rfl⟩
  rw [← hn] at hc
  have HN := Lib.hid hn
  clear hn h
  go_enter Try.func5, Try.ntmps5
  go_wp2_with fail
  refine (alive_any _).mono ?_
  rintro e w1 ⟨rfl, hB1⟩
  have HB1 : Hid (Below w.heap.size w w1) := below_up (below_alloc (Below.refl _ _)) hB1
  have c1_0 : w1.cell? ⟨w.heap.size, 0, none⟩ = some (.int .i64 a) := keep_cell (box0 w 23 #[.int .i64 a, .int .i64 b, .int .i64 c] 0) hB1
  have c1_1 : w1.cell? ⟨w.heap.size, 1, none⟩ = some (.int .i64 b) := keep_cell (box0 w 23 #[.int .i64 a, .int .i64 b, .int .i64 c] 1) hB1
  have c1_2 : w1.cell? ⟨w.heap.size, 2, none⟩ = some (.int .i64 c) := keep_cell (box0 w 23 #[.int .i64 a, .int .i64 b, .int .i64 c] 2) hB1
  have z1_0 : w.heap.size < w1.heap.size := cell_lt c1_0
  clear hB1  
  go_wp2_with fail
  refine (many_to a b c n HH.out HN.out _).mono ?_
  rintro e w2 ⟨rfl, hB2⟩
  have HB2 : Hid (Below w.heap.size w w2) := below_up HB1.out hB2
  have c2_0 : w2.cell? ⟨w.heap.size, 0, none⟩ = some (.int .i64 a) := keep_cell c1_0 hB2
  have c2_1 : w2.cell? ⟨w.heap.size, 1, none⟩ = some (.int .i64 b) := keep_cell c1_1 hB2
  have c2_2 : w2.cell? ⟨w.heap.size, 2, none⟩ = some (.int .i64 c) := keep_cell c1_2 hB2
  have z2_0 : w.heap.size < w2.heap.size := cell_lt c2_0
  clear hB2 c1_0 c1_1 c1_2 z1_0
  go_wp2_with fail
  go_ret
  exact ⟨rfl, HB2.out⟩
set_option maxRecDepth 100000 in
set_option maxHeartbeats 4000000 in
theorem round_b1 (w : World) (a b c m ax ay by_ more : Int) (h : May a b c) (h0 : 0 ≤ m) (h1 : m < num a b c) (hc : by_ < -1000000) :
    Calls Try.prog 5 #[.agg #[.int .i64 a, .int .i64 b, .int .i64 c], .int .i64 m, .int .u8 ax, .int .u8 ay, .int .i64 by_, .int .i64 more] w fun e w' => e = .returned (.bool true) ∧ Below w.heap.size w w' := by
  have HH := Lib.hid h
  obtain ⟨n, hn⟩ : ∃ n, n = num a b c := ⟨_, rfl⟩
  rw [← hn] at h1
  have HN := Lib.hid hn
  clear hn h
  go_enter Try.func5, Try.ntmps5
  go_wp2_with fail
  refine (alive_any _).mono ?_
  rintro e w1 ⟨rfl, hB1⟩
  have HB1 : Hid (Below w.heap.size w w1) := below_up (below_alloc (Below.refl _ _)) hB1
  have c1_0 : w1.cell? ⟨w.heap.size, 0, none⟩ = some (.int .i64 a) := keep_cell (box0 w 23 #[.int .i64 a, .int .i64 b, .int .i64 c] 0) hB1
  have c1_1 : w1.cell? ⟨w.heap.size, 1, none⟩ = some (.int .i64 b) := keep_cell (box0 w 23 #[.int .i64 a, .int .i64 b, .int .i64 c] 1) hB1
  have c1_2 : w1.cell? ⟨w.heap.size, 2, none⟩ = some (.int .i64 c) := keep_cell (box0 w 23 #[.int .i64 a, .int .i64 b, .int .i64 c] 2) hB1
  have z1_0 : w.heap.size < w1.heap.size := cell_lt c1_0
  clear hB1  
  go_wp2_with fail
  refine (many_to a b c n HH.out HN.out _).mono ?_
  rintro e w2 ⟨rfl, hB2⟩
  have HB2 : Hid (Below w.heap.size w w2) := below_up HB1.out hB2
  have c2_0 : w2.cell? ⟨w.heap.size, 0, none⟩ = some (.int .i64 a) := keep_cell c1_0 hB2
  have c2_1 : w2.cell? ⟨w.heap.size, 1, none⟩ = some (.int .i64 b) := keep_cell c1_1 hB2
  have c2_2 : w2.cell? ⟨w.heap.size, 2, none⟩ = some (.int .i64 c) := keep_cell c1_2 hB2
  have z2_0 : w.heap.size < w2.heap.size := cell_lt c2_0
  clear hB2 c1_0 c1_1 c1_2 z1_0
  go_wp2_with fail
  go_ret
  exact ⟨rfl, HB2.out⟩
set_option maxRecDepth 100000 in
set_option maxHeartbeats 4000000 in
theorem round_b2 (w : World) (a b c m ax ay by_ more : Int) (h : May a b c) (h0 : 0 ≤ m) (h1 : m < num a b c) (hb1 : ¬ by_ < -1000000) (hc : 1000000 < by_) :
    Calls Try.prog 5 #[.agg #[.int .i64 a, .int .i64 b, .int .i64 c], .int .i64 m, .int .u8 ax, .int .u8 ay, .int .i64 by_, .int .i64 more] w fun e w' => e = .returned (.bool true) ∧ Below w.heap.size w w' := by
  have HH := Lib.hid h
  obtain ⟨n, hn⟩ : ∃ n, n = num a b c := ⟨_, rfl⟩
  rw [← hn] at h1
  have HN := Lib.hid hn
  clear hn h
  go_enter Try.func5, Try.ntmps5
  go_wp2_with fail
  refine (alive_any _).mono ?_
  rintro e w1 ⟨rfl, hB1⟩
  have HB1 : Hid (Below w.heap.size w w1) := below_up (below_alloc (Below.refl _ _)) hB1
  have c1_0 : w1.cell? ⟨w.heap.size, 0, none⟩ = some (.int .i64 a) := keep_cell (box0 w 23 #[.int .i64 a, .int .i64 b, .int .i64 c] 0) hB1
  have c1_1 : w1.cell? ⟨w.heap.size, 1, none⟩ = some (.int .i64 b) := keep_cell (box0 w 23 #[.int .i64 a, .int .i64 b, .int .i64 c] 1) hB1
  have c1_2 : w1.cell? ⟨w.heap.size, 2, none⟩ = some (.int .i64 c) := keep_cell (box0 w 23 #[.int .i64 a, .int .i64 b, .int .i64 c] 2) hB1
  have z1_0 : w.heap.size < w1.heap.size := cell_lt c1_0
  clear hB1  
  go_wp2_with fail
  refine (many_to a b c n HH.out HN.out _).mono ?_
  rintro e w2 ⟨rfl, hB2⟩
  have HB2 : Hid (Below w.heap.size w w2) := below_up HB1.out hB2
  have c2_0 : w2.cell? ⟨w.heap.size, 0, none⟩ = some (.int .i64 a) := keep_cell c1_0 hB2
  have c2_1 : w2.cell? ⟨w.heap.size, 1, none⟩ = some (.int .i64 b) := keep_cell c1_1 hB2
  have c2_2 : w2.cell? ⟨w.heap.size, 2, none⟩ = some (.int .i64 c) := keep_cell c1_2 hB2
  have z2_0 : w.heap.size < w2.heap.size := cell_lt c2_0
  clear hB2 c1_0 c1_1 c1_2 z1_0
  go_wp2_with fail
  go_ret
  exact ⟨rfl, HB2.out⟩
set_option maxRecDepth 100000 in
set_option maxHeartbeats 4000000 in
theorem round_c1 (w : World) (a b c m ax ay by_ more : Int) (h : May a b c) (h0 : 0 ≤ m) (h1 : m < num a b c) (hb1 : ¬ by_ < -1000000) (hb2 : ¬ 1000000 < by_) (hc : more < -1000000) :
    Calls Try.prog 5 #[.agg #[.int .i64 a, .int .i64 b, .int .i64 c], .int .i64 m, .int .u8 ax, .int .u8 ay, .int .i64 by_, .int .i64 more] w fun e w' => e = .returned (.bool true) ∧ Below w.heap.size w w' := by
  have HH := Lib.hid h
  obtain ⟨n, hn⟩ : ∃ n, n = num a b c := ⟨_, rfl⟩
  rw [← hn] at h1
  have HN := Lib.hid hn
  clear hn h
  go_enter Try.func5, Try.ntmps5
  go_wp2_with fail
  refine (alive_any _).mono ?_
  rintro e w1 ⟨rfl, hB1⟩
  have HB1 : Hid (Below w.heap.size w w1) := below_up (below_alloc (Below.refl _ _)) hB1
  have c1_0 : w1.cell? ⟨w.heap.size, 0, none⟩ = some (.int .i64 a) := keep_cell (box0 w 23 #[.int .i64 a, .int .i64 b, .int .i64 c] 0) hB1
  have c1_1 : w1.cell? ⟨w.heap.size, 1, none⟩ = some (.int .i64 b) := keep_cell (box0 w 23 #[.int .i64 a, .int .i64 b, .int .i64 c] 1) hB1
  have c1_2 : w1.cell? ⟨w.heap.size, 2, none⟩ = some (.int .i64 c) := keep_cell (box0 w 23 #[.int .i64 a, .int .i64 b, .int .i64 c] 2) hB1
  have z1_0 : w.heap.size < w1.heap.size := cell_lt c1_0
  clear hB1  
  go_wp2_with fail
  refine (many_to a b c n HH.out HN.out _).mono ?_
  rintro e w2 ⟨rfl, hB2⟩
  have HB2 : Hid (Below w.heap.size w w2) := below_up HB1.out hB2
  have c2_0 : w2.cell? ⟨w.heap.size, 0, none⟩ = some (.int .i64 a) := keep_cell c1_0 hB2
  have c2_1 : w2.cell? ⟨w.heap.size, 1, none⟩ = some (.int .i64 b) := keep_cell c1_1 hB2
  have c2_2 : w2.cell? ⟨w.heap.size, 2, none⟩ = some (.int .i64 c) := keep_cell c1_2 hB2
  have z2_0 : w.heap.size < w2.heap.size := cell_lt c2_0
  clear hB2 c1_0 c1_1 c1_2 z1_0
  go_wp2_with fail
  go_ret
  exact ⟨rfl, HB2.out⟩
set_option maxRecDepth 100000 in
set_option maxHeartbeats 4000000 in
theorem round_c2 (w : World) (a b c m ax ay by_ more : Int) (h : May a b c) (h0 : 0 ≤ m) (h1 : m < num a b c) (hb1 : ¬ by_ < -1000000) (hb2 : ¬ 1000000 < by_) (hc1 : ¬ more < -1000000) (hc : 1000000 < more) :
    Calls Try.prog 5 #[.agg #[.int .i64 a, .int .i64 b, .int .i64 c], .int .i64 m, .int .u8 ax, .int .u8 ay, .int .i64 by_, .int .i64 more] w fun e w' => e = .returned (.bool true) ∧ Below w.heap.size w w' := by
  have HH := Lib.hid h
  obtain ⟨n, hn⟩ : ∃ n, n = num a b c := ⟨_, rfl⟩
  rw [← hn] at h1
  have HN := Lib.hid hn
  clear hn h
  go_enter Try.func5, Try.ntmps5
  go_wp2_with fail
  refine (alive_any _).mono ?_
  rintro e w1 ⟨rfl, hB1⟩
  have HB1 : Hid (Below w.heap.size w w1) := below_up (below_alloc (Below.refl _ _)) hB1
  have c1_0 : w1.cell? ⟨w.heap.size, 0, none⟩ = some (.int .i64 a) := keep_cell (box0 w 23 #[.int .i64 a, .int .i64 b, .int .i64 c] 0) hB1
  have c1_1 : w1.cell? ⟨w.heap.size, 1, none⟩ = some (.int .i64 b) := keep_cell (box0 w 23 #[.int .i64 a, .int .i64 b, .int .i64 c] 1) hB1
  have c1_2 : w1.cell? ⟨w.heap.size, 2, none⟩ = some (.int .i64 c) := keep_cell (box0 w 23 #[.int .i64 a, .int .i64 b, .int .i64 c] 2) hB1
  have z1_0 : w.heap.size < w1.heap.size := cell_lt c1_0
  clear hB1  
  go_wp2_with fail
  refine (many_to a b c n HH.out HN.out _).mono ?_
  rintro e w2 ⟨rfl, hB2⟩
  have HB2 : Hid (Below w.heap.size w w2) := below_up HB1.out hB2
  have c2_0 : w2.cell? ⟨w.heap.size, 0, none⟩ = some (.int .i64 a) := keep_cell c1_0 hB2
  have c2_1 : w2.cell? ⟨w.heap.size, 1, none⟩ = some (.int .i64 b) := keep_cell c1_1 hB2
  have c2_2 : w2.cell? ⟨w.heap.size, 2, none⟩ = some (.int .i64 c) := keep_cell c1_2 hB2
  have z2_0 : w.heap.size < w2.heap.size := cell_lt c2_0
  clear hB2 c1_0 c1_1 c1_2 z1_0
  go_wp2_with fail
  go_ret
  exact ⟨rfl, HB2.out⟩
set_option maxRecDepth 100000 in
set_option maxHeartbeats 4000000 in
theorem round_main0 (w : World) (a b c m ax ay by_ more : Int) (ha0 : 0 ≤ ax) (ha1 : ax ≤ 255) (hb0 : 0 ≤ ay) (hb1 : ay ≤ 255) (l : Ax) (hl : ay % 3 = axn l) (hk : ax % 3 = 0) (h : May a b c) (h0 : 0 ≤ m) (h1 : m < num a b c) (y0 : -1000000 ≤ by_) (y1 : by_ ≤ 1000000) (z0 : -1000000 ≤ more) (z1 : more ≤ 1000000) :
    Calls Try.prog 5 #[.agg #[.int .i64 a, .int .i64 b, .int .i64 c], .int .i64 m, .int .u8 ax, .int .u8 ay, .int .i64 by_, .int .i64 more] w fun e w' => e = .returned (.bool true) ∧ Below w.heap.size w w' := by
  have HM := Lib.hid (And.intro h0 h1)
  obtain ⟨A, hA⟩ : ∃ A, A = onR a b c m none by_ := ⟨_, rfl⟩
  obtain ⟨Q, hQ⟩ : ∃ Q, Q = onR a b c m l more := ⟨_, rfl⟩
  obtain ⟨B, hB⟩ : ∃ B, B = onR a b c m none (by_ + more) := ⟨_, rfl⟩
  obtain ⟨P, hP⟩ : ∃ P, P = onR a b c A l more := ⟨_, rfl⟩
  have rA := on_range (m := m) h none by_
  have rQ := on_range (m := m) h l more
  have e1 : m = onR a b c A none (-by_) := by rw [hA]; exact on_home h h0 h1 _ _
  have e2 : B = onR a b c A none more := by rw [hA, hB, on_on h]
  have e3 : m = onR a b c m none a := on_turn h h0 h1 none
  have e4 : P = onR a b c Q none by_ := by rw [hP, hQ, hA, on_swap h]
  rw [← hA] at rA
  rw [← hQ] at rQ
  have HA := Lib.hid hA
  have HQ := Lib.hid hQ
  have HB := Lib.hid hB
  have HP := Lib.hid hP
  have E1 := Lib.hid e1
  have E2 := Lib.hid e2
  have E3 := Lib.hid e3
  have E4 := Lib.hid e4
  have RA := Lib.hid rA
  have RQ := Lib.hid rQ
  have HL := Lib.hid hl
  clear hA hQ hB hP e1 e2 e3 e4 rA rQ
  have f1 : IntKind.i64.wrap (-by_) = -by_ := IntWalk.i64_in _ (by omega)
  have f2 : IntKind.i64.wrap (by_ + more) = by_ + more := IntWalk.i64_in _ (by omega)
  have HH := Lib.hid h
  obtain ⟨n, hn⟩ : ∃ n, n = num a b c := ⟨_, rfl⟩
  rw [← hn] at h1
  have HN := Lib.hid hn
  clear hn h
  go_enter Try.func5, Try.ntmps5
  go_wp2_with fail
  refine (alive_any _).mono ?_
  rintro e w1 ⟨rfl, hB1⟩
  have HB1 : Hid (Below w.heap.size w w1) := below_up (below_alloc (Below.refl _ _)) hB1
  have c1_0 : w1.cell? ⟨w.heap.size, 0, none⟩ = some (.int .i64 a) := keep_cell (box0 w 23 #[.int .i64 a, .int .i64 b, .int .i64 c] 0) hB1
  have c1_1 : w1.cell? ⟨w.heap.size, 1, none⟩ = some (.int .i64 b) := keep_cell (box0 w 23 #[.int .i64 a, .int .i64 b, .int .i64 c] 1) hB1
  have c1_2 : w1.cell? ⟨w.heap.size, 2, none⟩ = some (.int .i64 c) := keep_cell (box0 w 23 #[.int .i64 a, .int .i64 b, .int .i64 c] 2) hB1
  have z1_0 : w.heap.size < w1.heap.size := cell_lt c1_0
  clear hB1  
  go_wp2_with fail
  refine (many_to a b c n HH.out HN.out _).mono ?_
  rintro e w2 ⟨rfl, hB2⟩
  have HB2 : Hid (Below w.heap.size w w2) := below_up HB1.out hB2
  have c2_0 : w2.cell? ⟨w.heap.size, 0, none⟩ = some (.int .i64 a) := keep_cell c1_0 hB2
  have c2_1 : w2.cell? ⟨w.heap.size, 1, none⟩ = some (.int .i64 b) := keep_cell c1_1 hB2
  have c2_2 : w2.cell? ⟨w.heap.size, 2, none⟩ = some (.int .i64 c) := keep_cell c1_2 hB2
  have z2_0 : w.heap.size < w2.heap.size := cell_lt c2_0
  clear hB2 c1_0 c1_1 c1_2 z1_0
  go_wp2_with fail
  refine (step_to none _ rfl a b c m by_ A HH.out HM.out.1 HM.out.2 HA.out _).mono ?_
  rintro e w3 ⟨rfl, hB3⟩
  have HB3 : Hid (Below w.heap.size w w3) := below_up HB2.out hB3
  have c3_0 : w3.cell? ⟨w.heap.size, 0, none⟩ = some (.int .i64 a) := keep_cell c2_0 hB3
  have c3_1 : w3.cell? ⟨w.heap.size, 1, none⟩ = some (.int .i64 b) := keep_cell c2_1 hB3
  have c3_2 : w3.cell? ⟨w.heap.size, 2, none⟩ = some (.int .i64 c) := keep_cell c2_2 hB3
  have z3_0 : w.heap.size < w3.heap.size := cell_lt c3_0
  clear hB3 c2_0 c2_1 c2_2 z2_0
  go_wp2_with fail
  refine (step_to none _ rfl a b c A (-by_) m HH.out RA.out.1 RA.out.2 E1.out _).mono ?_
  rintro e w4 ⟨rfl, hB4⟩
  have HB4 : Hid (Below w.heap.size w w4) := below_up HB3.out hB4
  have c4_0 : w4.cell? ⟨w.heap.size, 0, none⟩ = some (.int .i64 a) := keep_cell c3_0 hB4
  have c4_1 : w4.cell? ⟨w.heap.size, 1, none⟩ = some (.int .i64 b) := keep_cell c3_1 hB4
  have c4_2 : w4.cell? ⟨w.heap.size, 2, none⟩ = some (.int .i64 c) := keep_cell c3_2 hB4
  have z4_0 : w.heap.size < w4.heap.size := cell_lt c4_0
  clear hB4 c3_0 c3_1 c3_2 z3_0
  go_wp2_with fail
  refine (step_to none _ rfl a b c A more B HH.out RA.out.1 RA.out.2 E2.out _).mono ?_
  rintro e w5 ⟨rfl, hB5⟩
  have HB5 : Hid (Below w.heap.size w w5) := below_up HB4.out hB5
  have c5_0 : w5.cell? ⟨w.heap.size, 0, none⟩ = some (.int .i64 a) := keep_cell c4_0 hB5
  have c5_1 : w5.cell? ⟨w.heap.size, 1, none⟩ = some (.int .i64 b) := keep_cell c4_1 hB5
  have c5_2 : w5.cell? ⟨w.heap.size, 2, none⟩ = some (.int .i64 c) := keep_cell c4_2 hB5
  have z5_0 : w.heap.size < w5.heap.size := cell_lt c5_0
  clear hB5 c4_0 c4_1 c4_2 z4_0
  go_wp2_with fail
  refine (step_to none _ rfl a b c m (by_ + more) B HH.out HM.out.1 HM.out.2 HB.out _).mono ?_
  rintro e w6 ⟨rfl, hB6⟩
  have HB6 : Hid (Below w.heap.size w w6) := below_up HB5.out hB6
  have c6_0 : w6.cell? ⟨w.heap.size, 0, none⟩ = some (.int .i64 a) := keep_cell c5_0 hB6
  have c6_1 : w6.cell? ⟨w.heap.size, 1, none⟩ = some (.int .i64 b) := keep_cell c5_1 hB6
  have c6_2 : w6.cell? ⟨w.heap.size, 2, none⟩ = some (.int .i64 c) := keep_cell c5_2 hB6
  have z6_0 : w.heap.size < w6.heap.size := cell_lt c6_0
  clear hB6 c5_0 c5_1 c5_2 z5_0
  go_wp2_with fail
  have f7_0 : w6.cell? ⟨w.heap.size, 0, none⟩ = some (.int .i64 a) := c6_0
  have k7_0 := cell_regrown f7_0
  have f7_1 : w6.cell? ⟨w.heap.size, 1, none⟩ = some (.int .i64 b) := c6_1
  have k7_1 := cell_regrown f7_1
  have f7_2 : w6.cell? ⟨w.heap.size, 2, none⟩ = some (.int .i64 c) := c6_2
  have k7_2 := cell_regrown f7_2
  refine wp_region_quiet_below (by kernel_rfl) (by kernel_rfl) ?_
  repeat (go_big_quiet_step (first | fail | exact Calls.regrown_of (step_to none _ rfl a b c m a m HH.out HM.out.1 HM.out.2 E3.out _)))
  refine wpQuiet_nil ?_
  intro _ hw'
  obtain ⟨⟨dq, osq⟩, hw''⟩ := hw'
  subst hw''
  have hB7 := below_regrown w6 dq osq
  have HB7 : Hid (Below w.heap.size w _) := below_up HB6.out hB7
  have c7_0 := keep_cell f7_0 hB7
  have c7_1 := keep_cell f7_1 hB7
  have c7_2 := keep_cell f7_2 hB7
  generalize hgw7 : grow (redrawn w6 dq) osq = w7 at *
  have z7_0 : w.heap.size < w7.heap.size := cell_lt c7_0
  clear hgw7 hB7 c6_0 c6_1 c6_2 z6_0 f7_0 k7_0 f7_1 k7_1 f7_2 k7_2
  go_wp2_with fail
  refine (step_to l _ rfl a b c A more P HH.out RA.out.1 RA.out.2 HP.out _).mono ?_
  rintro e w8 ⟨rfl, hB8⟩
  have HB8 : Hid (Below w.heap.size w w8) := below_up HB7.out hB8
  have c8_0 : w8.cell? ⟨w.heap.size, 0, none⟩ = some (.int .i64 a) := keep_cell c7_0 hB8
  have c8_1 : w8.cell? ⟨w.heap.size, 1, none⟩ = some (.int .i64 b) := keep_cell c7_1 hB8
  have c8_2 : w8.cell? ⟨w.heap.size, 2, none⟩ = some (.int .i64 c) := keep_cell c7_2 hB8
  have z8_0 : w.heap.size < w8.heap.size := cell_lt c8_0
  clear hB8 c7_0 c7_1 c7_2 z7_0
  go_wp2_with fail
  refine (step_to l _ rfl a b c m more Q HH.out HM.out.1 HM.out.2 HQ.out _).mono ?_
  rintro e w9 ⟨rfl, hB9⟩
  have HB9 : Hid (Below w.heap.size w w9) := below_up HB8.out hB9
  have c9_0 : w9.cell? ⟨w.heap.size, 0, none⟩ = some (.int .i64 a) := keep_cell c8_0 hB9
  have c9_1 : w9.cell? ⟨w.heap.size, 1, none⟩ = some (.int .i64 b) := keep_cell c8_1 hB9
  have c9_2 : w9.cell? ⟨w.heap.size, 2, none⟩ = some (.int .i64 c) := keep_cell c8_2 hB9
  have z9_0 : w.heap.size < w9.heap.size := cell_lt c9_0
  clear hB9 c8_0 c8_1 c8_2 z8_0
  go_wp2_with fail
  refine (step_to none _ rfl a b c Q by_ P HH.out RQ.out.1 RQ.out.2 E4.out _).mono ?_
  rintro e w10 ⟨rfl, hB10⟩
  have HB10 : Hid (Below w.heap.size w w10) := below_up HB9.out hB10
  have c10_0 : w10.cell? ⟨w.heap.size, 0, none⟩ = some (.int .i64 a) := keep_cell c9_0 hB10
  have c10_1 : w10.cell? ⟨w.heap.size, 1, none⟩ = some (.int .i64 b) := keep_cell c9_1 hB10
  have c10_2 : w10.cell? ⟨w.heap.size, 2, none⟩ = some (.int .i64 c) := keep_cell c9_2 hB10
  have z10_0 : w.heap.size < w10.heap.size := cell_lt c10_0
  clear hB10 c9_0 c9_1 c9_2 z9_0
  go_wp2_with fail
  go_ret
  exact ⟨rfl, HB10.out⟩
set_option maxRecDepth 100000 in
set_option maxHeartbeats 4000000 in
theorem round_main1 (w : World) (a b c m ax ay by_ more : Int) (ha0 : 0 ≤ ax) (ha1 : ax ≤ 255) (hb0 : 0 ≤ ay) (hb1 : ay ≤ 255) (l : Ax) (hl : ay % 3 = axn l) (hk : ax % 3 = 1) (h : May a b c) (h0 : 0 ≤ m) (h1 : m < num a b c) (y0 : -1000000 ≤ by_) (y1 : by_ ≤ 1000000) (z0 : -1000000 ≤ more) (z1 : more ≤ 1000000) :
    Calls Try.prog 5 #[.agg #[.int .i64 a, .int .i64 b, .int .i64 c], .int .i64 m, .int .u8 ax, .int .u8 ay, .int .i64 by_, .int .i64 more] w fun e w' => e = .returned (.bool true) ∧ Below w.heap.size w w' := by
  have HM := Lib.hid (And.intro h0 h1)
  obtain ⟨A, hA⟩ : ∃ A, A = onR a b c m (some false) by_ := ⟨_, rfl⟩
  obtain ⟨Q, hQ⟩ : ∃ Q, Q = onR a b c m l more := ⟨_, rfl⟩
  obtain ⟨B, hB⟩ : ∃ B, B = onR a b c m (some false) (by_ + more) := ⟨_, rfl⟩
  obtain ⟨P, hP⟩ : ∃ P, P = onR a b c A l more := ⟨_, rfl⟩
  have rA := on_range (m := m) h (some false) by_
  have rQ := on_range (m := m) h l more
  have e1 : m = onR a b c A (some false) (-by_) := by rw [hA]; exact on_home h h0 h1 _ _
  have e2 : B = onR a b c A (some false) more := by rw [hA, hB, on_on h]
  have e3 : m = onR a b c m (some false) b := on_turn h h0 h1 (some false)
  have e4 : P = onR a b c Q (some false) by_ := by rw [hP, hQ, hA, on_swap h]
  rw [← hA] at rA
  rw [← hQ] at rQ
  have HA := Lib.hid hA
  have HQ := Lib.hid hQ
  have HB := Lib.hid hB
  have HP := Lib.hid hP
  have E1 := Lib.hid e1
  have E2 := Lib.hid e2
  have E3 := Lib.hid e3
  have E4 := Lib.hid e4
  have RA := Lib.hid rA
  have RQ := Lib.hid rQ
  have HL := Lib.hid hl
  clear hA hQ hB hP e1 e2 e3 e4 rA rQ
  have f1 : IntKind.i64.wrap (-by_) = -by_ := IntWalk.i64_in _ (by omega)
  have f2 : IntKind.i64.wrap (by_ + more) = by_ + more := IntWalk.i64_in _ (by omega)
  have HH := Lib.hid h
  obtain ⟨n, hn⟩ : ∃ n, n = num a b c := ⟨_, rfl⟩
  rw [← hn] at h1
  have HN := Lib.hid hn
  clear hn h
  go_enter Try.func5, Try.ntmps5
  go_wp2_with fail
  refine (alive_any _).mono ?_
  rintro e w1 ⟨rfl, hB1⟩
  have HB1 : Hid (Below w.heap.size w w1) := below_up (below_alloc (Below.refl _ _)) hB1
  have c1_0 : w1.cell? ⟨w.heap.size, 0, none⟩ = some (.int .i64 a) := keep_cell (box0 w 23 #[.int .i64 a, .int .i64 b, .int .i64 c] 0) hB1
  have c1_1 : w1.cell? ⟨w.heap.size, 1, none⟩ = some (.int .i64 b) := keep_cell (box0 w 23 #[.int .i64 a, .int .i64 b, .int .i64 c] 1) hB1
  have c1_2 : w1.cell? ⟨w.heap.size, 2, none⟩ = some (.int .i64 c) := keep_cell (box0 w 23 #[.int .i64 a, .int .i64 b, .int .i64 c] 2) hB1
  have z1_0 : w.heap.size < w1.heap.size := cell_lt c1_0
  clear hB1  
  go_wp2_with fail
  refine (many_to a b c n HH.out HN.out _).mono ?_
  rintro e w2 ⟨rfl, hB2⟩
  have HB2 : Hid (Below w.heap.size w w2) := below_up HB1.out hB2
  have c2_0 : w2.cell? ⟨w.heap.size, 0, none⟩ = some (.int .i64 a) := keep_cell c1_0 hB2
  have c2_1 : w2.cell? ⟨w.heap.size, 1, none⟩ = some (.int .i64 b) := keep_cell c1_1 hB2
  have c2_2 : w2.cell? ⟨w.heap.size, 2, none⟩ = some (.int .i64 c) := keep_cell c1_2 hB2
  have z2_0 : w.heap.size < w2.heap.size := cell_lt c2_0
  clear hB2 c1_0 c1_1 c1_2 z1_0
  go_wp2_with fail
  refine (step_to (some false) _ rfl a b c m by_ A HH.out HM.out.1 HM.out.2 HA.out _).mono ?_
  rintro e w3 ⟨rfl, hB3⟩
  have HB3 : Hid (Below w.heap.size w w3) := below_up HB2.out hB3
  have c3_0 : w3.cell? ⟨w.heap.size, 0, none⟩ = some (.int .i64 a) := keep_cell c2_0 hB3
  have c3_1 : w3.cell? ⟨w.heap.size, 1, none⟩ = some (.int .i64 b) := keep_cell c2_1 hB3
  have c3_2 : w3.cell? ⟨w.heap.size, 2, none⟩ = some (.int .i64 c) := keep_cell c2_2 hB3
  have z3_0 : w.heap.size < w3.heap.size := cell_lt c3_0
  clear hB3 c2_0 c2_1 c2_2 z2_0
  go_wp2_with fail
  refine (step_to (some false) _ rfl a b c A (-by_) m HH.out RA.out.1 RA.out.2 E1.out _).mono ?_
  rintro e w4 ⟨rfl, hB4⟩
  have HB4 : Hid (Below w.heap.size w w4) := below_up HB3.out hB4
  have c4_0 : w4.cell? ⟨w.heap.size, 0, none⟩ = some (.int .i64 a) := keep_cell c3_0 hB4
  have c4_1 : w4.cell? ⟨w.heap.size, 1, none⟩ = some (.int .i64 b) := keep_cell c3_1 hB4
  have c4_2 : w4.cell? ⟨w.heap.size, 2, none⟩ = some (.int .i64 c) := keep_cell c3_2 hB4
  have z4_0 : w.heap.size < w4.heap.size := cell_lt c4_0
  clear hB4 c3_0 c3_1 c3_2 z3_0
  go_wp2_with fail
  refine (step_to (some false) _ rfl a b c A more B HH.out RA.out.1 RA.out.2 E2.out _).mono ?_
  rintro e w5 ⟨rfl, hB5⟩
  have HB5 : Hid (Below w.heap.size w w5) := below_up HB4.out hB5
  have c5_0 : w5.cell? ⟨w.heap.size, 0, none⟩ = some (.int .i64 a) := keep_cell c4_0 hB5
  have c5_1 : w5.cell? ⟨w.heap.size, 1, none⟩ = some (.int .i64 b) := keep_cell c4_1 hB5
  have c5_2 : w5.cell? ⟨w.heap.size, 2, none⟩ = some (.int .i64 c) := keep_cell c4_2 hB5
  have z5_0 : w.heap.size < w5.heap.size := cell_lt c5_0
  clear hB5 c4_0 c4_1 c4_2 z4_0
  go_wp2_with fail
  refine (step_to (some false) _ rfl a b c m (by_ + more) B HH.out HM.out.1 HM.out.2 HB.out _).mono ?_
  rintro e w6 ⟨rfl, hB6⟩
  have HB6 : Hid (Below w.heap.size w w6) := below_up HB5.out hB6
  have c6_0 : w6.cell? ⟨w.heap.size, 0, none⟩ = some (.int .i64 a) := keep_cell c5_0 hB6
  have c6_1 : w6.cell? ⟨w.heap.size, 1, none⟩ = some (.int .i64 b) := keep_cell c5_1 hB6
  have c6_2 : w6.cell? ⟨w.heap.size, 2, none⟩ = some (.int .i64 c) := keep_cell c5_2 hB6
  have z6_0 : w.heap.size < w6.heap.size := cell_lt c6_0
  clear hB6 c5_0 c5_1 c5_2 z5_0
  go_wp2_with fail
  have f7_0 : w6.cell? ⟨w.heap.size, 0, none⟩ = some (.int .i64 a) := c6_0
  have k7_0 := cell_regrown f7_0
  have f7_1 : w6.cell? ⟨w.heap.size, 1, none⟩ = some (.int .i64 b) := c6_1
  have k7_1 := cell_regrown f7_1
  have f7_2 : w6.cell? ⟨w.heap.size, 2, none⟩ = some (.int .i64 c) := c6_2
  have k7_2 := cell_regrown f7_2
  refine wp_region_quiet_below (by kernel_rfl) (by kernel_rfl) ?_
  repeat (go_big_quiet_step (first | fail | exact Calls.regrown_of (step_to (some false) _ rfl a b c m b m HH.out HM.out.1 HM.out.2 E3.out _)))
  refine wpQuiet_nil ?_
  intro _ hw'
  obtain ⟨⟨dq, osq⟩, hw''⟩ := hw'
  subst hw''
  have hB7 := below_regrown w6 dq osq
  have HB7 : Hid (Below w.heap.size w _) := below_up HB6.out hB7
  have c7_0 := keep_cell f7_0 hB7
  have c7_1 := keep_cell f7_1 hB7
  have c7_2 := keep_cell f7_2 hB7
  generalize hgw7 : grow (redrawn w6 dq) osq = w7 at *
  have z7_0 : w.heap.size < w7.heap.size := cell_lt c7_0
  clear hgw7 hB7 c6_0 c6_1 c6_2 z6_0 f7_0 k7_0 f7_1 k7_1 f7_2 k7_2
  go_wp2_with fail
  refine (step_to l _ rfl a b c A more P HH.out RA.out.1 RA.out.2 HP.out _).mono ?_
  rintro e w8 ⟨rfl, hB8⟩
  have HB8 : Hid (Below w.heap.size w w8) := below_up HB7.out hB8
  have c8_0 : w8.cell? ⟨w.heap.size, 0, none⟩ = some (.int .i64 a) := keep_cell c7_0 hB8
  have c8_1 : w8.cell? ⟨w.heap.size, 1, none⟩ = some (.int .i64 b) := keep_cell c7_1 hB8
  have c8_2 : w8.cell? ⟨w.heap.size, 2, none⟩ = some (.int .i64 c) := keep_cell c7_2 hB8
  have z8_0 : w.heap.size < w8.heap.size := cell_lt c8_0
  clear hB8 c7_0 c7_1 c7_2 z7_0
  go_wp2_with fail
  refine (step_to l _ rfl a b c m more Q HH.out HM.out.1 HM.out.2 HQ.out _).mono ?_
  rintro e w9 ⟨rfl, hB9⟩
  have HB9 : Hid (Below w.heap.size w w9) := below_up HB8.out hB9
  have c9_0 : w9.cell? ⟨w.heap.size, 0, none⟩ = some (.int .i64 a) := keep_cell c8_0 hB9
  have c9_1 : w9.cell? ⟨w.heap.size, 1, none⟩ = some (.int .i64 b) := keep_cell c8_1 hB9
  have c9_2 : w9.cell? ⟨w.heap.size, 2, none⟩ = some (.int .i64 c) := keep_cell c8_2 hB9
  have z9_0 : w.heap.size < w9.heap.size := cell_lt c9_0
  clear hB9 c8_0 c8_1 c8_2 z8_0
  go_wp2_with fail
  refine (step_to (some false) _ rfl a b c Q by_ P HH.out RQ.out.1 RQ.out.2 E4.out _).mono ?_
  rintro e w10 ⟨rfl, hB10⟩
  have HB10 : Hid (Below w.heap.size w w10) := below_up HB9.out hB10
  have c10_0 : w10.cell? ⟨w.heap.size, 0, none⟩ = some (.int .i64 a) := keep_cell c9_0 hB10
  have c10_1 : w10.cell? ⟨w.heap.size, 1, none⟩ = some (.int .i64 b) := keep_cell c9_1 hB10
  have c10_2 : w10.cell? ⟨w.heap.size, 2, none⟩ = some (.int .i64 c) := keep_cell c9_2 hB10
  have z10_0 : w.heap.size < w10.heap.size := cell_lt c10_0
  clear hB10 c9_0 c9_1 c9_2 z9_0
  go_wp2_with fail
  go_ret
  exact ⟨rfl, HB10.out⟩
set_option maxRecDepth 100000 in
set_option maxHeartbeats 4000000 in
theorem round_main2 (w : World) (a b c m ax ay by_ more : Int) (ha0 : 0 ≤ ax) (ha1 : ax ≤ 255) (hb0 : 0 ≤ ay) (hb1 : ay ≤ 255) (l : Ax) (hl : ay % 3 = axn l) (hk : ax % 3 = 2) (h : May a b c) (h0 : 0 ≤ m) (h1 : m < num a b c) (y0 : -1000000 ≤ by_) (y1 : by_ ≤ 1000000) (z0 : -1000000 ≤ more) (z1 : more ≤ 1000000) :
    Calls Try.prog 5 #[.agg #[.int .i64 a, .int .i64 b, .int .i64 c], .int .i64 m, .int .u8 ax, .int .u8 ay, .int .i64 by_, .int .i64 more] w fun e w' => e = .returned (.bool true) ∧ Below w.heap.size w w' := by
  have HM := Lib.hid (And.intro h0 h1)
  obtain ⟨A, hA⟩ : ∃ A, A = onR a b c m (some true) by_ := ⟨_, rfl⟩
  obtain ⟨Q, hQ⟩ : ∃ Q, Q = onR a b c m l more := ⟨_, rfl⟩
  obtain ⟨B, hB⟩ : ∃ B, B = onR a b c m (some true) (by_ + more) := ⟨_, rfl⟩
  obtain ⟨P, hP⟩ : ∃ P, P = onR a b c A l more := ⟨_, rfl⟩
  have rA := on_range (m := m) h (some true) by_
  have rQ := on_range (m := m) h l more
  have e1 : m = onR a b c A (some true) (-by_) := by rw [hA]; exact on_home h h0 h1 _ _
  have e2 : B = onR a b c A (some true) more := by rw [hA, hB, on_on h]
  have e3 : m = onR a b c m (some true) c := on_turn h h0 h1 (some true)
  have e4 : P = onR a b c Q (some true) by_ := by rw [hP, hQ, hA, on_swap h]
  rw [← hA] at rA
  rw [← hQ] at rQ
  have HA := Lib.hid hA
  have HQ := Lib.hid hQ
  have HB := Lib.hid hB
  have HP := Lib.hid hP
  have E1 := Lib.hid e1
  have E2 := Lib.hid e2
  have E3 := Lib.hid e3
  have E4 := Lib.hid e4
  have RA := Lib.hid rA
  have RQ := Lib.hid rQ
  have HL := Lib.hid hl
  clear hA hQ hB hP e1 e2 e3 e4 rA rQ
  have f1 : IntKind.i64.wrap (-by_) = -by_ := IntWalk.i64_in _ (by omega)
  have f2 : IntKind.i64.wrap (by_ + more) = by_ + more := IntWalk.i64_in _ (by omega)
  have HH := Lib.hid h
  obtain ⟨n, hn⟩ : ∃ n, n = num a b c := ⟨_, rfl⟩
  rw [← hn] at h1
  have HN := Lib.hid hn
  clear hn h
  go_enter Try.func5, Try.ntmps5
  go_wp2_with fail
  refine (alive_any _).mono ?_
  rintro e w1 ⟨rfl, hB1⟩
  have HB1 : Hid (Below w.heap.size w w1) := below_up (below_alloc (Below.refl _ _)) hB1
  have c1_0 : w1.cell? ⟨w.heap.size, 0, none⟩ = some (.int .i64 a) := keep_cell (box0 w 23 #[.int .i64 a, .int .i64 b, .int .i64 c] 0) hB1
  have c1_1 : w1.cell? ⟨w.heap.size, 1, none⟩ = some (.int .i64 b) := keep_cell (box0 w 23 #[.int .i64 a, .int .i64 b, .int .i64 c] 1) hB1
  have c1_2 : w1.cell? ⟨w.heap.size, 2, none⟩ = some (.int .i64 c) := keep_cell (box0 w 23 #[.int .i64 a, .int .i64 b, .int .i64 c] 2) hB1
  have z1_0 : w.heap.size < w1.heap.size := cell_lt c1_0
  clear hB1  
  go_wp2_with fail
  refine (many_to a b c n HH.out HN.out _).mono ?_
  rintro e w2 ⟨rfl, hB2⟩
  have HB2 : Hid (Below w.heap.size w w2) := below_up HB1.out hB2
  have c2_0 : w2.cell? ⟨w.heap.size, 0, none⟩ = some (.int .i64 a) := keep_cell c1_0 hB2
  have c2_1 : w2.cell? ⟨w.heap.size, 1, none⟩ = some (.int .i64 b) := keep_cell c1_1 hB2
  have c2_2 : w2.cell? ⟨w.heap.size, 2, none⟩ = some (.int .i64 c) := keep_cell c1_2 hB2
  have z2_0 : w.heap.size < w2.heap.size := cell_lt c2_0
  clear hB2 c1_0 c1_1 c1_2 z1_0
  go_wp2_with fail
  refine (step_to (some true) _ rfl a b c m by_ A HH.out HM.out.1 HM.out.2 HA.out _).mono ?_
  rintro e w3 ⟨rfl, hB3⟩
  have HB3 : Hid (Below w.heap.size w w3) := below_up HB2.out hB3
  have c3_0 : w3.cell? ⟨w.heap.size, 0, none⟩ = some (.int .i64 a) := keep_cell c2_0 hB3
  have c3_1 : w3.cell? ⟨w.heap.size, 1, none⟩ = some (.int .i64 b) := keep_cell c2_1 hB3
  have c3_2 : w3.cell? ⟨w.heap.size, 2, none⟩ = some (.int .i64 c) := keep_cell c2_2 hB3
  have z3_0 : w.heap.size < w3.heap.size := cell_lt c3_0
  clear hB3 c2_0 c2_1 c2_2 z2_0
  go_wp2_with fail
  refine (step_to (some true) _ rfl a b c A (-by_) m HH.out RA.out.1 RA.out.2 E1.out _).mono ?_
  rintro e w4 ⟨rfl, hB4⟩
  have HB4 : Hid (Below w.heap.size w w4) := below_up HB3.out hB4
  have c4_0 : w4.cell? ⟨w.heap.size, 0, none⟩ = some (.int .i64 a) := keep_cell c3_0 hB4
  have c4_1 : w4.cell? ⟨w.heap.size, 1, none⟩ = some (.int .i64 b) := keep_cell c3_1 hB4
  have c4_2 : w4.cell? ⟨w.heap.size, 2, none⟩ = some (.int .i64 c) := keep_cell c3_2 hB4
  have z4_0 : w.heap.size < w4.heap.size := cell_lt c4_0
  clear hB4 c3_0 c3_1 c3_2 z3_0
  go_wp2_with fail
  refine (step_to (some true) _ rfl a b c A more B HH.out RA.out.1 RA.out.2 E2.out _).mono ?_
  rintro e w5 ⟨rfl, hB5⟩
  have HB5 : Hid (Below w.heap.size w w5) := below_up HB4.out hB5
  have c5_0 : w5.cell? ⟨w.heap.size, 0, none⟩ = some (.int .i64 a) := keep_cell c4_0 hB5
  have c5_1 : w5.cell? ⟨w.heap.size, 1, none⟩ = some (.int .i64 b) := keep_cell c4_1 hB5
  have c5_2 : w5.cell? ⟨w.heap.size, 2, none⟩ = some (.int .i64 c) := keep_cell c4_2 hB5
  have z5_0 : w.heap.size < w5.heap.size := cell_lt c5_0
  clear hB5 c4_0 c4_1 c4_2 z4_0
  go_wp2_with fail
  refine (step_to (some true) _ rfl a b c m (by_ + more) B HH.out HM.out.1 HM.out.2 HB.out _).mono ?_
  rintro e w6 ⟨rfl, hB6⟩
  have HB6 : Hid (Below w.heap.size w w6) := below_up HB5.out hB6
  have c6_0 : w6.cell? ⟨w.heap.size, 0, none⟩ = some (.int .i64 a) := keep_cell c5_0 hB6
  have c6_1 : w6.cell? ⟨w.heap.size, 1, none⟩ = some (.int .i64 b) := keep_cell c5_1 hB6
  have c6_2 : w6.cell? ⟨w.heap.size, 2, none⟩ = some (.int .i64 c) := keep_cell c5_2 hB6
  have z6_0 : w.heap.size < w6.heap.size := cell_lt c6_0
  clear hB6 c5_0 c5_1 c5_2 z5_0
  go_wp2_with fail
  have f7_0 : w6.cell? ⟨w.heap.size, 0, none⟩ = some (.int .i64 a) := c6_0
  have k7_0 := cell_regrown f7_0
  have f7_1 : w6.cell? ⟨w.heap.size, 1, none⟩ = some (.int .i64 b) := c6_1
  have k7_1 := cell_regrown f7_1
  have f7_2 : w6.cell? ⟨w.heap.size, 2, none⟩ = some (.int .i64 c) := c6_2
  have k7_2 := cell_regrown f7_2
  refine wp_region_quiet_below (by kernel_rfl) (by kernel_rfl) ?_
  repeat (go_big_quiet_step (first | fail | exact Calls.regrown_of (step_to (some true) _ rfl a b c m c m HH.out HM.out.1 HM.out.2 E3.out _)))
  refine wpQuiet_nil ?_
  intro _ hw'
  obtain ⟨⟨dq, osq⟩, hw''⟩ := hw'
  subst hw''
  have hB7 := below_regrown w6 dq osq
  have HB7 : Hid (Below w.heap.size w _) := below_up HB6.out hB7
  have c7_0 := keep_cell f7_0 hB7
  have c7_1 := keep_cell f7_1 hB7
  have c7_2 := keep_cell f7_2 hB7
  generalize hgw7 : grow (redrawn w6 dq) osq = w7 at *
  have z7_0 : w.heap.size < w7.heap.size := cell_lt c7_0
  clear hgw7 hB7 c6_0 c6_1 c6_2 z6_0 f7_0 k7_0 f7_1 k7_1 f7_2 k7_2
  go_wp2_with fail
  refine (step_to l _ rfl a b c A more P HH.out RA.out.1 RA.out.2 HP.out _).mono ?_
  rintro e w8 ⟨rfl, hB8⟩
  have HB8 : Hid (Below w.heap.size w w8) := below_up HB7.out hB8
  have c8_0 : w8.cell? ⟨w.heap.size, 0, none⟩ = some (.int .i64 a) := keep_cell c7_0 hB8
  have c8_1 : w8.cell? ⟨w.heap.size, 1, none⟩ = some (.int .i64 b) := keep_cell c7_1 hB8
  have c8_2 : w8.cell? ⟨w.heap.size, 2, none⟩ = some (.int .i64 c) := keep_cell c7_2 hB8
  have z8_0 : w.heap.size < w8.heap.size := cell_lt c8_0
  clear hB8 c7_0 c7_1 c7_2 z7_0
  go_wp2_with fail
  refine (step_to l _ rfl a b c m more Q HH.out HM.out.1 HM.out.2 HQ.out _).mono ?_
  rintro e w9 ⟨rfl, hB9⟩
  have HB9 : Hid (Below w.heap.size w w9) := below_up HB8.out hB9
  have c9_0 : w9.cell? ⟨w.heap.size, 0, none⟩ = some (.int .i64 a) := keep_cell c8_0 hB9
  have c9_1 : w9.cell? ⟨w.heap.size, 1, none⟩ = some (.int .i64 b) := keep_cell c8_1 hB9
  have c9_2 : w9.cell? ⟨w.heap.size, 2, none⟩ = some (.int .i64 c) := keep_cell c8_2 hB9
  have z9_0 : w.heap.size < w9.heap.size := cell_lt c9_0
  clear hB9 c8_0 c8_1 c8_2 z8_0
  go_wp2_with fail
  refine (step_to (some true) _ rfl a b c Q by_ P HH.out RQ.out.1 RQ.out.2 E4.out _).mono ?_
  rintro e w10 ⟨rfl, hB10⟩
  have HB10 : Hid (Below w.heap.size w w10) := below_up HB9.out hB10
  have c10_0 : w10.cell? ⟨w.heap.size, 0, none⟩ = some (.int .i64 a) := keep_cell c9_0 hB10
  have c10_1 : w10.cell? ⟨w.heap.size, 1, none⟩ = some (.int .i64 b) := keep_cell c9_1 hB10
  have c10_2 : w10.cell? ⟨w.heap.size, 2, none⟩ = some (.int .i64 c) := keep_cell c9_2 hB10
  have z10_0 : w.heap.size < w10.heap.size := cell_lt c10_0
  clear hB10 c9_0 c9_1 c9_2 z9_0
  go_wp2_with fail
  go_ret
  exact ⟨rfl, HB10.out⟩
set_option maxRecDepth 100000 in
set_option maxHeartbeats 4000000 in
theorem roundLaw (w : World) (a b c : Int) (wa : (Lit.int .i64 a).wf = true) (wb : (Lit.int .i64 b).wf = true) (wc : (Lit.int .i64 c).wf = true) (m : Int) (wm : (Lit.int .i64 m).wf = true) (ax : Int) (wx : (Lit.int .u8 ax).wf = true) (ay : Int) (wy : (Lit.int .u8 ay).wf = true) (by_ : Int) (wby : (Lit.int .i64 by_).wf = true) (more : Int) (wmore : (Lit.int .i64 more).wf = true) :
    Calls Try.prog 5 #[.agg #[.int .i64 a, .int .i64 b, .int .i64 c], .int .i64 m, .int .u8 ax, .int .u8 ay, .int .i64 by_, .int .i64 more] w fun e w' => e = .returned (.bool true) ∧ Below w.heap.size w w' := by
  obtain ⟨ha0, ha1⟩ := u8_bounds wx
  obtain ⟨hb0, hb1⟩ := u8_bounds wy
  by_cases h : May a b c
  · by_cases h0 : 0 ≤ m
    · by_cases h1 : m < num a b c
      · by_cases y0 : by_ < -1000000
        · exact round_b1 w a b c m ax ay by_ more h h0 h1 y0
        · by_cases y1 : 1000000 < by_
          · exact round_b2 w a b c m ax ay by_ more h h0 h1 y0 y1
          · by_cases z0 : more < -1000000
            · exact round_c1 w a b c m ax ay by_ more h h0 h1 y0 y1 z0
            · by_cases z1 : 1000000 < more
              · exact round_c2 w a b c m ax ay by_ more h h0 h1 y0 y1 z0 z1
              · have hl : ∃ l : Ax, ay % 3 = axn l := by
                  rcases (show ay % 3 = 0 ∨ ay % 3 = 1 ∨ ay % 3 = 2 by omega) with e | e | e
                  · exact ⟨none, e⟩
                  · exact ⟨some false, e⟩
                  · exact ⟨some true, e⟩
                obtain ⟨l, hl⟩ := hl
                rcases (show ax % 3 = 0 ∨ ax % 3 = 1 ∨ ax % 3 = 2 by omega) with hk | hk | hk
                · exact round_main0 w a b c m ax ay by_ more ha0 ha1 hb0 hb1 l hl hk h h0 h1 (by omega) (by omega) (by omega) (by omega)
                · exact round_main1 w a b c m ax ay by_ more ha0 ha1 hb0 hb1 l hl hk h h0 h1 (by omega) (by omega) (by omega) (by omega)
                · exact round_main2 w a b c m ax ay by_ more ha0 ha1 hb0 hb1 l hl hk h h0 h1 (by omega) (by omega) (by omega) (by omega)
      · exact round_big w a b c m ax ay by_ more h h0 (by omega)
    · exact round_neg w a b c m ax ay by_ more h (by omega)
  · exact round_bad w a b c m ax ay by_ more h
end Go.Proofs.Ythapginaphdmjaa.PosLaws2
