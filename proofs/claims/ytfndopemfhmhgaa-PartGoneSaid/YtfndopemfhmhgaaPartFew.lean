/- The chapter's first examples, and the walk of PartFewer. -/
import Derived.Test.YtfndopemfhmhgaaPartEnds2
namespace Go.Proofs.Ytfndopemfhmhgaa.PartFew
open Go.RowKit Mem PosMath PosCheck PartMath PartClass PartCheck PartEnds PartEnds2
set_option linter.unusedVariables false

/-- The plain config, in new memory. -/
def Plain (w : World) (e : Ending) (w' : World) : Prop := ∃ g, e = .returned (.agg #[.int .i64 1, .int .i64 1, .int .i64 1, .int .i64 5, .int .i64 2, .int .i64 2, .int .i64 1, .slice (some ⟨g, 0, none⟩) 1 1]) ∧ Below w.heap.size w w' ∧ ClsAt w' w'.heap.size (some ⟨g, 0, none⟩) [(0, 1, 1, 1)]
theorem cls_one {W : World} {g : Nat} {t : TypeId} (h : Blk W g t #[.int .i64 0, .int .i64 1, .int .i64 1, .int .i64 1]) : ClsAt W W.heap.size (some ⟨g, 0, none⟩) [(0, 1, 1, 1)] := fun i k hi => by
  match i, hi with
  | 0, hi => cases hi; exact ⟨g, 0, rfl, h.lt, h.cell 0, h.cell 1, h.cell 2, h.cell 3⟩
  | i + 1, hi => simp at hi
theorem cfg_plain : CfgOk 1 1 1 5 2 2 1 [(0, 1, 1, 1)] := by decide
theorem part_boots : PartOk 1 1 1 10 2 := by decide
set_option maxRecDepth 100000 in
set_option maxHeartbeats 2000000 in
theorem plain_any (w : World) : Calls Try.prog 12 #[] w (Plain w) := by
  have zv : ∀ w, (zeroValue 26).run Try.prog w = .ok (.agg #[.int .i64 0, .int .i64 0, .int .i64 0, .int .i64 0, .int .i64 0, .int .i64 0, .int .i64 0, .slice none 0 0]) w := fun _ => by kernel_rfl
  go_enter Try.func12, Try.ntmps12
  go_wp2_with fail
  exact bodyPost_ret (v := .agg #[.int .i64 1, .int .i64 1, .int .i64 1, .int .i64 5, .int .i64 2, .int .i64 2, .int .i64 1, .slice (some ⟨w.heap.size + 1, 0, none⟩) 1 1]) (by simp [results, Try.results12, go_sem]) rfl ⟨w.heap.size + 1, rfl, below_alloc (below_alloc (Below.refl _ _)), cls_one (blk1 w _ _)⟩
set_option maxRecDepth 100000 in
set_option maxHeartbeats 2000000 in
theorem boots_any (w : World) : Calls Try.prog 13 #[] w fun e w' => e = .returned (.agg #[.int .i64 1, .int .i64 0, .int .i64 0, .int .i64 0, .int .i64 0, .int .i64 0, .int .i64 0, .bool false, .bool false, .bool false, .int .u8 1, .int .i64 1, .int .i64 10]) ∧ Below w.heap.size w w' := by
  have zv : ∀ w, (zeroValue 37).run Try.prog w = .ok (.agg #[.int .i64 0, .int .i64 0, .int .i64 0, .int .i64 0, .int .i64 0, .int .i64 0, .int .i64 0, .bool false, .bool false, .bool false, .int .u8 0, .int .i64 0, .int .i64 0]) w := fun _ => by kernel_rfl
  go_enter Try.func13, Try.ntmps13
  go_wp2_with fail
  exact bodyPost_ret (v := .agg #[.int .i64 1, .int .i64 0, .int .i64 0, .int .i64 0, .int .i64 0, .int .i64 0, .int .i64 0, .bool false, .bool false, .bool false, .int .u8 1, .int .i64 1, .int .i64 10]) (by simp [results, Try.results13, go_sem]) rfl ⟨rfl, below_alloc (Below.refl _ _)⟩
theorem ends_plain (g : Nat) (w : World) (hk : ClsAt w w.heap.size (some ⟨g, 0, none⟩) [(0, 1, 1, 1)]) :
    Calls Try.prog 14 #[.agg #[.int .i64 1, .int .i64 1, .int .i64 1, .int .i64 5, .int .i64 2, .int .i64 2, .int .i64 1, .slice (some ⟨g, 0, none⟩) 1 1], .agg #[.int .i64 1, .int .i64 0, .int .i64 0, .int .i64 0, .int .i64 0, .int .i64 0, .int .i64 0, .bool false, .bool false, .bool false, .int .u8 1, .int .i64 1, .int .i64 10], .int .i64 100] w fun e w' => e = .returned (.tuple #[.int .i64 117, .int .i64 0]) ∧ Below w.heap.size w w' :=
  ends1 1 1 1 5 2 2 1 (some ⟨g, 0, none⟩) 1 [(0, 1, 1, 1)] (by decide) 1 0 0 0 0 0 0 false false false 1 10 100 cfg_plain part_boots (by decide) w hk
theorem turns_plain (g : Nat) (w : World) (hk : ClsAt w w.heap.size (some ⟨g, 0, none⟩) [(0, 1, 1, 1)]) :
    Calls Try.prog 16 #[.agg #[.int .i64 1, .int .i64 1, .int .i64 1, .int .i64 5, .int .i64 2, .int .i64 2, .int .i64 1, .slice (some ⟨g, 0, none⟩) 1 1], .agg #[.int .i64 1, .int .i64 0, .int .i64 0, .int .i64 0, .int .i64 0, .int .i64 0, .int .i64 0, .bool false, .bool false, .bool false, .int .u8 1, .int .i64 1, .int .i64 10], .int .i64 100] w fun e w' => e = .returned (.tuple #[.int .i64 15, .int .i64 0]) ∧ Below w.heap.size w w' :=
  turns1 1 1 1 5 2 2 1 (some ⟨g, 0, none⟩) 1 [(0, 1, 1, 1)] (by decide) 1 0 0 0 0 0 0 false false false 1 10 100 cfg_plain part_boots (by decide) w hk
set_option maxRecDepth 100000 in
set_option maxHeartbeats 2000000 in
theorem alive_any (w : World) : Calls Try.prog 9 #[] w fun e w' => e = .returned (.bool true) ∧ Below w.heap.size w w' := by
  go_enter Try.func9, Try.ntmps9
  go_wp2_with fail
  refine (plain_any _).mono ?_
  rintro e w1 ⟨g, rfl, hB1, hk1⟩
  have HB1 := Lib.hid hB1
  have HK1 := Lib.hid hk1
  clear hB1 hk1
  go_wp2_with fail
  refine (boots_any _).mono ?_
  rintro e w2 ⟨rfl, hB2⟩
  have HB2 := Lib.hid (below_up HB1.out hB2)
  have HK2 := Lib.hid (HK1.out.up hB2)
  clear hB2
  go_wp2_with fail
  refine (ends_plain g _ HK2.out).mono ?_
  rintro e w3 ⟨rfl, hB3⟩
  have HB3 := Lib.hid (below_up HB2.out hB3)
  clear hB3
  go_wp2_with fail
  refine (plain_any _).mono ?_
  rintro e w4 ⟨g2, rfl, hB4, hk4⟩
  have HB4 := Lib.hid (below_up HB3.out hB4)
  have HK4 := Lib.hid hk4
  clear hB4 hk4
  go_wp2_with fail
  refine (boots_any _).mono ?_
  rintro e w5 ⟨rfl, hB5⟩
  have HB5 := Lib.hid (below_up HB4.out hB5)
  have HK5 := Lib.hid (HK4.out.up hB5)
  clear hB5
  go_wp2_with fail
  refine (turns_plain g2 _ HK5.out).mono ?_
  rintro e w6 ⟨rfl, hB6⟩
  have HB6 := Lib.hid (below_up HB5.out hB6)
  clear hB6
  go_wp2_with fail
  go_ret
  exact ⟨rfl, HB6.out⟩
set_option maxRecDepth 100000 in
set_option maxHeartbeats 2000000 in
theorem few_many (a b c bo fr tr ag : Int) (X : Option Addr) (cp : Nat) (ks : List Cls) (hl : ks.length ≤ 9223372036854775807) (hn : 100 < ks.length) (w : World) (hk : ClsAt w w.heap.size X ks) :
    Calls Try.prog 3 #[.agg #[.int .i64 a, .int .i64 b, .int .i64 c, .int .i64 bo, .int .i64 fr, .int .i64 tr, .int .i64 ag, .slice X ks.length cp]] w (fun e w' => e = .returned (.bool true) ∧ Below w.heap.size w w') := by
  have hn0 : 0 < ks.length := by omega
  have HKK := Lib.hid hk
  clear hk
  go_enter Try.func3, Try.ntmps3
  go_wp2_with fail
  refine (alive_any _).mono ?_
  rintro e w1 ⟨rfl, hB1⟩
  have HB1 : Hid (Below w.heap.size w w1) := below_up (below_alloc (Below.refl _ _)) hB1
  have c1_0 : w1.cell? ⟨w.heap.size, 0, none⟩ = some (.int .i64 a) := keep_cell (box0 w 26 #[.int .i64 a, .int .i64 b, .int .i64 c, .int .i64 bo, .int .i64 fr, .int .i64 tr, .int .i64 ag, .slice X ks.length cp] 0) hB1
  have c1_1 : w1.cell? ⟨w.heap.size, 1, none⟩ = some (.int .i64 b) := keep_cell (box0 w 26 #[.int .i64 a, .int .i64 b, .int .i64 c, .int .i64 bo, .int .i64 fr, .int .i64 tr, .int .i64 ag, .slice X ks.length cp] 1) hB1
  have c1_2 : w1.cell? ⟨w.heap.size, 2, none⟩ = some (.int .i64 c) := keep_cell (box0 w 26 #[.int .i64 a, .int .i64 b, .int .i64 c, .int .i64 bo, .int .i64 fr, .int .i64 tr, .int .i64 ag, .slice X ks.length cp] 2) hB1
  have c1_3 : w1.cell? ⟨w.heap.size, 3, none⟩ = some (.int .i64 bo) := keep_cell (box0 w 26 #[.int .i64 a, .int .i64 b, .int .i64 c, .int .i64 bo, .int .i64 fr, .int .i64 tr, .int .i64 ag, .slice X ks.length cp] 3) hB1
  have c1_4 : w1.cell? ⟨w.heap.size, 4, none⟩ = some (.int .i64 fr) := keep_cell (box0 w 26 #[.int .i64 a, .int .i64 b, .int .i64 c, .int .i64 bo, .int .i64 fr, .int .i64 tr, .int .i64 ag, .slice X ks.length cp] 4) hB1
  have c1_5 : w1.cell? ⟨w.heap.size, 5, none⟩ = some (.int .i64 tr) := keep_cell (box0 w 26 #[.int .i64 a, .int .i64 b, .int .i64 c, .int .i64 bo, .int .i64 fr, .int .i64 tr, .int .i64 ag, .slice X ks.length cp] 5) hB1
  have c1_6 : w1.cell? ⟨w.heap.size, 6, none⟩ = some (.int .i64 ag) := keep_cell (box0 w 26 #[.int .i64 a, .int .i64 b, .int .i64 c, .int .i64 bo, .int .i64 fr, .int .i64 tr, .int .i64 ag, .slice X ks.length cp] 6) hB1
  have c1_7 : w1.cell? ⟨w.heap.size, 7, none⟩ = some (.slice X ks.length cp) := keep_cell (box0 w 26 #[.int .i64 a, .int .i64 b, .int .i64 c, .int .i64 bo, .int .i64 fr, .int .i64 tr, .int .i64 ag, .slice X ks.length cp] 7) hB1
  have z1_0 : w.heap.size < w1.heap.size := cell_lt c1_0
  clear hB1  
  go_wp2_with fail
  go_ret
  exact ⟨rfl, HB1.out⟩
set_option maxRecDepth 100000 in
set_option maxHeartbeats 2000000 in
theorem few_bad (a b c bo fr tr ag : Int) (X : Option Addr) (cp : Nat) (ks : List Cls) (hl : ks.length ≤ 9223372036854775807) (hn : ¬ 100 < ks.length) (hn0 : 0 < ks.length) (h : ¬ CfgOk a b c bo fr tr ag ks) (w : World) (hk : ClsAt w w.heap.size X ks) :
    Calls Try.prog 3 #[.agg #[.int .i64 a, .int .i64 b, .int .i64 c, .int .i64 bo, .int .i64 fr, .int .i64 tr, .int .i64 ag, .slice X ks.length cp]] w (fun e w' => e = .returned (.bool true) ∧ Below w.heap.size w w') := by
  have HKK := Lib.hid hk
  clear hk
  have HH := Lib.hid h
  clear h
  go_enter Try.func3, Try.ntmps3
  go_wp2_with fail
  refine (alive_any _).mono ?_
  rintro e w1 ⟨rfl, hB1⟩
  have HB1 : Hid (Below w.heap.size w w1) := below_up (below_alloc (Below.refl _ _)) hB1
  have c1_0 : w1.cell? ⟨w.heap.size, 0, none⟩ = some (.int .i64 a) := keep_cell (box0 w 26 #[.int .i64 a, .int .i64 b, .int .i64 c, .int .i64 bo, .int .i64 fr, .int .i64 tr, .int .i64 ag, .slice X ks.length cp] 0) hB1
  have c1_1 : w1.cell? ⟨w.heap.size, 1, none⟩ = some (.int .i64 b) := keep_cell (box0 w 26 #[.int .i64 a, .int .i64 b, .int .i64 c, .int .i64 bo, .int .i64 fr, .int .i64 tr, .int .i64 ag, .slice X ks.length cp] 1) hB1
  have c1_2 : w1.cell? ⟨w.heap.size, 2, none⟩ = some (.int .i64 c) := keep_cell (box0 w 26 #[.int .i64 a, .int .i64 b, .int .i64 c, .int .i64 bo, .int .i64 fr, .int .i64 tr, .int .i64 ag, .slice X ks.length cp] 2) hB1
  have c1_3 : w1.cell? ⟨w.heap.size, 3, none⟩ = some (.int .i64 bo) := keep_cell (box0 w 26 #[.int .i64 a, .int .i64 b, .int .i64 c, .int .i64 bo, .int .i64 fr, .int .i64 tr, .int .i64 ag, .slice X ks.length cp] 3) hB1
  have c1_4 : w1.cell? ⟨w.heap.size, 4, none⟩ = some (.int .i64 fr) := keep_cell (box0 w 26 #[.int .i64 a, .int .i64 b, .int .i64 c, .int .i64 bo, .int .i64 fr, .int .i64 tr, .int .i64 ag, .slice X ks.length cp] 4) hB1
  have c1_5 : w1.cell? ⟨w.heap.size, 5, none⟩ = some (.int .i64 tr) := keep_cell (box0 w 26 #[.int .i64 a, .int .i64 b, .int .i64 c, .int .i64 bo, .int .i64 fr, .int .i64 tr, .int .i64 ag, .slice X ks.length cp] 5) hB1
  have c1_6 : w1.cell? ⟨w.heap.size, 6, none⟩ = some (.int .i64 ag) := keep_cell (box0 w 26 #[.int .i64 a, .int .i64 b, .int .i64 c, .int .i64 bo, .int .i64 fr, .int .i64 tr, .int .i64 ag, .slice X ks.length cp] 6) hB1
  have c1_7 : w1.cell? ⟨w.heap.size, 7, none⟩ = some (.slice X ks.length cp) := keep_cell (box0 w 26 #[.int .i64 a, .int .i64 b, .int .i64 c, .int .i64 bo, .int .i64 fr, .int .i64 tr, .int .i64 ag, .slice X ks.length cp] 7) hB1
  have z1_0 : w.heap.size < w1.heap.size := cell_lt c1_0
  clear hB1  
  go_wp2_with fail
  refine (pcheck_bad a b c bo fr tr ag X cp ks hl HH.out _ (HKK.out.up HB1.out)).mono ?_
  rintro e w2 ⟨rfl, hB2⟩
  have HB2 : Hid (Below w.heap.size w w2) := below_up HB1.out hB2
  have c2_0 : w2.cell? ⟨w.heap.size, 0, none⟩ = some (.int .i64 a) := keep_cell c1_0 hB2
  have c2_1 : w2.cell? ⟨w.heap.size, 1, none⟩ = some (.int .i64 b) := keep_cell c1_1 hB2
  have c2_2 : w2.cell? ⟨w.heap.size, 2, none⟩ = some (.int .i64 c) := keep_cell c1_2 hB2
  have c2_3 : w2.cell? ⟨w.heap.size, 3, none⟩ = some (.int .i64 bo) := keep_cell c1_3 hB2
  have c2_4 : w2.cell? ⟨w.heap.size, 4, none⟩ = some (.int .i64 fr) := keep_cell c1_4 hB2
  have c2_5 : w2.cell? ⟨w.heap.size, 5, none⟩ = some (.int .i64 tr) := keep_cell c1_5 hB2
  have c2_6 : w2.cell? ⟨w.heap.size, 6, none⟩ = some (.int .i64 ag) := keep_cell c1_6 hB2
  have c2_7 : w2.cell? ⟨w.heap.size, 7, none⟩ = some (.slice X ks.length cp) := keep_cell c1_7 hB2
  have z2_0 : w.heap.size < w2.heap.size := cell_lt c2_0
  clear hB2 c1_0 c1_1 c1_2 c1_3 c1_4 c1_5 c1_6 c1_7 z1_0
  go_wp2_with fail
  go_ret
  exact ⟨rfl, HB2.out⟩
set_option maxRecDepth 100000 in
set_option maxHeartbeats 2000000 in
theorem few_none (a b c bo fr tr ag : Int) (X : Option Addr) (cp : Nat)  (h : ¬ CfgOk a b c bo fr tr ag []) (w : World) :
    Calls Try.prog 3 #[.agg #[.int .i64 a, .int .i64 b, .int .i64 c, .int .i64 bo, .int .i64 fr, .int .i64 tr, .int .i64 ag, .slice X 0 cp]] w (fun e w' => e = .returned (.bool true) ∧ Below w.heap.size w w') := by
  have HH := Lib.hid h
  clear h
  go_enter Try.func3, Try.ntmps3
  go_wp2_with fail
  refine (alive_any _).mono ?_
  rintro e w1 ⟨rfl, hB1⟩
  have HB1 : Hid (Below w.heap.size w w1) := below_up (below_alloc (Below.refl _ _)) hB1
  have c1_0 : w1.cell? ⟨w.heap.size, 0, none⟩ = some (.int .i64 a) := keep_cell (box0 w 26 #[.int .i64 a, .int .i64 b, .int .i64 c, .int .i64 bo, .int .i64 fr, .int .i64 tr, .int .i64 ag, .slice X 0 cp] 0) hB1
  have c1_1 : w1.cell? ⟨w.heap.size, 1, none⟩ = some (.int .i64 b) := keep_cell (box0 w 26 #[.int .i64 a, .int .i64 b, .int .i64 c, .int .i64 bo, .int .i64 fr, .int .i64 tr, .int .i64 ag, .slice X 0 cp] 1) hB1
  have c1_2 : w1.cell? ⟨w.heap.size, 2, none⟩ = some (.int .i64 c) := keep_cell (box0 w 26 #[.int .i64 a, .int .i64 b, .int .i64 c, .int .i64 bo, .int .i64 fr, .int .i64 tr, .int .i64 ag, .slice X 0 cp] 2) hB1
  have c1_3 : w1.cell? ⟨w.heap.size, 3, none⟩ = some (.int .i64 bo) := keep_cell (box0 w 26 #[.int .i64 a, .int .i64 b, .int .i64 c, .int .i64 bo, .int .i64 fr, .int .i64 tr, .int .i64 ag, .slice X 0 cp] 3) hB1
  have c1_4 : w1.cell? ⟨w.heap.size, 4, none⟩ = some (.int .i64 fr) := keep_cell (box0 w 26 #[.int .i64 a, .int .i64 b, .int .i64 c, .int .i64 bo, .int .i64 fr, .int .i64 tr, .int .i64 ag, .slice X 0 cp] 4) hB1
  have c1_5 : w1.cell? ⟨w.heap.size, 5, none⟩ = some (.int .i64 tr) := keep_cell (box0 w 26 #[.int .i64 a, .int .i64 b, .int .i64 c, .int .i64 bo, .int .i64 fr, .int .i64 tr, .int .i64 ag, .slice X 0 cp] 5) hB1
  have c1_6 : w1.cell? ⟨w.heap.size, 6, none⟩ = some (.int .i64 ag) := keep_cell (box0 w 26 #[.int .i64 a, .int .i64 b, .int .i64 c, .int .i64 bo, .int .i64 fr, .int .i64 tr, .int .i64 ag, .slice X 0 cp] 6) hB1
  have c1_7 : w1.cell? ⟨w.heap.size, 7, none⟩ = some (.slice X 0 cp) := keep_cell (box0 w 26 #[.int .i64 a, .int .i64 b, .int .i64 c, .int .i64 bo, .int .i64 fr, .int .i64 tr, .int .i64 ag, .slice X 0 cp] 7) hB1
  have z1_0 : w.heap.size < w1.heap.size := cell_lt c1_0
  clear hB1  
  go_wp2_with fail
  refine (pcheck_bad a b c bo fr tr ag X cp [] (by simp) HH.out _ ClsAt.nil).mono ?_
  rintro e w2 ⟨rfl, hB2⟩
  have HB2 : Hid (Below w.heap.size w w2) := below_up HB1.out hB2
  have c2_0 : w2.cell? ⟨w.heap.size, 0, none⟩ = some (.int .i64 a) := keep_cell c1_0 hB2
  have c2_1 : w2.cell? ⟨w.heap.size, 1, none⟩ = some (.int .i64 b) := keep_cell c1_1 hB2
  have c2_2 : w2.cell? ⟨w.heap.size, 2, none⟩ = some (.int .i64 c) := keep_cell c1_2 hB2
  have c2_3 : w2.cell? ⟨w.heap.size, 3, none⟩ = some (.int .i64 bo) := keep_cell c1_3 hB2
  have c2_4 : w2.cell? ⟨w.heap.size, 4, none⟩ = some (.int .i64 fr) := keep_cell c1_4 hB2
  have c2_5 : w2.cell? ⟨w.heap.size, 5, none⟩ = some (.int .i64 tr) := keep_cell c1_5 hB2
  have c2_6 : w2.cell? ⟨w.heap.size, 6, none⟩ = some (.int .i64 ag) := keep_cell c1_6 hB2
  have c2_7 : w2.cell? ⟨w.heap.size, 7, none⟩ = some (.slice X 0 cp) := keep_cell c1_7 hB2
  have z2_0 : w.heap.size < w2.heap.size := cell_lt c2_0
  clear hB2 c1_0 c1_1 c1_2 c1_3 c1_4 c1_5 c1_6 c1_7 z1_0
  go_wp2_with fail
  refine (pcheck_bad a b c bo fr tr ag X cp [] (by simp) HH.out _ ClsAt.nil).mono ?_
  rintro e w3 ⟨rfl, hB3⟩
  have HB3 : Hid (Below w.heap.size w w3) := below_up HB2.out hB3
  have c3_0 : w3.cell? ⟨w.heap.size, 0, none⟩ = some (.int .i64 a) := keep_cell c2_0 hB3
  have c3_1 : w3.cell? ⟨w.heap.size, 1, none⟩ = some (.int .i64 b) := keep_cell c2_1 hB3
  have c3_2 : w3.cell? ⟨w.heap.size, 2, none⟩ = some (.int .i64 c) := keep_cell c2_2 hB3
  have c3_3 : w3.cell? ⟨w.heap.size, 3, none⟩ = some (.int .i64 bo) := keep_cell c2_3 hB3
  have c3_4 : w3.cell? ⟨w.heap.size, 4, none⟩ = some (.int .i64 fr) := keep_cell c2_4 hB3
  have c3_5 : w3.cell? ⟨w.heap.size, 5, none⟩ = some (.int .i64 tr) := keep_cell c2_5 hB3
  have c3_6 : w3.cell? ⟨w.heap.size, 6, none⟩ = some (.int .i64 ag) := keep_cell c2_6 hB3
  have c3_7 : w3.cell? ⟨w.heap.size, 7, none⟩ = some (.slice X 0 cp) := keep_cell c2_7 hB3
  have z3_0 : w.heap.size < w3.heap.size := cell_lt c3_0
  clear hB3 c2_0 c2_1 c2_2 c2_3 c2_4 c2_5 c2_6 c2_7 z2_0
  go_wp2_with fail
  go_ret
  exact ⟨rfl, HB3.out⟩
set_option maxRecDepth 100000 in
set_option maxHeartbeats 2000000 in
theorem few_ok (a b c bo fr tr ag : Int) (X : Option Addr) (cp : Nat) (ks : List Cls) (hl : ks.length ≤ 9223372036854775807) (hn : ks.length ≤ 4) (hn0 : 0 < ks.length) (hcp : ks.length ≤ cp) (hcm : cp ≤ 9223372036854775807) (h : CfgOk a b c bo fr tr ag ks) (w : World) (hk : ClsAt w w.heap.size X ks) :
    Calls Try.prog 3 #[.agg #[.int .i64 a, .int .i64 b, .int .i64 c, .int .i64 bo, .int .i64 fr, .int .i64 tr, .int .i64 ag, .slice X ks.length cp]] w (fun e w' => e = .returned (.bool true) ∧ Below w.heap.size w w') := by
  have hg : ks[0]? = some ks[0] := List.getElem?_eq_getElem hn0
  have hall : clsB ks[0] = true := (List.all_eq_true.1 h.2.2.2.2.2.2) _ (List.getElem_mem hn0)
  generalize ks[0] = k0 at hg hall
  obtain ⟨b_, o, rfl, hb, x0, x1_, x2_, x3_⟩ := hk 0 k0 hg
  have hk1 : ClsAt w w.heap.size (some ⟨b_, o, none⟩) [k0] := fun i k hi => by
    match i, hi with
    | 0, hi => cases hi; exact ⟨b_, o, rfl, hb, x0, x1_, x2_, x3_⟩
    | i + 1, hi => simp at hi
  have hx : CfgOk a b c 1 1 1 1 [k0] := ⟨h.1, by decide, by decide, by decide, by decide, by simp [inB], by simpa using hall⟩
  have hy : ¬ CfgOk a b c 1 1 1 1 [] := fun h => by have := h.2.2.2.2.2.1; revert this; decide
  have HX := Lib.hid hx
  have HY := Lib.hid hy
  have HH := Lib.hid h
  have HKK := Lib.hid hk
  have HK1 := Lib.hid hk1
  have hcp1 : 1 ≤ cp := by omega
  have hck := fun w hk => pcheck_ok a b c bo fr tr ag (some ⟨b_, o, none⟩) cp ks hl h w hk
  obtain ⟨n, hnn⟩ : ∃ n, n = ks.length := ⟨_, rfl⟩
  rw [← hnn] at hn hn0 hcp hl ⊢
  simp only [← hnn] at hck
  have HCK := Lib.hid hck
  have hn1 : ¬ 100 < n := by omega
  have hne : ((n : Int) == 0) = false := by simp; omega
  clear hk hk1 h hx hy hall hg x0 x1_ x2_ x3_ hb hck hnn
  have zv : ∀ w, (zeroValue 26).run Try.prog w = .ok (.agg #[.int .i64 0, .int .i64 0, .int .i64 0, .int .i64 0, .int .i64 0, .int .i64 0, .int .i64 0, .slice none 0 0]) w := fun _ => by kernel_rfl
  go_enter Try.func3, Try.ntmps3
  go_wp2_with fail
  refine (alive_any _).mono ?_
  rintro e w1 ⟨rfl, hB1⟩
  have HB1 : Hid (Below w.heap.size w w1) := below_up (below_alloc (Below.refl _ _)) hB1
  have c1_0 : w1.cell? ⟨w.heap.size, 0, none⟩ = some (.int .i64 a) := keep_cell (box0 w 26 #[.int .i64 a, .int .i64 b, .int .i64 c, .int .i64 bo, .int .i64 fr, .int .i64 tr, .int .i64 ag, .slice (some ⟨b_, o, none⟩) n cp] 0) hB1
  have c1_1 : w1.cell? ⟨w.heap.size, 1, none⟩ = some (.int .i64 b) := keep_cell (box0 w 26 #[.int .i64 a, .int .i64 b, .int .i64 c, .int .i64 bo, .int .i64 fr, .int .i64 tr, .int .i64 ag, .slice (some ⟨b_, o, none⟩) n cp] 1) hB1
  have c1_2 : w1.cell? ⟨w.heap.size, 2, none⟩ = some (.int .i64 c) := keep_cell (box0 w 26 #[.int .i64 a, .int .i64 b, .int .i64 c, .int .i64 bo, .int .i64 fr, .int .i64 tr, .int .i64 ag, .slice (some ⟨b_, o, none⟩) n cp] 2) hB1
  have c1_3 : w1.cell? ⟨w.heap.size, 3, none⟩ = some (.int .i64 bo) := keep_cell (box0 w 26 #[.int .i64 a, .int .i64 b, .int .i64 c, .int .i64 bo, .int .i64 fr, .int .i64 tr, .int .i64 ag, .slice (some ⟨b_, o, none⟩) n cp] 3) hB1
  have c1_4 : w1.cell? ⟨w.heap.size, 4, none⟩ = some (.int .i64 fr) := keep_cell (box0 w 26 #[.int .i64 a, .int .i64 b, .int .i64 c, .int .i64 bo, .int .i64 fr, .int .i64 tr, .int .i64 ag, .slice (some ⟨b_, o, none⟩) n cp] 4) hB1
  have c1_5 : w1.cell? ⟨w.heap.size, 5, none⟩ = some (.int .i64 tr) := keep_cell (box0 w 26 #[.int .i64 a, .int .i64 b, .int .i64 c, .int .i64 bo, .int .i64 fr, .int .i64 tr, .int .i64 ag, .slice (some ⟨b_, o, none⟩) n cp] 5) hB1
  have c1_6 : w1.cell? ⟨w.heap.size, 6, none⟩ = some (.int .i64 ag) := keep_cell (box0 w 26 #[.int .i64 a, .int .i64 b, .int .i64 c, .int .i64 bo, .int .i64 fr, .int .i64 tr, .int .i64 ag, .slice (some ⟨b_, o, none⟩) n cp] 6) hB1
  have c1_7 : w1.cell? ⟨w.heap.size, 7, none⟩ = some (.slice (some ⟨b_, o, none⟩) n cp) := keep_cell (box0 w 26 #[.int .i64 a, .int .i64 b, .int .i64 c, .int .i64 bo, .int .i64 fr, .int .i64 tr, .int .i64 ag, .slice (some ⟨b_, o, none⟩) n cp] 7) hB1
  have z1_0 : w.heap.size < w1.heap.size := cell_lt c1_0
  clear hB1  
  go_wp2_with fail
  refine (HCK.out _ (HKK.out.up HB1.out)).mono ?_
  rintro e w2 ⟨rfl, hB2⟩
  have HB2 : Hid (Below w.heap.size w w2) := below_up HB1.out hB2
  have c2_0 : w2.cell? ⟨w.heap.size, 0, none⟩ = some (.int .i64 a) := keep_cell c1_0 hB2
  have c2_1 : w2.cell? ⟨w.heap.size, 1, none⟩ = some (.int .i64 b) := keep_cell c1_1 hB2
  have c2_2 : w2.cell? ⟨w.heap.size, 2, none⟩ = some (.int .i64 c) := keep_cell c1_2 hB2
  have c2_3 : w2.cell? ⟨w.heap.size, 3, none⟩ = some (.int .i64 bo) := keep_cell c1_3 hB2
  have c2_4 : w2.cell? ⟨w.heap.size, 4, none⟩ = some (.int .i64 fr) := keep_cell c1_4 hB2
  have c2_5 : w2.cell? ⟨w.heap.size, 5, none⟩ = some (.int .i64 tr) := keep_cell c1_5 hB2
  have c2_6 : w2.cell? ⟨w.heap.size, 6, none⟩ = some (.int .i64 ag) := keep_cell c1_6 hB2
  have c2_7 : w2.cell? ⟨w.heap.size, 7, none⟩ = some (.slice (some ⟨b_, o, none⟩) n cp) := keep_cell c1_7 hB2
  have z2_0 : w.heap.size < w2.heap.size := cell_lt c2_0
  clear hB2 c1_0 c1_1 c1_2 c1_3 c1_4 c1_5 c1_6 c1_7 z1_0
  go_wp2_with fail
  refine (pcheck_ok a b c 1 1 1 1 (some ⟨b_, o, none⟩) cp [k0] (by simp) HX.out _ (HK1.out.up (below_alloc (below_alloc HB2.out)))).mono ?_
  rintro e w3 ⟨rfl, hB3⟩
  have HB3 : Hid (Below w.heap.size w w3) := below_up (below_alloc (below_alloc HB2.out)) hB3
  have c3_0 : w3.cell? ⟨w.heap.size, 0, none⟩ = some (.int .i64 a) := keep_cell (cell_over _ (cell_over _ c2_0)) hB3
  have c3_1 : w3.cell? ⟨w.heap.size, 1, none⟩ = some (.int .i64 b) := keep_cell (cell_over _ (cell_over _ c2_1)) hB3
  have c3_2 : w3.cell? ⟨w.heap.size, 2, none⟩ = some (.int .i64 c) := keep_cell (cell_over _ (cell_over _ c2_2)) hB3
  have c3_3 : w3.cell? ⟨w.heap.size, 3, none⟩ = some (.int .i64 bo) := keep_cell (cell_over _ (cell_over _ c2_3)) hB3
  have c3_4 : w3.cell? ⟨w.heap.size, 4, none⟩ = some (.int .i64 fr) := keep_cell (cell_over _ (cell_over _ c2_4)) hB3
  have c3_5 : w3.cell? ⟨w.heap.size, 5, none⟩ = some (.int .i64 tr) := keep_cell (cell_over _ (cell_over _ c2_5)) hB3
  have c3_6 : w3.cell? ⟨w.heap.size, 6, none⟩ = some (.int .i64 ag) := keep_cell (cell_over _ (cell_over _ c2_6)) hB3
  have c3_7 : w3.cell? ⟨w.heap.size, 7, none⟩ = some (.slice (some ⟨b_, o, none⟩) n cp) := keep_cell (cell_over _ (cell_over _ c2_7)) hB3
  have c3_8 : w3.cell? ⟨w2.heap.size, 0, none⟩ = some (.int .i64 a) := keep_cell (cell_over _ (box0 w2 26 #[.int .i64 a, .int .i64 b, .int .i64 c, .int .i64 1, .int .i64 1, .int .i64 1, .int .i64 1, .slice (some ⟨b_, o, none⟩) 1 cp] 0)) hB3
  have c3_9 : w3.cell? ⟨w2.heap.size, 1, none⟩ = some (.int .i64 b) := keep_cell (cell_over _ (box0 w2 26 #[.int .i64 a, .int .i64 b, .int .i64 c, .int .i64 1, .int .i64 1, .int .i64 1, .int .i64 1, .slice (some ⟨b_, o, none⟩) 1 cp] 1)) hB3
  have c3_10 : w3.cell? ⟨w2.heap.size, 2, none⟩ = some (.int .i64 c) := keep_cell (cell_over _ (box0 w2 26 #[.int .i64 a, .int .i64 b, .int .i64 c, .int .i64 1, .int .i64 1, .int .i64 1, .int .i64 1, .slice (some ⟨b_, o, none⟩) 1 cp] 2)) hB3
  have c3_11 : w3.cell? ⟨w2.heap.size, 3, none⟩ = some (.int .i64 1) := keep_cell (cell_over _ (box0 w2 26 #[.int .i64 a, .int .i64 b, .int .i64 c, .int .i64 1, .int .i64 1, .int .i64 1, .int .i64 1, .slice (some ⟨b_, o, none⟩) 1 cp] 3)) hB3
  have c3_12 : w3.cell? ⟨w2.heap.size, 4, none⟩ = some (.int .i64 1) := keep_cell (cell_over _ (box0 w2 26 #[.int .i64 a, .int .i64 b, .int .i64 c, .int .i64 1, .int .i64 1, .int .i64 1, .int .i64 1, .slice (some ⟨b_, o, none⟩) 1 cp] 4)) hB3
  have c3_13 : w3.cell? ⟨w2.heap.size, 5, none⟩ = some (.int .i64 1) := keep_cell (cell_over _ (box0 w2 26 #[.int .i64 a, .int .i64 b, .int .i64 c, .int .i64 1, .int .i64 1, .int .i64 1, .int .i64 1, .slice (some ⟨b_, o, none⟩) 1 cp] 5)) hB3
  have c3_14 : w3.cell? ⟨w2.heap.size, 6, none⟩ = some (.int .i64 1) := keep_cell (cell_over _ (box0 w2 26 #[.int .i64 a, .int .i64 b, .int .i64 c, .int .i64 1, .int .i64 1, .int .i64 1, .int .i64 1, .slice (some ⟨b_, o, none⟩) 1 cp] 6)) hB3
  have c3_15 : w3.cell? ⟨w2.heap.size, 7, none⟩ = some (.slice (some ⟨b_, o, none⟩) 1 cp) := keep_cell (cell_over _ (box0 w2 26 #[.int .i64 a, .int .i64 b, .int .i64 c, .int .i64 1, .int .i64 1, .int .i64 1, .int .i64 1, .slice (some ⟨b_, o, none⟩) 1 cp] 7)) hB3
  have c3_16 : w3.cell? ⟨w2.heap.size + 1, 0, none⟩ = some (.int .i64 a) := keep_cell (box1 w2 26 #[.int .i64 a, .int .i64 b, .int .i64 c, .int .i64 1, .int .i64 1, .int .i64 1, .int .i64 1, .slice none 0 0] 0) hB3
  have c3_17 : w3.cell? ⟨w2.heap.size + 1, 1, none⟩ = some (.int .i64 b) := keep_cell (box1 w2 26 #[.int .i64 a, .int .i64 b, .int .i64 c, .int .i64 1, .int .i64 1, .int .i64 1, .int .i64 1, .slice none 0 0] 1) hB3
  have c3_18 : w3.cell? ⟨w2.heap.size + 1, 2, none⟩ = some (.int .i64 c) := keep_cell (box1 w2 26 #[.int .i64 a, .int .i64 b, .int .i64 c, .int .i64 1, .int .i64 1, .int .i64 1, .int .i64 1, .slice none 0 0] 2) hB3
  have c3_19 : w3.cell? ⟨w2.heap.size + 1, 3, none⟩ = some (.int .i64 1) := keep_cell (box1 w2 26 #[.int .i64 a, .int .i64 b, .int .i64 c, .int .i64 1, .int .i64 1, .int .i64 1, .int .i64 1, .slice none 0 0] 3) hB3
  have c3_20 : w3.cell? ⟨w2.heap.size + 1, 4, none⟩ = some (.int .i64 1) := keep_cell (box1 w2 26 #[.int .i64 a, .int .i64 b, .int .i64 c, .int .i64 1, .int .i64 1, .int .i64 1, .int .i64 1, .slice none 0 0] 4) hB3
  have c3_21 : w3.cell? ⟨w2.heap.size + 1, 5, none⟩ = some (.int .i64 1) := keep_cell (box1 w2 26 #[.int .i64 a, .int .i64 b, .int .i64 c, .int .i64 1, .int .i64 1, .int .i64 1, .int .i64 1, .slice none 0 0] 5) hB3
  have c3_22 : w3.cell? ⟨w2.heap.size + 1, 6, none⟩ = some (.int .i64 1) := keep_cell (box1 w2 26 #[.int .i64 a, .int .i64 b, .int .i64 c, .int .i64 1, .int .i64 1, .int .i64 1, .int .i64 1, .slice none 0 0] 6) hB3
  have c3_23 : w3.cell? ⟨w2.heap.size + 1, 7, none⟩ = some (.slice none 0 0) := keep_cell (box1 w2 26 #[.int .i64 a, .int .i64 b, .int .i64 c, .int .i64 1, .int .i64 1, .int .i64 1, .int .i64 1, .slice none 0 0] 7) hB3
  have z3_0 : w.heap.size < w3.heap.size := cell_lt c3_0
  have z3_1 : w2.heap.size < w3.heap.size := cell_lt c3_8
  have z3_2 : w2.heap.size + 1 < w3.heap.size := cell_lt c3_16
  clear hB3 c2_0 c2_1 c2_2 c2_3 c2_4 c2_5 c2_6 c2_7 z2_0
  go_wp2_with fail
  refine (pcheck_bad a b c 1 1 1 1 none 0 [] (by simp) HY.out _ ClsAt.nil).mono ?_
  rintro e w4 ⟨rfl, hB4⟩
  have HB4 : Hid (Below w.heap.size w w4) := below_up HB3.out hB4
  have c4_0 : w4.cell? ⟨w.heap.size, 0, none⟩ = some (.int .i64 a) := keep_cell c3_0 hB4
  have c4_1 : w4.cell? ⟨w.heap.size, 1, none⟩ = some (.int .i64 b) := keep_cell c3_1 hB4
  have c4_2 : w4.cell? ⟨w.heap.size, 2, none⟩ = some (.int .i64 c) := keep_cell c3_2 hB4
  have c4_3 : w4.cell? ⟨w.heap.size, 3, none⟩ = some (.int .i64 bo) := keep_cell c3_3 hB4
  have c4_4 : w4.cell? ⟨w.heap.size, 4, none⟩ = some (.int .i64 fr) := keep_cell c3_4 hB4
  have c4_5 : w4.cell? ⟨w.heap.size, 5, none⟩ = some (.int .i64 tr) := keep_cell c3_5 hB4
  have c4_6 : w4.cell? ⟨w.heap.size, 6, none⟩ = some (.int .i64 ag) := keep_cell c3_6 hB4
  have c4_7 : w4.cell? ⟨w.heap.size, 7, none⟩ = some (.slice (some ⟨b_, o, none⟩) n cp) := keep_cell c3_7 hB4
  have c4_8 : w4.cell? ⟨w2.heap.size, 0, none⟩ = some (.int .i64 a) := keep_cell c3_8 hB4
  have c4_9 : w4.cell? ⟨w2.heap.size, 1, none⟩ = some (.int .i64 b) := keep_cell c3_9 hB4
  have c4_10 : w4.cell? ⟨w2.heap.size, 2, none⟩ = some (.int .i64 c) := keep_cell c3_10 hB4
  have c4_11 : w4.cell? ⟨w2.heap.size, 3, none⟩ = some (.int .i64 1) := keep_cell c3_11 hB4
  have c4_12 : w4.cell? ⟨w2.heap.size, 4, none⟩ = some (.int .i64 1) := keep_cell c3_12 hB4
  have c4_13 : w4.cell? ⟨w2.heap.size, 5, none⟩ = some (.int .i64 1) := keep_cell c3_13 hB4
  have c4_14 : w4.cell? ⟨w2.heap.size, 6, none⟩ = some (.int .i64 1) := keep_cell c3_14 hB4
  have c4_15 : w4.cell? ⟨w2.heap.size, 7, none⟩ = some (.slice (some ⟨b_, o, none⟩) 1 cp) := keep_cell c3_15 hB4
  have c4_16 : w4.cell? ⟨w2.heap.size + 1, 0, none⟩ = some (.int .i64 a) := keep_cell c3_16 hB4
  have c4_17 : w4.cell? ⟨w2.heap.size + 1, 1, none⟩ = some (.int .i64 b) := keep_cell c3_17 hB4
  have c4_18 : w4.cell? ⟨w2.heap.size + 1, 2, none⟩ = some (.int .i64 c) := keep_cell c3_18 hB4
  have c4_19 : w4.cell? ⟨w2.heap.size + 1, 3, none⟩ = some (.int .i64 1) := keep_cell c3_19 hB4
  have c4_20 : w4.cell? ⟨w2.heap.size + 1, 4, none⟩ = some (.int .i64 1) := keep_cell c3_20 hB4
  have c4_21 : w4.cell? ⟨w2.heap.size + 1, 5, none⟩ = some (.int .i64 1) := keep_cell c3_21 hB4
  have c4_22 : w4.cell? ⟨w2.heap.size + 1, 6, none⟩ = some (.int .i64 1) := keep_cell c3_22 hB4
  have c4_23 : w4.cell? ⟨w2.heap.size + 1, 7, none⟩ = some (.slice none 0 0) := keep_cell c3_23 hB4
  have z4_0 : w.heap.size < w4.heap.size := cell_lt c4_0
  have z4_1 : w2.heap.size < w4.heap.size := cell_lt c4_8
  have z4_2 : w2.heap.size + 1 < w4.heap.size := cell_lt c4_16
  clear hB4 c3_0 c3_1 c3_2 c3_3 c3_4 c3_5 c3_6 c3_7 c3_8 c3_9 c3_10 c3_11 c3_12 c3_13 c3_14 c3_15 c3_16 c3_17 c3_18 c3_19 c3_20 c3_21 c3_22 c3_23 z3_0 z3_1 z3_2
  go_wp2_with fail
  go_ret
  exact ⟨rfl, HB4.out⟩
theorem fewLaw (w : World) (a b c bo fr tr ag : Int) (X : Option Addr) (cp : Nat) (ks : List Cls) (hcp : ks.length ≤ cp) (hcm : cp ≤ maxLen) (hk : ClsAt w w.heap.size X ks) :
    Calls Try.prog 3 #[.agg #[.int .i64 a, .int .i64 b, .int .i64 c, .int .i64 bo, .int .i64 fr, .int .i64 tr, .int .i64 ag, .slice X ks.length cp]] w fun e w' => e = .returned (.bool true) ∧ Below w.heap.size w w' := by
  unfold maxLen at hcm
  by_cases hn : 100 < ks.length
  · exact few_many a b c bo fr tr ag X cp ks (by omega) hn w hk
  · have hl : ks.length ≤ 9223372036854775807 := by omega
    by_cases h0 : 0 < ks.length
    · by_cases h : CfgOk a b c bo fr tr ag ks
      · have h4 := inB_true h.2.2.2.2.2.1
        exact few_ok a b c bo fr tr ag X cp ks hl (by omega) h0 hcp (by omega) h w hk
      · exact few_bad a b c bo fr tr ag X cp ks hl hn h0 h w hk
    · obtain rfl : ks = [] := List.eq_nil_of_length_eq_zero (by omega)
      exact few_none a b c bo fr tr ag X cp (fun h => by have := h.2.2.2.2.2.1; revert this; decide) w
end Go.Proofs.Ytfndopemfhmhgaa.PartFew
