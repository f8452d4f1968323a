/- bytes.Clone, bytes.Equal, log.Check, log.Twin, log.Same. -/
import Derived.BigQuiet
import Derived.Deep.QuietTactic
import Derived.Lib.SliceRun
import Derived.Lib.OwnBridge
import Derived.Test.YtfdldbfjeamlcaaLogMath
import Derived.Test.YtfdldbfjeamlcaaSeqKit
namespace Go.Proofs.Ytfdldbfjeamlcaa.LogProg
open Go.RowKit Mem LogMath
set_option linter.unusedVariables false
set_option linter.unusedSimpArgs false

theorem byte_info : (Try.prog.info? 5).map (fun i => (i.zero, i.size, i.bytes)) = some (some (.int .u8 0), 1, 1) := by kernel_rfl
theorem one_cells (t : List Int) : ∀ u ∈ t.map (Value.int .u8), u.oneCell' = true := fun u hu => by
  obtain ⟨n, _, rfl⟩ := List.mem_map.1 hu
  rfl
set_option maxRecDepth 100000 in
set_option maxHeartbeats 4000000 in
/-- bytes.Clone. -/
theorem bclone (X : Option Addr) (cap : Nat) (t : List Int) (hl : t.length ≤ 140737488355328) (w : World) (hX : TAt w X t) :
    Calls Try.prog 64 #[.slice X t.length cap] w fun e w' => ∃ X' c', e = .returned (.slice X' t.length c') ∧ TOwn w' w.heap.size (.slice X' t.length c') t ∧ Below w.heap.size w w' := by
  have u : ∀ w, Sem.run Try.prog (underlying 37) w = .ok (TypeDesc.slice 5) w := run_underlying Try.underlying37
  have q : ∀ (w : World) (a : Option Addr) (n c n' c' : Nat), (binOp .eql 37 (.slice a n c) (.slice none n' c')).run Try.prog w = .ok (.bool a.isNone) w := fun w a n c n' c' => Lib.run_eql_slice_nil w _ _ a n c n' c' Try.underlying37
  cases X with
  | none =>
    obtain rfl : t = [] := by
      cases t with
      | nil => rfl
      | cons x t =>
        obtain ⟨_, _, h, _⟩ := hX 0 x rfl
        cases h
    clear hX
    go_enter Try.func64, Try.ntmps64
    go_wp2_with fail
    go_ret
    exact ⟨none, 0, rfl, World.ownsRow_nil _ _ _ _, Below.refl _ _⟩
  | some a =>
    have hr := hX.reads
    obtain ⟨i0, hi0, hz0, hz1, hz2⟩ := info_parts byte_info
    have HR := Lib.hid (And.intro (hr.alloc (Nat.le_refl _) (.cells #[] 5)) (And.intro (one_cells t) (And.intro hi0 (And.intro hz0 (And.intro hz1 hz2)))))
    clear hr hi0 hz0 hz1 hz2 hX
    go_enter Try.func64, Try.ntmps64
    go_wp2_with (at_builtin; refine wpList_append_any _ rfl (.tmp 5) (.tmp 6) _ rfl w.heap.size 5 i0 (.int .u8 0) 1 1 Try.underlying37 HR.out.2.2.1 HR.out.2.2.2.1 HR.out.2.2.2.2.1 HR.out.2.2.2.2.2 rfl (by decide) _ _ _ rfl (World.ownsRow_made w #[] 0 (Nat.le_refl _) (Nat.zero_le _) (by simp)) w.heap.size (some a) t.length cap (t.map (Value.int .u8)) rfl HR.out.1 HR.out.2.1 (by simp only [maxLen]; omega) (by omega) (by simp) ?_; intro v1 w1 hown hg hat; have HO := Lib.hid (And.intro hown hg); clear hown hg hat)
    go_ret
    have hB1 : Below w.heap.size w w1 := (below_alloc (Below.refl _ w)).grown HO.out.2 (by simp) (by intro k hk; cases hk; exact Nat.le_refl _)
    have ho : w1.ownsRow w.heap.size 5 1 v1 t.length (t.map (Value.int .u8)) := by have := HO.out.1; simpa using this
    have hx : ∃ Y c, v1 = .slice Y t.length c := by
      rcases ho.2 with ⟨rfl, e0⟩ | ⟨g, cap', cur, rfl, _⟩
      · exact ⟨none, 0, by rw [e0]⟩
      · exact ⟨_, cap', rfl⟩
    obtain ⟨Y, c, rfl⟩ := hx
    exact ⟨Y, c, rfl, ho, hB1⟩
set_option maxHeartbeats 2000000 in
/-- bytes.Equal. -/
theorem bequal (X : Option Addr) (ca : Nat) (t : List Int) (Y : Option Addr) (cb : Nat) (u : List Int) (w : World) (hX : TAt w X t) (hY : TAt w Y u) :
    Calls Try.prog 65 #[.slice X t.length ca, .slice Y u.length cb] w fun e w' => e = .returned (.bool ((strOf t).toList == (strOf u).toList)) ∧ w' = w := by
  have k1 := run_strOf (c := ca) hX.reads
  have k2 := run_strOf (c := cb) hY.reads
  clear hX hY
  go_enter Try.func65, Try.ntmps65
  go_wp2_with fail
  go_ret
  exact ⟨rfl, rfl⟩
theorem check_ok {x y : AV} (h : mayL ⟨x, y⟩ = true) : checkL ⟨x, y⟩ = 0 := by unfold checkL; rw [h]; rfl
theorem check_bad {x y : AV} (h : mayL ⟨x, y⟩ = false) : checkL ⟨x, y⟩ = 8 := by unfold checkL; rw [h]; rfl
theorem mayL_a {x y : AV} (h : mayA x = false) : mayL ⟨x, y⟩ = false := by unfold mayL; rw [h]; rfl
theorem mayL_b {x y : AV} (h : mayA y = false) : mayL ⟨x, y⟩ = false := by unfold mayL; rw [h]; simp
theorem mayL_ok {x y : AV} (h : mayA x = true) (h2 : mayA y = true) : mayL ⟨x, y⟩ = true := by unfold mayL; rw [h, h2]; rfl
theorem mayA_1 {x : AV} (h : (262144 : Int) < x.t.length) : mayA x = false := by unfold mayA; rw [decide_eq_false (by omega)]; rfl
theorem mayA_2 {x : AV} (h : x.k < 0) : mayA x = false := by unfold mayA; rw [decide_eq_false (show ¬ 0 ≤ x.k by omega)]; simp
theorem mayA_3 {x : AV} (h : (x.t.length : Int) < x.k) : mayA x = false := by unfold mayA; rw [decide_eq_false (show ¬ x.k ≤ (x.t.length : Int) by omega)]; simp
theorem mayA_4 {x : AV} (h1 : ¬ (262144 : Int) < x.t.length) (h2 : ¬ x.k < 0) (h3 : ¬ (x.t.length : Int) < x.k) : mayA x = true := by unfold mayA; rw [decide_eq_true (by omega), decide_eq_true (by omega), decide_eq_true (by omega)]; rfl
set_option maxRecDepth 100000 in
set_option maxHeartbeats 4000000 in
/-- log.Check. -/
theorem lCheck (x y : AV) (X : Option Addr) (ca : Nat) (Y : Option Addr) (cb : Nat) (w : World) :
    Calls Try.prog 33 #[.agg #[.slice X x.t.length ca, .int .i64 x.k, .slice Y y.t.length cb, .int .i64 y.k]] w fun e w' => e = .returned (.int .i64 (checkL ⟨x, y⟩)) ∧ Below w.heap.size w w' := by
  have i0 : ∀ w, (Instr.index 68 (.agg #[.slice X x.t.length ca, .int .i64 x.k, .slice Y y.t.length cb, .int .i64 y.k]) (.int .i64 0)).run Try.prog w = .ok (.agg #[.slice X x.t.length ca, .int .i64 x.k]) w := fun _ => by kernel_rfl
  have i1 : ∀ w, (Instr.index 68 (.agg #[.slice X x.t.length ca, .int .i64 x.k, .slice Y y.t.length cb, .int .i64 y.k]) (.int .i64 1)).run Try.prog w = .ok (.agg #[.slice Y y.t.length cb, .int .i64 y.k]) w := fun _ => by kernel_rfl
  go_enter Try.func33, Try.ntmps33
  go_wp2_with fail
  go_loopw [4, 7] (fun v i wr => ∃ k : Nat, k ≤ 2 ∧ i = .int .i64 k ∧ Hid ((0 < k → mayA x = true) ∧ (1 < k → mayA y = true)) ∧ Hid (Below w.heap.size w wr))
    (fun _ i _ => 2 - (intOf i).toNat)
  case atStart => exact ⟨0, by omega, rfl, ⟨(fun h => by omega), (fun h => by omega)⟩, below_alloc (Below.refl _ _)⟩
  case round =>
    obtain ⟨k, hk, rfl, hp, hB⟩ := hrel
    match k, hk with
    | 0, _ =>
      by_cases h1 : (262144 : Int) < x.t.length
      · go_wp2_with fail
        go_ret
        exact ⟨by rw [check_bad (mayL_a (mayA_1 h1))]; rfl, below_alloc hB.out⟩
      · by_cases h2 : x.k < 0
        · go_wp2_with fail
          go_ret
          exact ⟨by rw [check_bad (mayL_a (mayA_2 h2))]; rfl, below_alloc hB.out⟩
        · by_cases h3 : (x.t.length : Int) < x.k
          · go_wp2_with fail
            go_ret
            exact ⟨by rw [check_bad (mayL_a (mayA_3 h3))]; rfl, below_alloc hB.out⟩
          · go_wp2_with fail
            go_roundw
            case rel => exact ⟨1, by omega, rfl, ⟨(fun _ => mayA_4 h1 h2 h3), (fun h => by omega)⟩, below_alloc hB.out⟩
            case measure => simp [intOf]
    | 1, _ =>
      by_cases h1 : (262144 : Int) < y.t.length
      · go_wp2_with fail
        go_ret
        exact ⟨by rw [check_bad (mayL_b (mayA_1 h1))]; rfl, below_alloc hB.out⟩
      · by_cases h2 : y.k < 0
        · go_wp2_with fail
          go_ret
          exact ⟨by rw [check_bad (mayL_b (mayA_2 h2))]; rfl, below_alloc hB.out⟩
        · by_cases h3 : (y.t.length : Int) < y.k
          · go_wp2_with fail
            go_ret
            exact ⟨by rw [check_bad (mayL_b (mayA_3 h3))]; rfl, below_alloc hB.out⟩
          · go_wp2_with fail
            go_roundw
            case rel => exact ⟨2, by omega, rfl, ⟨(fun _ => hp.out.1 (by omega)), (fun _ => mayA_4 h1 h2 h3)⟩, below_alloc hB.out⟩
            case measure => simp [intOf]
    | 2, _ =>
      go_wp2_with fail
      go_ret
      exact ⟨by rw [check_ok (mayL_ok (hp.out.1 (by omega)) (hp.out.2 (by omega)))]; rfl, hB.out⟩
/-- Two areas are the same. -/
def sameA (x y : AV) : Bool := (x.k == y.k) && ((strOf x.t).toList == (strOf y.t).toList)
def sameL (l m : LV) : Bool := sameA l.a m.a && sameA l.b m.b
theorem sameA_self (x : AV) : sameA x x = true := by unfold sameA; simp
theorem sameL_self (l : LV) : sameL l l = true := by unfold sameL; rw [sameA_self, sameA_self]; rfl
set_option maxRecDepth 100000 in
set_option maxHeartbeats 4000000 in
/-- log.Same. -/
theorem lSame (x y : AV) (X : Option Addr) (ca : Nat) (Y : Option Addr) (cb : Nat) (x' y' : AV) (X' : Option Addr) (ca' : Nat) (Y' : Option Addr) (cb' : Nat) (w : World) (hX : TAt w X x.t) (hY : TAt w Y y.t) (hX' : TAt w X' x'.t) (hY' : TAt w Y' y'.t) :
    Calls Try.prog 36 #[.agg #[.slice X x.t.length ca, .int .i64 x.k, .slice Y y.t.length cb, .int .i64 y.k], .agg #[.slice X' x'.t.length ca', .int .i64 x'.k, .slice Y' y'.t.length cb', .int .i64 y'.k]] w fun e w' => e = .returned (.bool (sameL ⟨x, y⟩ ⟨x', y'⟩)) ∧ Below w.heap.size w w' := by
  have i0 : ∀ w, (Instr.index 68 (.agg #[.slice X x.t.length ca, .int .i64 x.k, .slice Y y.t.length cb, .int .i64 y.k]) (.int .i64 0)).run Try.prog w = .ok (.agg #[.slice X x.t.length ca, .int .i64 x.k]) w := fun _ => by kernel_rfl
  have i1 : ∀ w, (Instr.index 68 (.agg #[.slice X x.t.length ca, .int .i64 x.k, .slice Y y.t.length cb, .int .i64 y.k]) (.int .i64 1)).run Try.prog w = .ok (.agg #[.slice Y y.t.length cb, .int .i64 y.k]) w := fun _ => by kernel_rfl
  have HX := Lib.hid (And.intro (And.intro hX hY) (And.intro hX' hY'))
  clear hX hY hX' hY'
  go_enter Try.func36, Try.ntmps36
  go_wp2_with fail
  go_loopw [5, 6, 7, 10] (fun _ _ _ i wr => ∃ k : Nat, k ≤ 2 ∧ i = .int .i64 k ∧ Hid ((0 < k → sameA x x' = true) ∧ (1 < k → sameA y y' = true)) ∧ Hid (Below w.heap.size w wr) ∧ wr.cell? ⟨w.heap.size + 1, 0, none⟩ = some (.slice X' x'.t.length ca') ∧ wr.cell? ⟨w.heap.size + 1, 1, none⟩ = some (.int .i64 x'.k) ∧ wr.cell? ⟨w.heap.size + 1, 2, none⟩ = some (.slice Y' y'.t.length cb') ∧ wr.cell? ⟨w.heap.size + 1, 3, none⟩ = some (.int .i64 y'.k))
    (fun _ _ _ i _ => 2 - (intOf i).toNat)
  case atStart => exact ⟨0, by omega, rfl, ⟨(fun h => by omega), (fun h => by omega)⟩, below_alloc (below_alloc (Below.refl _ _)), box1 _ _ _ 0, box1 _ _ _ 1, box1 _ _ _ 2, box1 _ _ _ 3⟩
  case round =>
    obtain ⟨k, hk, rfl, hp, hB, y0, y1, y2, y3⟩ := hrel
    have hs0 : w.heap.size + 1 < wr.heap.size := cell_lt y0
    match k, hk with
    | 0, _ =>
      by_cases h1 : x.k = x'.k
      · have e1 : (x.k != x'.k) = false := by simpa using h1
        have H1 := Lib.hid h1
        clear h1
        go_wp2_with fail
        refine (bequal _ _ x.t _ _ x'.t _ ((HX.out.1.1.up hB.out).up (below_alloc (below_alloc (Below.refl _ _)))) ((HX.out.2.1.up hB.out).up (below_alloc (below_alloc (Below.refl _ _))))).mono ?_
        rintro e w' ⟨rfl, rfl⟩
        cases h2 : ((strOf x.t).toList == (strOf x'.t).toList)
        · go_wp2_with fail
          go_ret
          exact ⟨by rw [show sameL ⟨x, y⟩ ⟨x', y'⟩ = false from by unfold sameL; rw [show sameA x x' = false from by unfold sameA; rw [h2]; simp]; rfl]; rfl, below_alloc (below_alloc hB.out)⟩
        · go_wp2_with fail
          go_roundw
          case rel => exact ⟨1, by omega, rfl, ⟨(fun _ => by unfold sameA; rw [h2, H1.out]; simp), (fun h => by omega)⟩, below_alloc (below_alloc hB.out), cell_over _ (cell_over _ y0), cell_over _ (cell_over _ y1), cell_over _ (cell_over _ y2), cell_over _ (cell_over _ y3)⟩
          case measure => simp [intOf]
      · have e1 : (x.k != x'.k) = true := by simpa using h1
        have H1 := Lib.hid h1
        clear h1
        go_wp2_with fail
        go_ret
        exact ⟨by rw [show sameL ⟨x, y⟩ ⟨x', y'⟩ = false from by unfold sameL; rw [show sameA x x' = false from by unfold sameA; rw [show (x.k == x'.k) = false from by simpa using H1.out]; rfl]; rfl]; rfl, below_alloc (below_alloc hB.out)⟩
    | 1, _ =>
      by_cases h1 : y.k = y'.k
      · have e1 : (y.k != y'.k) = false := by simpa using h1
        have H1 := Lib.hid h1
        clear h1
        go_wp2_with fail
        refine (bequal _ _ y.t _ _ y'.t _ ((HX.out.1.2.up hB.out).up (below_alloc (below_alloc (Below.refl _ _)))) ((HX.out.2.2.up hB.out).up (below_alloc (below_alloc (Below.refl _ _))))).mono ?_
        rintro e w' ⟨rfl, rfl⟩
        cases h2 : ((strOf y.t).toList == (strOf y'.t).toList)
        · go_wp2_with fail
          go_ret
          exact ⟨by rw [show sameL ⟨x, y⟩ ⟨x', y'⟩ = false from by unfold sameL; rw [show sameA y y' = false from by unfold sameA; rw [h2]; simp]; simp]; rfl, below_alloc (below_alloc hB.out)⟩
        · go_wp2_with fail
          go_roundw
          case rel => exact ⟨2, by omega, rfl, ⟨(fun _ => hp.out.1 (by omega)), (fun _ => by unfold sameA; rw [h2, H1.out]; simp)⟩, below_alloc (below_alloc hB.out), cell_over _ (cell_over _ y0), cell_over _ (cell_over _ y1), cell_over _ (cell_over _ y2), cell_over _ (cell_over _ y3)⟩
          case measure => simp [intOf]
      · have e1 : (y.k != y'.k) = true := by simpa using h1
        have H1 := Lib.hid h1
        clear h1
        go_wp2_with fail
        go_ret
        exact ⟨by rw [show sameL ⟨x, y⟩ ⟨x', y'⟩ = false from by unfold sameL; rw [show sameA y y' = false from by unfold sameA; rw [show (y.k == y'.k) = false from by simpa using H1.out]; rfl]; simp]; rfl, below_alloc (below_alloc hB.out)⟩
    | 2, _ =>
      go_wp2_with fail
      go_ret
      exact ⟨by rw [show sameL ⟨x, y⟩ ⟨x', y'⟩ = true from by unfold sameL; rw [hp.out.1 (by omega), hp.out.2 (by omega)]; rfl]; rfl, hB.out⟩
/-- What Twin's box holds before its round k. -/
def TwRel (x y : AV) (X : Option Addr) (ca : Nat) (Y : Option Addr) (cb : Nat) (B g : Nat) (k : Nat) (w : World) : Prop :=
  (k = 0 ∧ Blk w g 70 #[.slice X x.t.length ca, .int .i64 x.k, .slice Y y.t.length cb, .int .i64 y.k]) ∨
  (k = 1 ∧ ∃ X' ca', TOwn w B (.slice X' x.t.length ca') x.t ∧ Blk w g 70 #[.slice X' x.t.length ca', .int .i64 x.k, .slice Y y.t.length cb, .int .i64 y.k]) ∨
  (k = 2 ∧ ∃ X' ca' Y' cb', TOwn w B (.slice X' x.t.length ca') x.t ∧ TOwn w B (.slice Y' y.t.length cb') y.t ∧ (∀ b, (Value.slice X' x.t.length ca').ownBlock = some b → (Value.slice Y' y.t.length cb').ownBlock ≠ some b) ∧ Blk w g 70 #[.slice X' x.t.length ca', .int .i64 x.k, .slice Y' y.t.length cb', .int .i64 y.k])
set_option maxRecDepth 100000 in
set_option maxHeartbeats 4000000 in
/-- log.Twin: a log's copy, in memory of its own. -/
theorem lTwin (x y : AV) (X : Option Addr) (ca : Nat) (Y : Option Addr) (cb : Nat) (hx : x.t.length ≤ 140737488355328) (hy : y.t.length ≤ 140737488355328) (w : World) (hX : TAt w X x.t) (hY : TAt w Y y.t) :
    Calls Try.prog 32 #[.agg #[.slice X x.t.length ca, .int .i64 x.k, .slice Y y.t.length cb, .int .i64 y.k]] w fun e w' => ∃ X' ca' Y' cb', e = .returned (.agg #[.slice X' x.t.length ca', .int .i64 x.k, .slice Y' y.t.length cb', .int .i64 y.k]) ∧ TOwn w' (w.heap.size) (.slice X' x.t.length ca') x.t ∧ TOwn w' (w.heap.size) (.slice Y' y.t.length cb') y.t ∧
      (∀ b, (Value.slice X' x.t.length ca').ownBlock = some b → (Value.slice Y' y.t.length cb').ownBlock ≠ some b) ∧ Below w.heap.size w w' := by
  have HX := Lib.hid (And.intro hX hY)
  clear hX hY
  go_enter Try.func32, Try.ntmps32
  go_wp2_with fail
  go_loopw [3, 4] (fun _ i wr => ∃ k : Nat, k ≤ 2 ∧ i = .int .i64 k ∧ Hid (TwRel x y X ca Y cb (w.heap.size + 1 + 1) w.heap.size k wr) ∧ Hid (Below w.heap.size w wr) ∧ Hid (Blk wr (w.heap.size + 1) 70 #[.slice none 0 0, .int .i64 0, .slice none 0 0, .int .i64 0]) ∧ w.heap.size + 1 < wr.heap.size)
    (fun _ i _ => 2 - (intOf i).toNat)
  case atStart => exact ⟨0, by omega, rfl, .inl ⟨rfl, (Blk.new _ _ _).alloc _⟩, below_alloc (below_alloc (Below.refl _ _)), blk1 _ _ _, by simp⟩
  case round =>
    obtain ⟨k, hk, rfl, hR, hB, yr, hsz⟩ := hrel
    have HRR := yr
    clear yr
    rcases hR.out with ⟨rfl, hK⟩ | ⟨rfl, X', ca', hO, hK⟩ | ⟨rfl, X', ca', Y', cb', hO, hO2, hne, hK⟩
    · have HK := Lib.hid hK
      have y0 : wr.cell? ⟨w.heap.size, 0, none⟩ = some (.slice X x.t.length ca) := HK.out.cell 0
      have y1 : wr.cell? ⟨w.heap.size, 1, none⟩ = some (.int .i64 x.k) := HK.out.cell 1
      have y2 : wr.cell? ⟨w.heap.size, 2, none⟩ = some (.slice Y y.t.length cb) := HK.out.cell 2
      have y3 : wr.cell? ⟨w.heap.size, 3, none⟩ = some (.int .i64 y.k) := HK.out.cell 3
      have hs0 : w.heap.size < wr.heap.size := cell_lt y0
      have HC := Lib.hid (bclone X ca x.t hx wr (HX.out.1.up hB.out))
      clear hK hR
      go_wp2_with fail
      refine HC.out.mono ?_
      rintro e w2 ⟨X', ca', rfl, hO2, hB2⟩
      have hK2 := HK.out.below hB2 HK.out.lt
      have z0 := hK2.cell 0
      have fz := hK2.frozen 0
      simp only [List.getElem?_toArray, List.getElem?_cons_zero, List.getElem?_cons_succ] at z0
      have H2 := Lib.hid (And.intro hO2 (And.intro hB2 hK2))
      clear hO2 hB2 hK2 y0 y1 y2 y3 HC
      go_wp2_with fail
      go_roundw
      case measure => simp [intOf]
      have hK3 : Blk (w2.setCell ⟨w.heap.size, 0, none⟩ (.slice X' x.t.length ca')) w.heap.size 70 #[.slice X' x.t.length ca', .int .i64 x.k, .slice Y y.t.length cb, .int .i64 y.k] := H2.out.2.2.set_ 0 _
      have hO3 := Go.RowKit.ownsRow_setCell_below H2.out.1 (a := ⟨w.heap.size, 0, none⟩) (by show w.heap.size < wr.heap.size; omega) (.slice X' x.t.length ca')
      have hB3 := (below_up hB.out H2.out.2.1).setCell (p := ⟨w.heap.size, 0, none⟩) (Nat.le_refl _) (.slice X' x.t.length ca')
      have hr3 := (HRR.out.below H2.out.2.1 HRR.out.lt).far (p := ⟨w.heap.size, 0, none⟩) (by simp) (.slice X' x.t.length ca')
      exact ⟨1, by omega, rfl, .inr (.inl ⟨rfl, X', ca', ownsRow_less hO3 (by omega), hK3⟩), hB3, hr3, by have := H2.out.2.1.size; simp; omega⟩
    · have HO := Lib.hid hO
      clear hO
      have HK := Lib.hid hK
      have y0 : wr.cell? ⟨w.heap.size, 0, none⟩ = some (.slice X' x.t.length ca') := HK.out.cell 0
      have y1 : wr.cell? ⟨w.heap.size, 1, none⟩ = some (.int .i64 x.k) := HK.out.cell 1
      have y2 : wr.cell? ⟨w.heap.size, 2, none⟩ = some (.slice Y y.t.length cb) := HK.out.cell 2
      have y3 : wr.cell? ⟨w.heap.size, 3, none⟩ = some (.int .i64 y.k) := HK.out.cell 3
      have hs0 : w.heap.size < wr.heap.size := cell_lt y0
      have HC := Lib.hid (bclone Y cb y.t hy wr (HX.out.2.up hB.out))
      clear hK hR
      go_wp2_with fail
      refine HC.out.mono ?_
      rintro e w2 ⟨Y', cb', rfl, hO2, hB2⟩
      have hK2 := HK.out.below hB2 HK.out.lt
      have z2 := hK2.cell 2
      have fz := hK2.frozen 2
      simp only [List.getElem?_toArray, List.getElem?_cons_zero, List.getElem?_cons_succ] at z2
      have H2 := Lib.hid (And.intro hO2 (And.intro hB2 hK2))
      clear hO2 hB2 hK2 y0 y1 y2 y3 HC
      go_wp2_with fail
      go_roundw
      case measure => simp [intOf]
      have hK3 : Blk (w2.setCell ⟨w.heap.size, 2, none⟩ (.slice Y' y.t.length cb')) w.heap.size 70 #[.slice X' x.t.length ca', .int .i64 x.k, .slice Y' y.t.length cb', .int .i64 y.k] := H2.out.2.2.set_ 2 _
      have hO3 := Go.RowKit.ownsRow_setCell_below H2.out.1 (a := ⟨w.heap.size, 2, none⟩) (by show w.heap.size < wr.heap.size; omega) (.slice Y' y.t.length cb')
      have hB3 := (below_up hB.out H2.out.2.1).setCell (p := ⟨w.heap.size, 2, none⟩) (Nat.le_refl _) (.slice Y' y.t.length cb')
      have hr3 := (HRR.out.below H2.out.2.1 HRR.out.lt).far (p := ⟨w.heap.size, 2, none⟩) (by simp) (.slice Y' y.t.length cb')
      have hO4 := Go.RowKit.ownsRow_setCell_below (ownsRow_up HO.out H2.out.2.1) (a := ⟨w.heap.size, 2, none⟩) (by show w.heap.size < w.heap.size + 1 + 1; omega) (.slice Y' y.t.length cb')
      exact ⟨2, by omega, rfl, .inr (.inr ⟨rfl, X', ca', Y', cb', ownsRow_less hO4 (by omega), ownsRow_less hO3 (by omega), (fun b h1 h2 => by have q1 := HO.out.lt b h1; have q2 := hO3.lt b h2; omega), hK3⟩), hB3, hr3, by have := H2.out.2.1.size; simp; omega⟩
    · have HK := Lib.hid hK
      have y0 : wr.cell? ⟨w.heap.size, 0, none⟩ = some (.slice X' x.t.length ca') := HK.out.cell 0
      have y1 : wr.cell? ⟨w.heap.size, 1, none⟩ = some (.int .i64 x.k) := HK.out.cell 1
      have y2 : wr.cell? ⟨w.heap.size, 2, none⟩ = some (.slice Y' y.t.length cb') := HK.out.cell 2
      have y3 : wr.cell? ⟨w.heap.size, 3, none⟩ = some (.int .i64 y.k) := HK.out.cell 3
      have HO := Lib.hid (And.intro hO (And.intro hO2 hne))
      have hs0 : w.heap.size < wr.heap.size := cell_lt y0
      clear hK hR hO hO2 hne
      have yb := HRR.out
      have yr0 := yb.cell 0
      have yr1 := yb.cell 1
      have yr2 := yb.cell 2
      have yr3 := yb.cell 3
      have yf0 := yb.frozen 0
      have yf1 := yb.frozen 1
      have yf2 := yb.frozen 2
      have yf3 := yb.frozen 3
      simp only [List.getElem?_toArray, List.getElem?_cons_zero, List.getElem?_cons_succ] at yr0 yr1 yr2 yr3
      clear yb
      go_wp2_with fail
      have hK4 := W4.blk HRR.out (.slice X' x.t.length ca') (.int .i64 x.k) (.slice Y' y.t.length cb') (.int .i64 y.k)
      have hB4 := W4.below (g := w.heap.size + 1) hB.out (by omega) (.slice X' x.t.length ca') (.int .i64 x.k) (.slice Y' y.t.length cb') (.int .i64 y.k)
      have hO4 := W4.own (g := w.heap.size + 1) HO.out.1 (own_ne HO.out.1 (by omega)) (.slice X' x.t.length ca') (.int .i64 x.k) (.slice Y' y.t.length cb') (.int .i64 y.k)
      have hP4 := W4.own (g := w.heap.size + 1) HO.out.2.1 (own_ne HO.out.2.1 (by omega)) (.slice X' x.t.length ca') (.int .i64 x.k) (.slice Y' y.t.length cb') (.int .i64 y.k)
      have hN4 := HO.out.2.2
      rw [show ((((wr.setCell ⟨w.heap.size + 1, 0, none⟩ (.slice X' x.t.length ca')).setCell ⟨w.heap.size + 1, 1, none⟩ (.int .i64 x.k)).setCell ⟨w.heap.size + 1, 2, none⟩ (.slice Y' y.t.length cb')).setCell ⟨w.heap.size + 1, 3, none⟩ (.int .i64 y.k)) = W4 wr (w.heap.size + 1) (.slice X' x.t.length ca') (.int .i64 x.k) (.slice Y' y.t.length cb') (.int .i64 y.k) from rfl]
      generalize W4 wr (w.heap.size + 1) (.slice X' x.t.length ca') (.int .i64 x.k) (.slice Y' y.t.length cb') (.int .i64 y.k) = w4 at *
      clear HRR hB HX HK HO yr0 yr1 yr2 yr3 yf0 yf1 yf2 yf3 y0 y1 y2 y3
      have c0 := hK4.cell 0
      have c1 := hK4.cell 1
      have c2 := hK4.cell 2
      have c3 := hK4.cell 3
      simp only [List.getElem?_toArray, List.getElem?_cons_zero, List.getElem?_cons_succ] at c0 c1 c2 c3
      exact bodyPost_ret (v := .agg #[.slice X' x.t.length ca', .int .i64 x.k, .slice Y' y.t.length cb', .int .i64 y.k]) (by simp [results, Try.results32, go_sem, c0, c1, c2, c3]) rfl ⟨X', ca', Y', cb', rfl, ownsRow_less hO4 (by omega), ownsRow_less hP4 (by omega), hN4, hB4⟩
end Go.Proofs.Ytfdldbfjeamlcaa.LogProg
