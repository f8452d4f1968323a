/- Several texts joined: Layer 29's first examples. No conditions. -/
import Derived.BigQuiet
import Derived.Deep.QuietTactic
import Derived.Deep.DeepCutAuto
import Derived.Deep.RegionLaw
import Derived.Laws.Rows
import Derived.Test.YtfdldbfjeamlcaaL15
import Derived.Test.YtfdldbfjeamlcaaL16
import Derived.Lib.SliceRun
import Derived.Lib.OwnBridge
import Derived.Test.YtfdldbfjeamlcaaG4
import Derived.Sort.QuietIn
import Derived.StillTailTactics
import Derived.RangeFuncCalls
import Derived.Test.YtfdldbfjeamlcaaRows
import Derived.Maps.Own
import Derived.Maps.OwnOps
import Derived.Maps.OwnSet
import Derived.ChangeMaps4
import Derived.Deep.RegionHeld3
import Derived.Deep.RegionWith
import Derived.Lib.QuietBelow
import Derived.IntWalk
import Derived.ProofKit
/-! Layer 29's first examples. No conditions. -/
namespace Go.Proofs.Ytfdldbfjeamlcaa.LogAlive
open Go.RowKit MarkMath Mem RecMem RecByte RecNum RecEach RecMath RecPort RecCommand RecCod RecVal RecSame RecRd RecRL0 RecWr0 RecRecC RecWOk RecOwn RecCmdJ RecRead RecAll RecAlive2 LogFour LogJoin LogWrap LogFrm LogAllV LogPlain
set_option linter.unusedVariables false
set_option linter.unusedSimpArgs false

abbrev rT : RV := ⟨0, SV.z, cTick⟩
theorem rT_bytes : recB rT = [0, 0, 0, 0, 0, 0, 0, 0, 7, 5, 0, 0, 0, 0, 0, 0, 0] := by rw [recB_cmd rfl]; exact tick_bytes
theorem rT_ok : okR rT := okR_of tick_wf (by decide) (by decide) (by decide)
theorem rT_mk : mk 0 [0, 0, 0, 0, 0, 0, 0, 0, 7, 5, 0, 0, 0, 0, 0, 0, 0] = 2469451442 := by decide +kernel
theorem rT_frame : wrapB rT = [17, 0, 0, 0, 178, 214, 48, 147, 0, 0, 0, 0, 0, 0, 0, 0, 7, 5, 0, 0, 0, 0, 0, 0, 0] := by unfold wrapB; rw [rT_bytes, rT_mk]; decide +kernel
/-- One frame and most of another. -/
theorem fr_one : fr (wrapB rT ++ (wrapB rT).take 24) 50 0 = [(25, rT)] := by
  have h := fr_wrap [] ((wrapB rT).take 24) rT_ok (by rw [rT_bytes]; decide) 49
  have h2 := fr_part (wrapB rT) (r := rT) (by rw [rT_bytes]; decide) (m := 24) (by rw [rT_frame]; decide) 48
  simp only [List.nil_append, List.length_nil, Nat.zero_add] at h
  rw [h, h2, rT_frame]
  rfl
abbrev bad25 : Bs := [17, 0, 0, 0, 178, 214, 48, 147, 0, 0, 1, 0, 0, 0, 0, 0, 7, 5, 0, 0, 0, 0, 0, 0, 0]
theorem fr_bad25 : fr bad25 26 0 = [(-1, RV.z)] := by
  have n0 : num4 (bad25.drop 0) = 17 := by decide +kernel
  refine fr_bad (by decide) (by rw [n0]; decide) (by rw [n0]; decide) fun h => ?_
  have h2 := h.2
  unfold frT at h2
  rw [n0] at h2
  exact absurd h2 (by decide +kernel)
theorem all_49 {B c : Nat} {Y : Option Addr} {T : Bs} (hT : T = wrapB rT) (w : World) (h : w.ownsRow B 5 1 (.slice Y 49 c) 49 (T.map (Value.int .u8) ++ (T.take 24).map (Value.int .u8))) :
    Calls Try.prog 39 #[.slice Y 49 c] w fun e w' => (∃ V c', e = .returned (.tuple #[.slice V 1 c', .int .i64 25, .int .i64 0])) ∧ Below w.heap.size w w' := by
  subst hT
  have hl : (wrapB rT ++ (wrapB rT).take 24).length = 49 := by rw [rT_frame]; rfl
  have hx : TxtAt w Y (wrapB rT ++ (wrapB rT).take 24) := txt_of (n := 49) (by have := Reads.of_own h; rw [List.map_append]; exact this)
  have ho : Oct (wrapB rT ++ (wrapB rT).take 24) := by rw [rT_frame]; unfold Oct; decide +kernel
  have hcap := RecWrite0.row_cap h
  have h := all_any Y c _ ho (by rw [hl]; exact hcap.1) hcap.2 (by rw [hl]; decide) w hx
  unfold AllPost at h
  rw [hl, fr_one] at h
  refine h.mono ?_
  rintro e w' ⟨⟨_, V, c', rfl, _⟩ | ⟨⟨p, hp, hn⟩, _⟩, hB⟩
  · exact ⟨⟨V, c', rfl⟩, hB⟩
  · simp at hp
    subst hp
    simp at hn
theorem all_25 {c g : Nat} (w : World) (hx : TxtAt w (some ⟨g, 0, none⟩) bad25) (h25 : 25 ≤ c) (hm : c ≤ maxLen) :
    Calls Try.prog 39 #[.slice (some ⟨g, 0, none⟩) 25 c] w fun e w' => e = .returned (.tuple #[.slice none 0 0, .int .i64 0, .int .i64 290]) ∧ Below w.heap.size w w' := by
  have ho : Oct bad25 := by unfold Oct; decide +kernel
  have h := all_any (some ⟨g, 0, none⟩) c bad25 ho h25 hm (by decide) w hx
  unfold AllPost at h
  rw [show bad25.length = 25 from rfl, fr_bad25] at h
  refine h.mono ?_
  rintro e w' ⟨⟨hn, _⟩ | ⟨_, rfl⟩, hB⟩
  · exact absurd (by decide) (hn (-1, RV.z) (by simp))
  · exact ⟨rfl, hB⟩
theorem txt_turned {w : World} {g : Nat} {B c : Nat} (h : Fresh B w g [17, 0, 0, 0, 178, 214, 48, 147, 0, 0, 0, 0, 0, 0, 0, 0, 7, 5, 0, 0, 0, 0, 0, 0, 0] c) : TxtAt (w.setCell ⟨g, 10, none⟩ (.int .u8 1)) (some ⟨g, 0, none⟩) bad25 := fun i x hi => by
  refine ⟨g, 0, rfl, by simpa using h.lt, ?_⟩
  rw [Nat.zero_add]
  by_cases h10 : i = 10
  · subst h10
    have e : x = 1 := by simpa using hi.symm
    subst e
    exact World.cell?_setCell_same' _ _ _ (by rw [h.cell 10 _ rfl]; rfl)
  · rw [World.cell?_setCell_other _ _ _ _ (fun e => h10 (by injection e with _ e _; exact e.symm))]
    refine h.cell i x ?_
    match i, h10 with
    | 0, _ | 1, _ | 2, _ | 3, _ | 4, _ | 5, _ | 6, _ | 7, _ | 8, _ | 9, _ | 11, _ | 12, _ | 13, _ | 14, _ | 15, _ | 16, _ | 17, _ | 18, _ | 19, _ | 20, _ | 21, _ | 22, _ | 23, _ | 24, _ => exact hi
    | 10, h => exact absurd rfl h
    | k + 25, _ => simp at hi
set_option maxRecDepth 100000 in
set_option maxHeartbeats 2000000 in
theorem ltick (w : World) : Calls Try.prog 73 #[] w fun e w' => e = .returned (.agg (recA cTick none 0)) ∧ Below w.heap.size w w' := by
  have x5 := box_full (W := w) 51 #[.int .i64 0, .int .i64 0, .int .i64 0, .int .i64 0, .int .i64 0, .int .i64 0, .int .i64 0, .int .i64 0, .slice none 0 0, .int .i64 0, .int .i64 0, .slice none 0 0, .slice none 0 0, .slice none 0 0, .slice none 0 0, .slice none 0 0, .slice none 0 0, .int .u8 0, .int .i64 0, .int .i64 0, .int .i64 0, .int .i64 0, .int .i64 0, .int .i64 0, .bool false, .bool false, .bool false, .bool false, .int .i64 0, .int .i64 0, .bool false, .slice none 0 0, .int .u8 0, .int .i64 0, .int .i64 0, .int .i64 0, .int .i64 0, .int .i64 0, .int .i64 0, .int .i64 0, .int .i64 0, .int .i64 0, .int .i64 0, .int .i64 0, .bool false] (vs := (recA cTick none 0).toList) rfl
  go_enter Try.func73, Try.ntmps73
  go_wp2_with (first | (refine wpList_store_mid rfl 51 _ _ rfl w.heap.size 0 (recA cTick none 0) rfl rfl (there_of (Blk.new w 51 #[.int .i64 0, .int .i64 0, .int .i64 0, .int .i64 0, .int .i64 0, .int .i64 0, .int .i64 0, .int .i64 0, .slice none 0 0, .int .i64 0, .int .i64 0, .slice none 0 0, .slice none 0 0, .slice none 0 0, .slice none 0 0, .slice none 0 0, .slice none 0 0, .int .u8 0, .int .i64 0, .int .i64 0, .int .i64 0, .int .i64 0, .int .i64 0, .int .i64 0, .bool false, .bool false, .bool false, .bool false, .int .i64 0, .int .i64 0, .bool false, .slice none 0 0, .int .u8 0, .int .i64 0, .int .i64 0, .int .i64 0, .int .i64 0, .int .i64 0, .int .i64 0, .int .i64 0, .int .i64 0, .int .i64 0, .int .i64 0, .int .i64 0, .bool false]) (Nat.le_of_ble_eq_true rfl)) (by kernel_rfl) (by kernel_rfl) ?_; generalize World.setCells _ _ _ _ = W5 at *; (try simp only [Act.put])))
  exact bodyPost_ret (v := .agg (recA cTick none 0)) (results_cell_row rfl _ _ w.heap.size 51 (recA cTick none 0) (0, 0) _ rfl x5.1 Try.underlying51 rfl (by kernel_rfl)) rfl ⟨rfl, x5.2⟩
set_option maxRecDepth 100000 in
set_option maxHeartbeats 2000000 in
theorem alive29 (w : World) : Calls Try.prog 42 #[] w fun e w' => e = .returned (.bool true) ∧ Below w.heap.size w w' := by
  go_enter Try.func42, Try.ntmps42
  go_wp2_with fail
  refine (ltick w).mono ?_
  rintro e w1 ⟨rfl, hB1⟩
  have HB1 := Lib.hid hB1
  have HW1 := Lib.hid hB1.size
  clear hB1
  go_wp2_with fail
  refine Calls.mono (show Calls Try.prog 37 #[.agg (recA cTick none 0)] w1 _ from wrap_v rT SA.z none 0 (facts_of tick_wf (by decide)) w1 ⟨StAt.z, IntsAt.nil, Nat.zero_le _⟩) ?_
  rintro e w2 ⟨⟨v, X, n, c, rfl, hV, _, h0⟩, hB2⟩
  have e0 : v = 0 := hV.ok.2 ⟨rT_ok, by rw [rT_bytes]; decide⟩
  subst e0
  obtain ⟨g, rfl, hn0, hF⟩ := h0 rfl
  have hn : n = 25 := by rw [hn0, rT_frame]; rfl
  clear hn0
  subst hn
  rw [rT_frame] at hF
  have HF := Lib.hid hF
  have HB2 := Lib.hid (below_up HB1.out hB2)
  clear hV h0 hF hB2 HB1
  have q0 : w2.cell? ⟨g, 0, none⟩ = some (.int .u8 17) := HF.out.cell 0 _ rfl
  have q1 : w2.cell? ⟨g, 1, none⟩ = some (.int .u8 0) := HF.out.cell 1 _ rfl
  have q2 : w2.cell? ⟨g, 2, none⟩ = some (.int .u8 0) := HF.out.cell 2 _ rfl
  have q3 : w2.cell? ⟨g, 3, none⟩ = some (.int .u8 0) := HF.out.cell 3 _ rfl
  have hc25 : 25 ≤ c := HF.out.cap
  have hcm : c ≤ 9223372036854775807 := by have := HF.out.top; simpa [maxLen] using this
  have HW2 := Lib.hid (And.intro HF.out.txt (And.intro HF.out.lt HB2.out))
  go_wp2_with fail
  have kq0 := cell_regrown q0
  have kq1 := cell_regrown q1
  have kq2 := cell_regrown q2
  have kq3 := cell_regrown q3
  refine wp_region_quiet_below (by kernel_rfl) (by kernel_rfl) ?_
  repeat (go_big_quiet_step (first | fail))
  refine wpQuiet_nil ?_
  intro _ hw'
  obtain ⟨⟨dq, osq⟩, hw''⟩ := hw'
  subst hw''
  have hBq := below_regrown w2 dq osq
  clear kq0 kq1 kq2 kq3 q0 q1 q2 q3
  generalize Sort.grow (redrawn w2 dq) osq = W3 at *
  have HF3 := Lib.hid (HF.out.up hBq)
  have HB3 := Lib.hid (below_up HB2.out hBq)
  clear hBq HF HB2 HW2
  go_upto_region 4 with fail
  obtain ⟨i0, hi0, hz0, hz1, hz2⟩ := info_parts RecByte.byte_info
  have HI0 := Lib.hid (And.intro hi0 (And.intro hz0 (And.intro hz1 hz2)))
  clear hi0 hz0 hz1 hz2
  obtain ⟨T, hT⟩ : ∃ T : Bs, T = [17, 0, 0, 0, 178, 214, 48, 147, 0, 0, 0, 0, 0, 0, 0, 0, 7, 5, 0, 0, 0, 0, 0, 0, 0] := ⟨_, rfl⟩
  have hTl : T.length = 25 := by rw [hT]; rfl
  have hcells : ∀ l : Bs, ∀ u ∈ l.map (Value.int .u8), u.oneCell' = true := fun l u hu => by
    obtain ⟨n, _, rfl⟩ := List.mem_map.1 hu
    rfl
  have hR3 : ∀ W : World, Below W3.heap.size W3 W → Reads W W3.heap.size 1 (some ⟨g, 0, none⟩) 25 (T.map (Value.int .u8)) ∧ Reads W W3.heap.size 1 (some ⟨g, 0, none⟩) 24 ((T.take 24).map (Value.int .u8)) := fun W hW => by
    have h0 : Reads W3 W3.heap.size 1 (some ⟨g, 0, none⟩) 25 (T.map (Value.int .u8)) := by have := txt_bytes HF3.out.txt; rw [hT]; exact this
    have h1 : Reads W3 W3.heap.size 1 (some ⟨g, 0, none⟩) 24 ((T.take 24).map (Value.int .u8)) := by have := txt_bytes (LogFrm.TxtAt.take HF3.out.txt 24); rw [hT]; exact this
    exact ⟨h0.below hW, h1.below hW⟩
  have HT := Lib.hid hT
  clear hT
  have HR3 := Lib.hid hR3
  clear hR3
  have hc24 : 24 ≤ c := by omega
  have hc0 : ¬ c = 0 := by omega
  have hci : (24 : Int) ≤ (c : Int) := by omega
  go_region_law (first
    | (refine step_append_any _ rfl (.tmp 42) (.tmp 43) _ rfl W3.heap.size 5 i0 (.int .u8 0) 1 1 Try.underlying37 HI0.out.1 HI0.out.2.1 HI0.out.2.2.1 HI0.out.2.2.2 rfl (by decide) (.slice (some ⟨W3.heap.size, 0, none⟩) 0 0) 0 [] (by simp [Act.eval, Act.put]) (World.ownsRow_made W3.drew #[] 0 (Nat.le_refl _) (Nat.zero_le _) (by simp)) W3.heap.size (some ⟨g, 0, none⟩) 25 c (T.map (Value.int .u8)) (by simp [Act.eval, Act.put]) ((HR3.out _ (below_alloc (Below.drew (Below.refl _ W3)))).1) (hcells T) (by simp only [maxLen]; omega) (by omega) (by simp) ?_; intro v7 w7 hown0 hg hat; have hown : w7.ownsRow W3.heap.size 5 1 v7 25 (T.map (Value.int .u8)) := (by simpa using hown0); clear hown0; obtain ⟨Y7, c7, rfl⟩ := own_slice hown; have H7 := Lib.hid (And.intro hown (And.intro hg ((below_alloc (Below.drew (Below.refl _ W3))).grown hg (by simp) (by intro k hk; cases hk; exact Nat.le_refl _)))); clear hown hg hat)
    | (refine step_append_any _ rfl (.tmp 44) (.tmp 46) _ rfl W3.heap.size 5 i0 (.int .u8 0) 1 1 Try.underlying37 HI0.out.1 HI0.out.2.1 HI0.out.2.2.1 HI0.out.2.2.2 rfl (by decide) _ 25 (T.map (Value.int .u8)) (by simp [Act.eval, Act.put]) H7.out.1 W3.heap.size (some ⟨g, 0, none⟩) 24 c ((T.take 24).map (Value.int .u8)) (by simp [Act.eval, Act.put]) ((HR3.out _ H7.out.2.2).2) (hcells _) (by simp only [maxLen]; omega) (by omega) H7.out.2.2.size ?_; intro v8 w8 hown hg hat; obtain ⟨Y8, c8, rfl⟩ := own_slice hown; have H8 := Lib.hid (And.intro (show w8.ownsRow W3.heap.size 5 1 (.slice Y8 49 c8) 49 (T.map (Value.int .u8) ++ (T.take 24).map (Value.int .u8)) from hown) (H7.out.2.2.grown hg (by have := H7.out.2.2.size; omega) (fun k hk => (H7.out.1.lt k hk).1))); clear hown hg hat)
    | (go_simp; refine (all_49 (HT.out.trans rT_frame.symm) w8 H8.out.1).mono ?_; rintro e w9 ⟨⟨V9, c9, rfl⟩, hB9⟩; have HB9 := Lib.hid (below_up H8.out.2 hB9); clear hB9))
  have HF9 := Lib.hid (HF3.out.up HB9.out)
  have HBZ := Lib.hid (below_up HB3.out HB9.out)
  have p10 : w9.cell? ⟨g, 10, none⟩ = some (.int .u8 0) := HF9.out.cell 10 _ rfl
  have z10 : w9.frozen? ⟨g, 10, none⟩ = false := HF9.out.free 10 (by omega)
  clear HB9 HB3 HF3 HR3 H7 H8
  go_wp2_with fail
  have hx := txt_turned HF9.out
  refine (all_25 _ hx hc25 HF9.out.top).mono ?_
  rintro e w10 ⟨rfl, hB10⟩
  have HBE := Lib.hid (below_up (HBZ.out.setCell (p := ⟨g, 10, none⟩) (Nat.le_trans HW1.out HF9.out.le) _) hB10)
  clear hB10 p10 z10 hx
  go_wp2_with fail
  go_ret
  exact ⟨rfl, HBE.out⟩
end Go.Proofs.Ytfdldbfjeamlcaa.LogAlive
/-! bytes.Clone, bytes.Equal, log.Check, log.Twin, log.Same. -/
namespace Go.Proofs.Ytfdldbfjeamlcaa.LogProg
open Go.RowKit Mem LogMath
set_option linter.unusedVariables false
set_option linter.unusedSimpArgs false

theorem byte_info : (Try.prog.info? 5).map (fun i => (i.zero, i.size, i.bytes)) = some (some (.int .u8 0), 1, 1) := by kernel_rfl
theorem one_cells (t : List Int) : ∀ u ∈ t.map (Value.int .u8), u.oneCell' = true := fun u hu => by
  obtain ⟨n, _, rfl⟩ := List.mem_map.1 hu
  rfl
set_option maxRecDepth 100000 in
set_option maxHeartbeats 4000000 in
/-- bytes.Clone. -/
theorem bclone (X : Option Addr) (cap : Nat) (t : List Int) (hl : t.length ≤ 140737488355328) (w : World) (hX : TAt w X t) :
    Calls Try.prog 64 #[.slice X t.length cap] w fun e w' => ∃ X' c', e = .returned (.slice X' t.length c') ∧ TOwn w' w.heap.size (.slice X' t.length c') t ∧ Below w.heap.size w w' := by
  have u : ∀ w, Sem.run Try.prog (underlying 37) w = .ok (TypeDesc.slice 5) w := run_underlying Try.underlying37
  have q : ∀ (w : World) (a : Option Addr) (n c n' c' : Nat), (binOp .eql 37 (.slice a n c) (.slice none n' c')).run Try.prog w = .ok (.bool a.isNone) w := fun w a n c n' c' => Lib.run_eql_slice_nil w _ _ a n c n' c' Try.underlying37
  cases X with
  | none =>
    obtain rfl : t = [] := by
      cases t with
      | nil => rfl
      | cons x t =>
        obtain ⟨_, _, h, _⟩ := hX 0 x rfl
        cases h
    clear hX
    go_enter Try.func64, Try.ntmps64
    go_wp2_with fail
    go_ret
    exact ⟨none, 0, rfl, World.ownsRow_nil _ _ _ _, Below.refl _ _⟩
  | some a =>
    have hr := hX.reads
    obtain ⟨i0, hi0, hz0, hz1, hz2⟩ := info_parts byte_info
    have HR := Lib.hid (And.intro (hr.alloc (Nat.le_refl _) (.cells #[] 5)) (And.intro (one_cells t) (And.intro hi0 (And.intro hz0 (And.intro hz1 hz2)))))
    clear hr hi0 hz0 hz1 hz2 hX
    go_enter Try.func64, Try.ntmps64
    go_wp2_with (at_builtin; refine wpList_append_any _ rfl (.tmp 5) (.tmp 6) _ rfl w.heap.size 5 i0 (.int .u8 0) 1 1 Try.underlying37 HR.out.2.2.1 HR.out.2.2.2.1 HR.out.2.2.2.2.1 HR.out.2.2.2.2.2 rfl (by decide) _ _ _ rfl (World.ownsRow_made w #[] 0 (Nat.le_refl _) (Nat.zero_le _) (by simp)) w.heap.size (some a) t.length cap (t.map (Value.int .u8)) rfl HR.out.1 HR.out.2.1 (by simp only [maxLen]; omega) (by omega) (by simp) ?_; intro v1 w1 hown hg hat; have HO := Lib.hid (And.intro hown hg); clear hown hg hat)
    go_ret
    have hB1 : Below w.heap.size w w1 := (below_alloc (Below.refl _ w)).grown HO.out.2 (by simp) (by intro k hk; cases hk; exact Nat.le_refl _)
    have ho : w1.ownsRow w.heap.size 5 1 v1 t.length (t.map (Value.int .u8)) := by have := HO.out.1; simpa using this
    have hx : ∃ Y c, v1 = .slice Y t.length c := by
      rcases ho.2 with ⟨rfl, e0⟩ | ⟨g, cap', cur, rfl, _⟩
      · exact ⟨none, 0, by rw [e0]⟩
      · exact ⟨_, cap', rfl⟩
    obtain ⟨Y, c, rfl⟩ := hx
    exact ⟨Y, c, rfl, ho, hB1⟩
set_option maxHeartbeats 2000000 in
/-- bytes.Equal. -/
theorem bequal (X : Option Addr) (ca : Nat) (t : List Int) (Y : Option Addr) (cb : Nat) (u : List Int) (w : World) (hX : TAt w X t) (hY : TAt w Y u) :
    Calls Try.prog 65 #[.slice X t.length ca, .slice Y u.length cb] w fun e w' => e = .returned (.bool ((strOf t).toList == (strOf u).toList)) ∧ w' = w := by
  have k1 := run_strOf (c := ca) hX.reads
  have k2 := run_strOf (c := cb) hY.reads
  clear hX hY
  go_enter Try.func65, Try.ntmps65
  go_wp2_with fail
  go_ret
  exact ⟨rfl, rfl⟩
theorem check_ok {x y : AV} (h : mayL ⟨x, y⟩ = true) : checkL ⟨x, y⟩ = 0 := by unfold checkL; rw [h]; rfl
theorem check_bad {x y : AV} (h : mayL ⟨x, y⟩ = false) : checkL ⟨x, y⟩ = 8 := by unfold checkL; rw [h]; rfl
theorem mayL_a {x y : AV} (h : mayA x = false) : mayL ⟨x, y⟩ = false := by unfold mayL; rw [h]; rfl
theorem mayL_b {x y : AV} (h : mayA y = false) : mayL ⟨x, y⟩ = false := by unfold mayL; rw [h]; simp
theorem mayL_ok {x y : AV} (h : mayA x = true) (h2 : mayA y = true) : mayL ⟨x, y⟩ = true := by unfold mayL; rw [h, h2]; rfl
theorem mayA_1 {x : AV} (h : (262144 : Int) < x.t.length) : mayA x = false := by unfold mayA; rw [decide_eq_false (by omega)]; rfl
theorem mayA_2 {x : AV} (h : x.k < 0) : mayA x = false := by unfold mayA; rw [decide_eq_false (show ¬ 0 ≤ x.k by omega)]; simp
theorem mayA_3 {x : AV} (h : (x.t.length : Int) < x.k) : mayA x = false := by unfold mayA; rw [decide_eq_false (show ¬ x.k ≤ (x.t.length : Int) by omega)]; simp
theorem mayA_4 {x : AV} (h1 : ¬ (262144 : Int) < x.t.length) (h2 : ¬ x.k < 0) (h3 : ¬ (x.t.length : Int) < x.k) : mayA x = true := by unfold mayA; rw [decide_eq_true (by omega), decide_eq_true (by omega), decide_eq_true (by omega)]; rfl
set_option maxRecDepth 100000 in
set_option maxHeartbeats 4000000 in
/-- log.Check. -/
theorem lCheck (x y : AV) (X : Option Addr) (ca : Nat) (Y : Option Addr) (cb : Nat) (w : World) :
    Calls Try.prog 33 #[.agg #[.slice X x.t.length ca, .int .i64 x.k, .slice Y y.t.length cb, .int .i64 y.k]] w fun e w' => e = .returned (.int .i64 (checkL ⟨x, y⟩)) ∧ Below w.heap.size w w' := by
  have i0 : ∀ w, (Instr.index 68 (.agg #[.slice X x.t.length ca, .int .i64 x.k, .slice Y y.t.length cb, .int .i64 y.k]) (.int .i64 0)).run Try.prog w = .ok (.agg #[.slice X x.t.length ca, .int .i64 x.k]) w := fun _ => by kernel_rfl
  have i1 : ∀ w, (Instr.index 68 (.agg #[.slice X x.t.length ca, .int .i64 x.k, .slice Y y.t.length cb, .int .i64 y.k]) (.int .i64 1)).run Try.prog w = .ok (.agg #[.slice Y y.t.length cb, .int .i64 y.k]) w := fun _ => by kernel_rfl
  go_enter Try.func33, Try.ntmps33
  go_wp2_with fail
  go_loopw [4, 7] (fun v i wr => ∃ k : Nat, k ≤ 2 ∧ i = .int .i64 k ∧ Hid ((0 < k → mayA x = true) ∧ (1 < k → mayA y = true)) ∧ Hid (Below w.heap.size w wr))
    (fun _ i _ => 2 - (intOf i).toNat)
  case atStart => exact ⟨0, by omega, rfl, ⟨(fun h => by omega), (fun h => by omega)⟩, below_alloc (Below.refl _ _)⟩
  case round =>
    obtain ⟨k, hk, rfl, hp, hB⟩ := hrel
    match k, hk with
    | 0, _ =>
      by_cases h1 : (262144 : Int) < x.t.length
      · go_wp2_with fail
        go_ret
        exact ⟨by rw [check_bad (mayL_a (mayA_1 h1))]; rfl, below_alloc hB.out⟩
      · by_cases h2 : x.k < 0
        · go_wp2_with fail
          go_ret
          exact ⟨by rw [check_bad (mayL_a (mayA_2 h2))]; rfl, below_alloc hB.out⟩
        · by_cases h3 : (x.t.length : Int) < x.k
          · go_wp2_with fail
            go_ret
            exact ⟨by rw [check_bad (mayL_a (mayA_3 h3))]; rfl, below_alloc hB.out⟩
          · go_wp2_with fail
            go_roundw
            case rel => exact ⟨1, by omega, rfl, ⟨(fun _ => mayA_4 h1 h2 h3), (fun h => by omega)⟩, below_alloc hB.out⟩
            case measure => simp [intOf]
    | 1, _ =>
      by_cases h1 : (262144 : Int) < y.t.length
      · go_wp2_with fail
        go_ret
        exact ⟨by rw [check_bad (mayL_b (mayA_1 h1))]; rfl, below_alloc hB.out⟩
      · by_cases h2 : y.k < 0
        · go_wp2_with fail
          go_ret
          exact ⟨by rw [check_bad (mayL_b (mayA_2 h2))]; rfl, below_alloc hB.out⟩
        · by_cases h3 : (y.t.length : Int) < y.k
          · go_wp2_with fail
            go_ret
            exact ⟨by rw [check_bad (mayL_b (mayA_3 h3))]; rfl, below_alloc hB.out⟩
          · go_wp2_with fail
            go_roundw
            case rel => exact ⟨2, by omega, rfl, ⟨(fun _ => hp.out.1 (by omega)), (fun _ => mayA_4 h1 h2 h3)⟩, below_alloc hB.out⟩
            case measure => simp [intOf]
    | 2, _ =>
      go_wp2_with fail
      go_ret
      exact ⟨by rw [check_ok (mayL_ok (hp.out.1 (by omega)) (hp.out.2 (by omega)))]; rfl, hB.out⟩
/-- Two areas are the same. -/
def sameA (x y : AV) : Bool := (x.k == y.k) && ((strOf x.t).toList == (strOf y.t).toList)
def sameL (l m : LV) : Bool := sameA l.a m.a && sameA l.b m.b
theorem sameA_self (x : AV) : sameA x x = true := by unfold sameA; simp
theorem sameL_self (l : LV) : sameL l l = true := by unfold sameL; rw [sameA_self, sameA_self]; rfl
set_option maxRecDepth 100000 in
set_option maxHeartbeats 4000000 in
/-- log.Same. -/
theorem lSame (x y : AV) (X : Option Addr) (ca : Nat) (Y : Option Addr) (cb : Nat) (x' y' : AV) (X' : Option Addr) (ca' : Nat) (Y' : Option Addr) (cb' : Nat) (w : World) (hX : TAt w X x.t) (hY : TAt w Y y.t) (hX' : TAt w X' x'.t) (hY' : TAt w Y' y'.t) :
    Calls Try.prog 36 #[.agg #[.slice X x.t.length ca, .int .i64 x.k, .slice Y y.t.length cb, .int .i64 y.k], .agg #[.slice X' x'.t.length ca', .int .i64 x'.k, .slice Y' y'.t.length cb', .int .i64 y'.k]] w fun e w' => e = .returned (.bool (sameL ⟨x, y⟩ ⟨x', y'⟩)) ∧ Below w.heap.size w w' := by
  have i0 : ∀ w, (Instr.index 68 (.agg #[.slice X x.t.length ca, .int .i64 x.k, .slice Y y.t.length cb, .int .i64 y.k]) (.int .i64 0)).run Try.prog w = .ok (.agg #[.slice X x.t.length ca, .int .i64 x.k]) w := fun _ => by kernel_rfl
  have i1 : ∀ w, (Instr.index 68 (.agg #[.slice X x.t.length ca, .int .i64 x.k, .slice Y y.t.length cb, .int .i64 y.k]) (.int .i64 1)).run Try.prog w = .ok (.agg #[.slice Y y.t.length cb, .int .i64 y.k]) w := fun _ => by kernel_rfl
  have HX := Lib.hid (And.intro (And.intro hX hY) (And.intro hX' hY'))
  clear hX hY hX' hY'
  go_enter Try.func36, Try.ntmps36
  go_wp2_with fail
  go_loopw [5, 6, 7, 10] (fun _ _ _ i wr => ∃ k : Nat, k ≤ 2 ∧ i = .int .i64 k ∧ Hid ((0 < k → sameA x x' = true) ∧ (1 < k → sameA y y' = true)) ∧ Hid (Below w.heap.size w wr) ∧ wr.cell? ⟨w.heap.size + 1, 0, none⟩ = some (.slice X' x'.t.length ca') ∧ wr.cell? ⟨w.heap.size + 1, 1, none⟩ = some (.int .i64 x'.k) ∧ wr.cell? ⟨w.heap.size + 1, 2, none⟩ = some (.slice Y' y'.t.length cb') ∧ wr.cell? ⟨w.heap.size + 1, 3, none⟩ = some (.int .i64 y'.k))
    (fun _ _ _ i _ => 2 - (intOf i).toNat)
  case atStart => exact ⟨0, by omega, rfl, ⟨(fun h => by omega), (fun h => by omega)⟩, below_alloc (below_alloc (Below.refl _ _)), box1 _ _ _ 0, box1 _ _ _ 1, box1 _ _ _ 2, box1 _ _ _ 3⟩
  case round =>
    obtain ⟨k, hk, rfl, hp, hB, y0, y1, y2, y3⟩ := hrel
    have hs0 : w.heap.size + 1 < wr.heap.size := cell_lt y0
    match k, hk with
    | 0, _ =>
      by_cases h1 : x.k = x'.k
      · have e1 : (x.k != x'.k) = false := by simpa using h1
        have H1 := Lib.hid h1
        clear h1
        go_wp2_with fail
        refine (bequal _ _ x.t _ _ x'.t _ ((HX.out.1.1.up hB.out).up (below_alloc (below_alloc (Below.refl _ _)))) ((HX.out.2.1.up hB.out).up (below_alloc (below_alloc (Below.refl _ _))))).mono ?_
        rintro e w' ⟨rfl, rfl⟩
        cases h2 : ((strOf x.t).toList == (strOf x'.t).toList)
        · go_wp2_with fail
          go_ret
          exact ⟨by rw [show sameL ⟨x, y⟩ ⟨x', y'⟩ = false from by unfold sameL; rw [show sameA x x' = false from by unfold sameA; rw [h2]; simp]; rfl]; rfl, below_alloc (below_alloc hB.out)⟩
        · go_wp2_with fail
          go_roundw
          case rel => exact ⟨1, by omega, rfl, ⟨(fun _ => by unfold sameA; rw [h2, H1.out]; simp), (fun h => by omega)⟩, below_alloc (below_alloc hB.out), cell_over _ (cell_over _ y0), cell_over _ (cell_over _ y1), cell_over _ (cell_over _ y2), cell_over _ (cell_over _ y3)⟩
          case measure => simp [intOf]
      · have e1 : (x.k != x'.k) = true := by simpa using h1
        have H1 := Lib.hid h1
        clear h1
        go_wp2_with fail
        go_ret
        exact ⟨by rw [show sameL ⟨x, y⟩ ⟨x', y'⟩ = false from by unfold sameL; rw [show sameA x x' = false from by unfold sameA; rw [show (x.k == x'.k) = false from by simpa using H1.out]; rfl]; rfl]; rfl, below_alloc (below_alloc hB.out)⟩
    | 1, _ =>
      by_cases h1 : y.k = y'.k
      · have e1 : (y.k != y'.k) = false := by simpa using h1
        have H1 := Lib.hid h1
        clear h1
        go_wp2_with fail
        refine (bequal _ _ y.t _ _ y'.t _ ((HX.out.1.2.up hB.out).up (below_alloc (below_alloc (Below.refl _ _)))) ((HX.out.2.2.up hB.out).up (below_alloc (below_alloc (Below.refl _ _))))).mono ?_
        rintro e w' ⟨rfl, rfl⟩
        cases h2 : ((strOf y.t).toList == (strOf y'.t).toList)
        · go_wp2_with fail
          go_ret
          exact ⟨by rw [show sameL ⟨x, y⟩ ⟨x', y'⟩ = false from by unfold sameL; rw [show sameA y y' = false from by unfold sameA; rw [h2]; simp]; simp]; rfl, below_alloc (below_alloc hB.out)⟩
        · go_wp2_with fail
          go_roundw
          case rel => exact ⟨2, by omega, rfl, ⟨(fun _ => hp.out.1 (by omega)), (fun _ => by unfold sameA; rw [h2, H1.out]; simp)⟩, below_alloc (below_alloc hB.out), cell_over _ (cell_over _ y0), cell_over _ (cell_over _ y1), cell_over _ (cell_over _ y2), cell_over _ (cell_over _ y3)⟩
          case measure => simp [intOf]
      · have e1 : (y.k != y'.k) = true := by simpa using h1
        have H1 := Lib.hid h1
        clear h1
        go_wp2_with fail
        go_ret
        exact ⟨by rw [show sameL ⟨x, y⟩ ⟨x', y'⟩ = false from by unfold sameL; rw [show sameA y y' = false from by unfold sameA; rw [show (y.k == y'.k) = false from by simpa using H1.out]; rfl]; simp]; rfl, below_alloc (below_alloc hB.out)⟩
    | 2, _ =>
      go_wp2_with fail
      go_ret
      exact ⟨by rw [show sameL ⟨x, y⟩ ⟨x', y'⟩ = true from by unfold sameL; rw [hp.out.1 (by omega), hp.out.2 (by omega)]; rfl]; rfl, hB.out⟩
/-- What Twin's box holds before its round k. -/
def TwRel (x y : AV) (X : Option Addr) (ca : Nat) (Y : Option Addr) (cb : Nat) (B g : Nat) (k : Nat) (w : World) : Prop :=
  (k = 0 ∧ Blk w g 70 #[.slice X x.t.length ca, .int .i64 x.k, .slice Y y.t.length cb, .int .i64 y.k]) ∨
  (k = 1 ∧ ∃ X' ca', TOwn w B (.slice X' x.t.length ca') x.t ∧ Blk w g 70 #[.slice X' x.t.length ca', .int .i64 x.k, .slice Y y.t.length cb, .int .i64 y.k]) ∨
  (k = 2 ∧ ∃ X' ca' Y' cb', TOwn w B (.slice X' x.t.length ca') x.t ∧ TOwn w B (.slice Y' y.t.length cb') y.t ∧ (∀ b, (Value.slice X' x.t.length ca').ownBlock = some b → (Value.slice Y' y.t.length cb').ownBlock ≠ some b) ∧ Blk w g 70 #[.slice X' x.t.length ca', .int .i64 x.k, .slice Y' y.t.length cb', .int .i64 y.k])
set_option maxRecDepth 100000 in
set_option maxHeartbeats 4000000 in
/-- log.Twin: a log's copy, in memory of its own. -/
theorem lTwin (x y : AV) (X : Option Addr) (ca : Nat) (Y : Option Addr) (cb : Nat) (hx : x.t.length ≤ 140737488355328) (hy : y.t.length ≤ 140737488355328) (w : World) (hX : TAt w X x.t) (hY : TAt w Y y.t) :
    Calls Try.prog 32 #[.agg #[.slice X x.t.length ca, .int .i64 x.k, .slice Y y.t.length cb, .int .i64 y.k]] w fun e w' => ∃ X' ca' Y' cb', e = .returned (.agg #[.slice X' x.t.length ca', .int .i64 x.k, .slice Y' y.t.length cb', .int .i64 y.k]) ∧ TOwn w' (w.heap.size) (.slice X' x.t.length ca') x.t ∧ TOwn w' (w.heap.size) (.slice Y' y.t.length cb') y.t ∧
      (∀ b, (Value.slice X' x.t.length ca').ownBlock = some b → (Value.slice Y' y.t.length cb').ownBlock ≠ some b) ∧ Below w.heap.size w w' := by
  have HX := Lib.hid (And.intro hX hY)
  clear hX hY
  go_enter Try.func32, Try.ntmps32
  go_wp2_with fail
  go_loopw [3, 4] (fun _ i wr => ∃ k : Nat, k ≤ 2 ∧ i = .int .i64 k ∧ Hid (TwRel x y X ca Y cb (w.heap.size + 1 + 1) w.heap.size k wr) ∧ Hid (Below w.heap.size w wr) ∧ Hid (Blk wr (w.heap.size + 1) 70 #[.slice none 0 0, .int .i64 0, .slice none 0 0, .int .i64 0]) ∧ w.heap.size + 1 < wr.heap.size)
    (fun _ i _ => 2 - (intOf i).toNat)
  case atStart => exact ⟨0, by omega, rfl, .inl ⟨rfl, (Blk.new _ _ _).alloc _⟩, below_alloc (below_alloc (Below.refl _ _)), blk1 _ _ _, by simp⟩
  case round =>
    obtain ⟨k, hk, rfl, hR, hB, yr, hsz⟩ := hrel
    have HRR := yr
    clear yr
    rcases hR.out with ⟨rfl, hK⟩ | ⟨rfl, X', ca', hO, hK⟩ | ⟨rfl, X', ca', Y', cb', hO, hO2, hne, hK⟩
    · have HK := Lib.hid hK
      have y0 : wr.cell? ⟨w.heap.size, 0, none⟩ = some (.slice X x.t.length ca) := HK.out.cell 0
      have y1 : wr.cell? ⟨w.heap.size, 1, none⟩ = some (.int .i64 x.k) := HK.out.cell 1
      have y2 : wr.cell? ⟨w.heap.size, 2, none⟩ = some (.slice Y y.t.length cb) := HK.out.cell 2
      have y3 : wr.cell? ⟨w.heap.size, 3, none⟩ = some (.int .i64 y.k) := HK.out.cell 3
      have hs0 : w.heap.size < wr.heap.size := cell_lt y0
      have HC := Lib.hid (bclone X ca x.t hx wr (HX.out.1.up hB.out))
      clear hK hR
      go_wp2_with fail
      refine HC.out.mono ?_
      rintro e w2 ⟨X', ca', rfl, hO2, hB2⟩
      have hK2 := HK.out.below hB2 HK.out.lt
      have z0 := hK2.cell 0
      have fz := hK2.frozen 0
      simp only [List.getElem?_toArray, List.getElem?_cons_zero, List.getElem?_cons_succ] at z0
      have H2 := Lib.hid (And.intro hO2 (And.intro hB2 hK2))
      clear hO2 hB2 hK2 y0 y1 y2 y3 HC
      go_wp2_with fail
      go_roundw
      case measure => simp [intOf]
      have hK3 : Blk (w2.setCell ⟨w.heap.size, 0, none⟩ (.slice X' x.t.length ca')) w.heap.size 70 #[.slice X' x.t.length ca', .int .i64 x.k, .slice Y y.t.length cb, .int .i64 y.k] := H2.out.2.2.set_ 0 _
      have hO3 := Go.RowKit.ownsRow_setCell_below H2.out.1 (a := ⟨w.heap.size, 0, none⟩) (by show w.heap.size < wr.heap.size; omega) (.slice X' x.t.length ca')
      have hB3 := (below_up hB.out H2.out.2.1).setCell (p := ⟨w.heap.size, 0, none⟩) (Nat.le_refl _) (.slice X' x.t.length ca')
      have hr3 := (HRR.out.below H2.out.2.1 HRR.out.lt).far (p := ⟨w.heap.size, 0, none⟩) (by simp) (.slice X' x.t.length ca')
      exact ⟨1, by omega, rfl, .inr (.inl ⟨rfl, X', ca', ownsRow_less hO3 (by omega), hK3⟩), hB3, hr3, by have := H2.out.2.1.size; simp; omega⟩
    · have HO := Lib.hid hO
      clear hO
      have HK := Lib.hid hK
      have y0 : wr.cell? ⟨w.heap.size, 0, none⟩ = some (.slice X' x.t.length ca') := HK.out.cell 0
      have y1 : wr.cell? ⟨w.heap.size, 1, none⟩ = some (.int .i64 x.k) := HK.out.cell 1
      have y2 : wr.cell? ⟨w.heap.size, 2, none⟩ = some (.slice Y y.t.length cb) := HK.out.cell 2
      have y3 : wr.cell? ⟨w.heap.size, 3, none⟩ = some (.int .i64 y.k) := HK.out.cell 3
      have hs0 : w.heap.size < wr.heap.size := cell_lt y0
      have HC := Lib.hid (bclone Y cb y.t hy wr (HX.out.2.up hB.out))
      clear hK hR
      go_wp2_with fail
      refine HC.out.mono ?_
      rintro e w2 ⟨Y', cb', rfl, hO2, hB2⟩
      have hK2 := HK.out.below hB2 HK.out.lt
      have z2 := hK2.cell 2
      have fz := hK2.frozen 2
      simp only [List.getElem?_toArray, List.getElem?_cons_zero, List.getElem?_cons_succ] at z2
      have H2 := Lib.hid (And.intro hO2 (And.intro hB2 hK2))
      clear hO2 hB2 hK2 y0 y1 y2 y3 HC
      go_wp2_with fail
      go_roundw
      case measure => simp [intOf]
      have hK3 : Blk (w2.setCell ⟨w.heap.size, 2, none⟩ (.slice Y' y.t.length cb')) w.heap.size 70 #[.slice X' x.t.length ca', .int .i64 x.k, .slice Y' y.t.length cb', .int .i64 y.k] := H2.out.2.2.set_ 2 _
      have hO3 := Go.RowKit.ownsRow_setCell_below H2.out.1 (a := ⟨w.heap.size, 2, none⟩) (by show w.heap.size < wr.heap.size; omega) (.slice Y' y.t.length cb')
      have hB3 := (below_up hB.out H2.out.2.1).setCell (p := ⟨w.heap.size, 2, none⟩) (Nat.le_refl _) (.slice Y' y.t.length cb')
      have hr3 := (HRR.out.below H2.out.2.1 HRR.out.lt).far (p := ⟨w.heap.size, 2, none⟩) (by simp) (.slice Y' y.t.length cb')
      have hO4 := Go.RowKit.ownsRow_setCell_below (ownsRow_up HO.out H2.out.2.1) (a := ⟨w.heap.size, 2, none⟩) (by show w.heap.size < w.heap.size + 1 + 1; omega) (.slice Y' y.t.length cb')
      exact ⟨2, by omega, rfl, .inr (.inr ⟨rfl, X', ca', Y', cb', ownsRow_less hO4 (by omega), ownsRow_less hO3 (by omega), (fun b h1 h2 => by have q1 := HO.out.lt b h1; have q2 := hO3.lt b h2; omega), hK3⟩), hB3, hr3, by have := H2.out.2.1.size; simp; omega⟩
    · have HK := Lib.hid hK
      have y0 : wr.cell? ⟨w.heap.size, 0, none⟩ = some (.slice X' x.t.length ca') := HK.out.cell 0
      have y1 : wr.cell? ⟨w.heap.size, 1, none⟩ = some (.int .i64 x.k) := HK.out.cell 1
      have y2 : wr.cell? ⟨w.heap.size, 2, none⟩ = some (.slice Y' y.t.length cb') := HK.out.cell 2
      have y3 : wr.cell? ⟨w.heap.size, 3, none⟩ = some (.int .i64 y.k) := HK.out.cell 3
      have HO := Lib.hid (And.intro hO (And.intro hO2 hne))
      have hs0 : w.heap.size < wr.heap.size := cell_lt y0
      clear hK hR hO hO2 hne
      have yb := HRR.out
      have yr0 := yb.cell 0
      have yr1 := yb.cell 1
      have yr2 := yb.cell 2
      have yr3 := yb.cell 3
      have yf0 := yb.frozen 0
      have yf1 := yb.frozen 1
      have yf2 := yb.frozen 2
      have yf3 := yb.frozen 3
      simp only [List.getElem?_toArray, List.getElem?_cons_zero, List.getElem?_cons_succ] at yr0 yr1 yr2 yr3
      clear yb
      go_wp2_with fail
      have hK4 := W4.blk HRR.out (.slice X' x.t.length ca') (.int .i64 x.k) (.slice Y' y.t.length cb') (.int .i64 y.k)
      have hB4 := W4.below (g := w.heap.size + 1) hB.out (by omega) (.slice X' x.t.length ca') (.int .i64 x.k) (.slice Y' y.t.length cb') (.int .i64 y.k)
      have hO4 := W4.own (g := w.heap.size + 1) HO.out.1 (own_ne HO.out.1 (by omega)) (.slice X' x.t.length ca') (.int .i64 x.k) (.slice Y' y.t.length cb') (.int .i64 y.k)
      have hP4 := W4.own (g := w.heap.size + 1) HO.out.2.1 (own_ne HO.out.2.1 (by omega)) (.slice X' x.t.length ca') (.int .i64 x.k) (.slice Y' y.t.length cb') (.int .i64 y.k)
      have hN4 := HO.out.2.2
      rw [show ((((wr.setCell ⟨w.heap.size + 1, 0, none⟩ (.slice X' x.t.length ca')).setCell ⟨w.heap.size + 1, 1, none⟩ (.int .i64 x.k)).setCell ⟨w.heap.size + 1, 2, none⟩ (.slice Y' y.t.length cb')).setCell ⟨w.heap.size + 1, 3, none⟩ (.int .i64 y.k)) = W4 wr (w.heap.size + 1) (.slice X' x.t.length ca') (.int .i64 x.k) (.slice Y' y.t.length cb') (.int .i64 y.k) from rfl]
      generalize W4 wr (w.heap.size + 1) (.slice X' x.t.length ca') (.int .i64 x.k) (.slice Y' y.t.length cb') (.int .i64 y.k) = w4 at *
      clear HRR hB HX HK HO yr0 yr1 yr2 yr3 yf0 yf1 yf2 yf3 y0 y1 y2 y3
      have c0 := hK4.cell 0
      have c1 := hK4.cell 1
      have c2 := hK4.cell 2
      have c3 := hK4.cell 3
      simp only [List.getElem?_toArray, List.getElem?_cons_zero, List.getElem?_cons_succ] at c0 c1 c2 c3
      exact bodyPost_ret (v := .agg #[.slice X' x.t.length ca', .int .i64 x.k, .slice Y' y.t.length cb', .int .i64 y.k]) (by simp [results, Try.results32, go_sem, c0, c1, c2, c3]) rfl ⟨X', ca', Y', cb', rfl, ownsRow_less hO4 (by omega), ownsRow_less hP4 (by omega), hN4, hB4⟩
end Go.Proofs.Ytfdldbfjeamlcaa.LogProg
/-! The reference: areas, logs, acts are checked; great logs. -/
namespace Go.Proofs.Ytfdldbfjeamlcaa.LogRef1
open Go.RowKit Mem LogMath LogProg
set_option linter.unusedVariables false
set_option linter.unusedSimpArgs false

set_option maxHeartbeats 2000000 in
theorem rArea (x : AV) (X : Option Addr) (ca : Nat) (w : World) :
    Calls Try.prog 95 #[.agg #[.slice X x.t.length ca, .int .i64 x.k]] w fun e w' => e = .returned (.bool (mayA x)) ∧ Below w.heap.size w w' := by
  have hm : mayA x = (decide ((x.t.length : Int) ≤ 262144) && (decide (0 ≤ x.k) && decide (x.k ≤ (x.t.length : Int)))) := rfl
  have HM := Lib.hid hm
  clear hm
  by_cases h1 : (x.t.length : Int) ≤ 262144
  · by_cases h2 : 0 ≤ x.k
    · by_cases h3 : x.k ≤ (x.t.length : Int)
      · go_enter Try.func95, Try.ntmps95
        go_wp2_with fail
        go_ret
        exact ⟨by rw [HM.out, decide_eq_true h1, decide_eq_true h2, decide_eq_true h3]; rfl, below_alloc (Below.refl _ _)⟩
      · go_enter Try.func95, Try.ntmps95
        go_wp2_with fail
        go_ret
        exact ⟨by rw [HM.out, decide_eq_true h1, decide_eq_true h2, decide_eq_false (show ¬ x.k ≤ (x.t.length : Int) by omega)]; rfl, below_alloc (Below.refl _ _)⟩
    · go_enter Try.func95, Try.ntmps95
      go_wp2_with fail
      go_ret
      exact ⟨by rw [HM.out, decide_eq_true h1, decide_eq_false (show ¬ 0 ≤ x.k by omega)]; rfl, below_alloc (Below.refl _ _)⟩
  · go_enter Try.func95, Try.ntmps95
    go_wp2_with fail
    go_ret
    exact ⟨by rw [HM.out, decide_eq_false (show ¬ (x.t.length : Int) ≤ 262144 by omega)]; rfl, below_alloc (Below.refl _ _)⟩
set_option maxHeartbeats 2000000 in
theorem rMay (x y : AV) (X : Option Addr) (ca : Nat) (Y : Option Addr) (cb : Nat) (w : World) :
    Calls Try.prog 60 #[.agg #[.slice X x.t.length ca, .int .i64 x.k, .slice Y y.t.length cb, .int .i64 y.k]] w fun e w' => e = .returned (.bool (mayL ⟨x, y⟩)) ∧ Below w.heap.size w w' := by
  cases hx : mayA x
  · go_enter Try.func60, Try.ntmps60
    go_wp2_with fail
    refine (rArea x X ca _).mono ?_
    rintro e w1 ⟨rfl, hB1⟩
    rw [hx]
    have HB := Lib.hid (below_up (below_alloc (Below.refl _ _)) hB1)
    clear hB1
    go_wp2_with fail
    go_ret
    exact ⟨by rw [mayL_a hx]; rfl, HB.out⟩
  · go_enter Try.func60, Try.ntmps60
    go_wp2_with fail
    refine (rArea x X ca _).mono ?_
    rintro e w1 ⟨rfl, hB1⟩
    rw [hx]
    have hb := (Blk.new w 70 #[.slice X x.t.length ca, .int .i64 x.k, .slice Y y.t.length cb, .int .i64 y.k]).below hB1 (by simp)
    have y0 : w1.cell? ⟨w.heap.size, 0, none⟩ = some (.slice X x.t.length ca) := hb.cell 0
    have y1 : w1.cell? ⟨w.heap.size, 1, none⟩ = some (.int .i64 x.k) := hb.cell 1
    have y2 : w1.cell? ⟨w.heap.size, 2, none⟩ = some (.slice Y y.t.length cb) := hb.cell 2
    have y3 : w1.cell? ⟨w.heap.size, 3, none⟩ = some (.int .i64 y.k) := hb.cell 3
    have HB := Lib.hid (below_up (below_alloc (Below.refl _ _)) hB1)
    clear hB1 hb
    go_wp2_with fail
    refine (rArea y Y cb _).mono ?_
    rintro e w2 ⟨rfl, hB2⟩
    have HB2 := Lib.hid (below_up HB.out hB2)
    clear hB2
    go_wp2_with fail
    go_ret
    exact ⟨by rw [show mayL ⟨x, y⟩ = mayA y from by unfold mayL; rw [hx]; rfl]; rfl, HB2.out⟩
set_option maxHeartbeats 2000000 in
theorem rCheck (x y : AV) (X : Option Addr) (ca : Nat) (Y : Option Addr) (cb : Nat) (w : World) :
    Calls Try.prog 34 #[.agg #[.slice X x.t.length ca, .int .i64 x.k, .slice Y y.t.length cb, .int .i64 y.k]] w fun e w' => e = .returned (.int .i64 (checkL ⟨x, y⟩)) ∧ Below w.heap.size w w' := by
  have hc : checkL ⟨x, y⟩ = if mayL ⟨x, y⟩ then 0 else 8 := rfl
  have HC := Lib.hid hc
  clear hc
  go_enter Try.func34, Try.ntmps34
  go_wp2_with fail
  refine (rMay x y X ca Y cb _).mono ?_
  rintro e w1 ⟨rfl, hB1⟩
  have HB := Lib.hid (below_up (below_alloc (Below.refl _ _)) hB1)
  clear hB1
  generalize mayL ⟨x, y⟩ = m at *
  cases m
  · go_wp2_with fail
    go_ret
    exact ⟨by rw [HC.out]; rfl, HB.out⟩
  · go_wp2_with fail
    go_ret
    exact ⟨by rw [HC.out]; rfl, HB.out⟩
def greatL (x y : AV) : Bool := decide ((300000 : Int) < x.t.length) || decide ((300000 : Int) < y.t.length)
set_option maxHeartbeats 2000000 in
theorem rGreat (x y : AV) (X : Option Addr) (ca : Nat) (Y : Option Addr) (cb : Nat) (w : World) :
    Calls Try.prog 26 #[.agg #[.slice X x.t.length ca, .int .i64 x.k, .slice Y y.t.length cb, .int .i64 y.k]] w fun e w' => e = .returned (.bool (greatL x y)) ∧ Below w.heap.size w w' := by
  have hg : greatL x y = (decide ((300000 : Int) < x.t.length) || decide ((300000 : Int) < y.t.length)) := rfl
  have HG := Lib.hid hg
  clear hg
  by_cases h1 : (300000 : Int) < x.t.length
  · go_enter Try.func26, Try.ntmps26
    go_wp2_with fail
    go_ret
    exact ⟨by rw [HG.out, decide_eq_true h1]; rfl, below_alloc (Below.refl _ _)⟩
  · by_cases h2 : (300000 : Int) < y.t.length
    · go_enter Try.func26, Try.ntmps26
      go_wp2_with fail
      go_ret
      exact ⟨by rw [HG.out, decide_eq_false (show ¬ (300000 : Int) < x.t.length by omega), decide_eq_true h2]; rfl, below_alloc (Below.refl _ _)⟩
    · go_enter Try.func26, Try.ntmps26
      go_wp2_with fail
      go_ret
      exact ⟨by rw [HG.out, decide_eq_false (show ¬ (300000 : Int) < x.t.length by omega), decide_eq_false (show ¬ (300000 : Int) < y.t.length by omega)]; rfl, below_alloc (Below.refl _ _)⟩
set_option maxHeartbeats 4000000 in
theorem rMayAct (kd ar : Int) (T : Option Addr) (ct : Nat) (tx : List Int) (w : World) :
    Calls Try.prog 61 #[.agg #[.int .u8 kd, .int .i64 ar, .slice T tx.length ct]] w fun e w' => e = .returned (.bool (mayAct kd ar tx)) ∧ Below w.heap.size w w' := by
  have hg : mayAct kd ar tx = ((decide (ar = 0) || decide (ar = 1)) && (decide (kd = 2) || ((decide (kd = 1) || decide (kd = 3)) && decide (tx.length = 0)))) := rfl
  have HG := Lib.hid hg
  clear hg
  by_cases a0 : ar = 0 ∨ ar = 1
  · have HG2 : Hid (mayAct kd ar tx = (decide (kd = 2) || ((decide (kd = 1) || decide (kd = 3)) && decide (tx.length = 0)))) := by
      have h := HG.out
      rw [show (decide (ar = 0) || decide (ar = 1)) = true from by rcases a0 with h | h <;> simp [h], Bool.true_and] at h
      exact h
    clear HG
    by_cases k2 : kd = 2
    · subst k2
      rcases a0 with rfl | rfl
      all_goals
        go_enter Try.func61, Try.ntmps61
        go_wp2_with fail
        go_ret
        exact ⟨by rw [HG2.out]; rfl, below_alloc (Below.refl _ _)⟩
    · have e2 : (kd == 2) = false := by simpa using k2
      by_cases k1 : kd = 1 ∨ kd = 3
      · by_cases h0 : tx.length = 0
        · have e0 : ((tx.length : Int) == 0) = true := by rw [beq_iff_eq]; omega
          rcases a0 with rfl | rfl <;> rcases k1 with rfl | rfl
          all_goals
            go_enter Try.func61, Try.ntmps61
            go_wp2_with fail
            go_ret
            exact ⟨by rw [HG2.out, decide_eq_true h0]; rfl, below_alloc (Below.refl _ _)⟩
        · have e0 : ((tx.length : Int) == 0) = false := by rw [beq_eq_false_iff_ne]; omega
          rcases a0 with rfl | rfl <;> rcases k1 with rfl | rfl
          all_goals
            go_enter Try.func61, Try.ntmps61
            go_wp2_with fail
            go_ret
            exact ⟨by rw [HG2.out, decide_eq_false h0]; rfl, below_alloc (Below.refl _ _)⟩
      · have e1 : (kd == 1) = false := by rw [beq_eq_false_iff_ne]; exact fun h => k1 (.inl h)
        have e3 : (kd == 3) = false := by rw [beq_eq_false_iff_ne]; exact fun h => k1 (.inr h)
        have HG3 : Hid (mayAct kd ar tx = false) := by
          have h := HG2.out
          rw [decide_eq_false k2, decide_eq_false (fun h => k1 (.inl h)), decide_eq_false (fun h => k1 (.inr h))] at h
          exact h
        clear HG2 k1 k2
        rcases a0 with rfl | rfl
        all_goals
          go_enter Try.func61, Try.ntmps61
          go_wp2_with fail
          go_ret
          exact ⟨by rw [HG3.out]; rfl, below_alloc (Below.refl _ _)⟩
  · have b0 : (ar != 0) = true := by simpa using fun h => a0 (.inl h)
    have b1 : (ar != 1) = true := by simpa using fun h => a0 (.inr h)
    have HG2 : Hid (mayAct kd ar tx = false) := by
      have h := HG.out
      rw [decide_eq_false (fun h => a0 (.inl h)), decide_eq_false (fun h => a0 (.inr h))] at h
      exact h
    clear HG a0
    go_enter Try.func61, Try.ntmps61
    go_wp2_with fail
    go_ret
    exact ⟨by rw [HG2.out]; rfl, below_alloc (Below.refl _ _)⟩
end Go.Proofs.Ytfdldbfjeamlcaa.LogRef1
/-! A region that draws its order and only reads, within a round of a range over a function: one walk in the text's order serves every order, as outside of a round. No conditions but those named. -/
namespace Go.Proofs.Ytfdldbfjeamlcaa.Round
set_option linter.unusedVariables false

theorem uponIn_round {F : Fence} {n : Nat} {P : Program} {o : Oper} {a : Act} {K : Act → World → Prop} {Q : Exit → Act → World → Prop} (l : Nat) {r : Result Next} (h : o.uponIn F n P a K Q r) : o.uponIn (F.inRound l) n P a K Q r := h
theorem wpOpIn_round {F : Fence} {n : Nat} {P : Program} {ops : Array Oper} {i : Nat} {a : Act} {w : World} {K K' : Act → World → Prop} {Q : Exit → Act → World → Prop} (l : Nat) (hro : F.round = none)
    (hd : ∀ (j : Nat) (o : Oper), ops[j]? = some o → ∀ c, o.op ≠ .defer c) (hK : ∀ a w, K a w → K' a w) (h : wpOpIn F n P ops Q i K a w) : wpOpIn (F.inRound l) n P ops Q i K' a w := by
  have h2 := wpOpIn_mono hK h
  unfold wpOpIn at h2 ⊢
  split
  · rename_i ho; simp only [ho] at h2; exact h2
  · rename_i o ho
    simp only [ho] at h2
    split
    · rename_i hw
      simp only [hw, if_true] at h2
      obtain ⟨ha, hu⟩ := h2
      refine ⟨ha, uponIn_round l ?_⟩
      have e1 : o.semAt F.round a.eval = execOp a.eval o := by rw [hro, Oper.semAt_none]
      have e2 : o.semAt (F.inRound l).round a.eval = execOp a.eval o := Oper.semAt_some l a.eval o (hd i o ho)
      rw [e1] at hu
      rw [e2]
      exact hu
    · rename_i hw; simp only [hw] at h2; exact h2
theorem wpAnyIn_round {F : Fence} {n : Nat} {P : Program} {md : Region.Mode} {ops : Array Oper} {Q : Exit → Act → World → Prop} (l : Nat) (hro : F.round = none)
    (hd : ∀ (j : Nat) (o : Oper), ops[j]? = some o → ∀ c, o.op ≠ .defer c) : ∀ (fuel : Nat) (listed : Array Bool) (a : Act) (w : World), wpAnyIn F n P md ops Q fuel listed a w → wpAnyIn (F.inRound l) n P md ops Q fuel listed a w
  | 0, _, _, _, h => h
  | fuel + 1, _, _, _, h => ⟨h.1, fun i hi => wpOpIn_round l hro hd (fun a w => wpAnyIn_round l hro hd fuel _ a w) (h.2 i hi)⟩

def noDeferB (ops : Array Oper) : Bool := ops.all fun o => match o.op with | .defer _ => false | _ => true
theorem noDefer_of {ops : Array Oper} (h : noDeferB ops = true) (j : Nat) (o : Oper) (ho : ops[j]? = some o) (c) : o.op ≠ .defer c := by
  unfold noDeferB at h
  rw [Array.all_eq_true'] at h
  have := h o (Array.mem_of_getElem? ho)
  intro e
  rw [e] at this
  cases this

theorem quiet_round {F : Fence} {n : Nat} {P : Program} {id : Nat} {Q : Exit → Act → World → Prop} {a : Act} {w : World} {l : List Oper} (lp : Nat) (hro : F.round = none) (hm : P.follows .mixedOrders = true) (hB : Region.lexB .any l.toArray = true) (hd : noDeferB l.toArray = true)
    (h : wpQuietIn F n P l.toArray (fun w' => ∃ n, w' = w.drewN n) (fun a' => ∀ w', (∃ n, w' = w.drewN n) → Q .normal a' w') l a) : (Code.region id l.toArray true).wpIn (F.inRound lp) n P Q a w := by
  simp only [Region.lexB, Bool.and_eq_true] at hB
  refine wpIn_region_any hm (wpAnyIn_round lp hro (noDefer_of hd) _ _ _ _ (wpAnyIn_of_quiet (C := fun w' => ∃ n, w' = w.drewN n) (Q := fun a' => ∀ w', (∃ n, w' = w.drewN n) → Q .normal a' w') hro (fun _ w' hw' h => h w' hw') _ _ _ _ ⟨1, rfl⟩ ?_))
  have := wpAnyQIn_lex (F := F) (n := n) (C := fun w' => ∃ n, w' = w.drewN n) (md := .any) hB.1 l.toArray.toList 0 (Array.replicate l.toArray.size false) a (by simp) (by simpa using hB.2) (by simpa using h)
  simpa using this

/-! From a region outside of any fence. -/
theorem uponIn_of_upon {n : Nat} {P : Program} {o : Oper} {a : Act} {K K' : Act → World → Prop} {Q : Exit → Act → World → Prop} (l : Nat) (hK : ∀ a w, K a w → K' a w) {r : Result Next} (h : o.upon P a K Q r) : o.uponIn (Fence.wide.inRound l) n P a K' Q r := by
  cases r with
  | ok x w' =>
    cases x with
    | value v => exact hK _ _ h
    | skip => exact hK _ _ h
    | defer d => exact hK _ _ h
    | enter f args =>
      refine ⟨fun hd => by simp [Fence.wide] at hd, CallsIn.inRound l (callsIn_wide.2 (Calls.mono h ?_))⟩
      intro e w'' he
      cases e with
      | returned v => exact hK _ _ he
      | panicked c => exact he
      | outgrown => exact he
    | row r args =>
      refine ⟨fun hd => by simp [Fence.wide] at hd, fun c cs _ => ?_⟩
      obtain ⟨v, w'', hr, hs⟩ := h c cs
      exact ⟨v, w'', hK _ _ hr, stepsIn_wide.2 hs⟩
    | _ => exact h.elim
  | halt x w' =>
    cases x with
    | panic v => exact h
    | _ => exact h.elim
theorem wpOpIn_of_wpOp {n : Nat} {P : Program} {ops : Array Oper} {i : Nat} {a : Act} {w : World} {K K' : Act → World → Prop} {Q : Exit → Act → World → Prop} (l : Nat) (hno : ¬ LetsOut Q)
    (hd : ∀ (j : Nat) (o : Oper), ops[j]? = some o → ∀ c, o.op ≠ .defer c) (hK : ∀ a w, K a w → K' a w) (h : wpOp P ops Q i K a w) : wpOpIn (Fence.wide.inRound l) n P ops Q i K' a w := by
  unfold wpOp at h
  unfold wpOpIn
  split
  · rename_i ho; simp only [ho] at h; exact hK _ _ h
  · rename_i o ho
    simp only [ho] at h
    split
    · rename_i hw
      simp only [hw, if_true] at h
      rcases h with h | h
      · refine ⟨fun _ _ => trivial, ?_⟩
        have e2 : o.semAt (Fence.wide.inRound l).round a.eval = execOp a.eval o := Oper.semAt_some l a.eval o (hd i o ho)
        rw [e2]
        exact uponIn_of_upon l hK h
      · exact absurd h.2 hno
    · rename_i hw; simp only [hw] at h; exact ⟨fun _ _ => trivial, hK _ _ h⟩
theorem wpAnyIn_of_wpAny {n : Nat} {P : Program} {md : Region.Mode} {ops : Array Oper} {Q : Exit → Act → World → Prop} (l : Nat) (hno : ¬ LetsOut Q)
    (hd : ∀ (j : Nat) (o : Oper), ops[j]? = some o → ∀ c, o.op ≠ .defer c) : ∀ (fuel : Nat) (listed : Array Bool) (a : Act) (w : World), wpAny P md ops Q fuel listed a w → wpAnyIn (Fence.wide.inRound l) n P md ops Q fuel listed a w
  | 0, _, _, _, h => h
  | fuel + 1, _, _, _, h => ⟨h.1, fun i hi => wpOpIn_of_wpOp l hno hd (fun a w => wpAnyIn_of_wpAny l hno hd fuel _ a w) (h.2 i hi)⟩

/-- Reads, then one operation more: in a round. -/
theorem still_round {n : Nat} {P : Program} {id : Nat} {Q : Exit → Act → World → Prop} {a : Act} {w : World} {l : List Oper} (lp : Nat) (k : Nat) (hno : ¬ LetsOut Q) (hm : P.follows .mixedOrders = true) (hB : Region.lexTailB .any l.toArray k = true) (hd : noDeferB l.toArray = true)
    (h : wpStill P l.toArray w.drew (fun a' => wpList P l.toArray Q (l.drop k) a' w.drew) (l.take k) a) : (Code.region id l.toArray true).wpIn (Fence.wide.inRound lp) n P Q a w := by
  simp only [Region.lexTailB, Bool.and_eq_true, decide_eq_true_eq] at hB
  obtain ⟨⟨⟨⟨hsel, hn⟩, hs⟩, hc⟩, hlex⟩ := hB
  have hn' : k < l.length := by simpa using hn
  have htl : (l.take k).length = k := by simp; omega
  have hdl : (l.drop k).length = l.toArray.size - k := by simp
  have inv0 : HeadInv .any l.toArray k (Array.replicate l.toArray.size false) :=
    ⟨by simp, fun j oj _ hl => (by rw [getD_replicate_false] at hl; cases hl), fun t _ ht => getD_in (by simpa using ht) (getD_replicate_false _ _)⟩
  have H := wpAnyL_lex (md := .any) (g := l.toArray.size - k) hsel hs hc hn (l.take k) 0 _ a (fun j hj => by
    have hj' : j < k := by rw [htl] at hj; exact hj
    simp [hj']) (by simpa using htl) inv0 (by rw [htl]; exact hlex) h
  refine wpIn_region_any hm (wpAnyIn_of_wpAny lp hno (noDefer_of hd) _ _ _ _ ?_)
  have := wpAny_of_head (Q' := Q) (g := l.toArray.size - k) (fun listed a' hL => by
    have := wpAny_of_seq (md := .any) (Q' := Q) (l.drop k) k listed a' { w with drawn := w.drawn + 1 } (fun j => by simp [List.getElem?_drop]) (by rw [hdl]; exact hL.1) hL.2
    rwa [hdl] at this) _ _ _ H
  rw [htl, show k + (l.toArray.size - k) = l.toArray.size by omega] at this
  exact this

/-- Reads, then one operation more: outside of a round, the draw folded. -/
theorem still_tail {P : Program} {id : Nat} {Q : Exit → Act → World → Prop} {a : Act} {w : World} {l : List Oper} (k : Nat) (hm : P.follows .mixedOrders = true) (hB : Region.lexTailB .any l.toArray k = true)
    (h : wpStill P l.toArray w.drew (fun a' => wpList P l.toArray Q (l.drop k) a' w.drew) (l.take k) a) : (Code.region id l.toArray true).wp P Q a w := wp_region_still_tail k hm hB h
end Go.Proofs.Ytfdldbfjeamlcaa.Round
/-! log.deeds: its map of three functions, what is looked up in it, and what the three do. No conditions. -/
namespace Go.Proofs.Ytfdldbfjeamlcaa.LogDeeds
open Go.RowKit Mem LogMath LogProg
set_option linter.unusedVariables false
set_option linter.unusedSimpArgs false

abbrev MT : TypeId := 127
def d1 : Value := .func (.func 92) #[] #[]
def d2 : Value := .func (.func 93) #[] #[]
def d3 : Value := .func (.func 94) #[] #[]
def DM : Obj := .map #[⟨.int .u8 1, d1, 0⟩, ⟨.int .u8 2, d2, 1⟩, ⟨.int .u8 3, d3, 2⟩] 3
/-- What is looked up. -/
def deedV (kd : Int) : Value := if kd = 1 then d1 else if kd = 2 then d2 else if kd = 3 then d3 else .nilFunc
def deedB (kd : Int) : Bool := decide (kd = 1) || (decide (kd = 2) || decide (kd = 3))
theorem zeroF (w : World) : (zeroValue 125).run Try.prog w = .ok .nilFunc w := by kernel_rfl
theorem push_set (h : Array Obj) (o o' : Obj) : (h.push o).setIfInBounds h.size o' = h.push o' := by
  apply Array.ext_getElem?
  intro i
  rw [Array.getElem?_setIfInBounds, Array.getElem?_push, Array.getElem?_push]
  by_cases hi : h.size = i
  · subst hi; simp
  · rw [if_neg hi]
    simp [Ne.symm hi]
theorem checkU8 (w : World) (b : Bool) (n : Int) : (Instr.checkKey b 10000 5 (.int .u8 n)).run Try.prog w = .ok () w := by
  unfold Instr.checkKey
  simp only [Sem.run_bind, run_underlying Try.underlying5, Result.andThen_ok]
  rfl
theorem run_ins (w : World) (es : Array MapEntry) (c : Nat) (n : Int) (v : Value) (hf : Instr.findNow (.int .u8) (.int .u8 n) es.toList 0 = some none) :
    (Instr.mapUpdate MT (.map (some w.heap.size)) (.int .u8 n) v).run Try.prog (w.alloc (.map es c)) = .ok () (w.alloc (.map (es.push ⟨.int .u8 n, v, c⟩) (c + 1))) := by
  have hb : (w.alloc (.map es c)).heap[w.heap.size]? = some (.map es c) := heap_alloc_new w _
  have hs : ∀ o : Obj, (setObj w.heap.size o).run Try.prog (w.alloc (.map es c)) = .ok () (w.alloc o) := fun o => by
    have e : ((w.alloc (.map es c)).heap.setIfInBounds w.heap.size o) = (w.alloc o).heap := push_set _ _ _
    simp only [setObj, Sem.run, hb]
    rw [e]
    rfl
  have hfk : (Instr.findKey 5 (.int .u8 n) es.toList).run Try.prog (w.alloc (.map es c)) = .ok none (w.alloc (.map es c)) := by
    unfold Instr.findKey
    simp only [Sem.run_bind, run_underlying Try.underlying5, Result.andThen_ok, hf]
    rfl
  simp only [Instr.mapUpdate, Sem.run_bind, run_underlying Try.underlying127, Result.andThen_ok, getObj, Sem.run, hb]
  simp only [Result.andThen, checkU8, hfk]
  exact hs _
theorem find_deed (kd : Int) (h : kd = 1 ∨ kd = 2 ∨ kd = 3) : ∃ i, Instr.findNow (.int .u8) (.int .u8 kd) [⟨.int .u8 1, d1, 0⟩, ⟨.int .u8 2, d2, 1⟩, ⟨.int .u8 3, d3, 2⟩] 0 = some (some (i, deedV kd)) := by
  rcases h with rfl | rfl | rfl
  · exact ⟨0, rfl⟩
  · exact ⟨1, rfl⟩
  · exact ⟨2, rfl⟩
theorem find_none (kd : Int) (h : ¬ (kd = 1 ∨ kd = 2 ∨ kd = 3)) : Instr.findNow (.int .u8) (.int .u8 kd) [⟨.int .u8 1, d1, 0⟩, ⟨.int .u8 2, d2, 1⟩, ⟨.int .u8 3, d3, 2⟩] 0 = some none := by
  have h1 : (kd == 1) = false := by simp; exact fun e => h (.inl e)
  have h2 : (kd == 2) = false := by simp; exact fun e => h (.inr (.inl e))
  have h3 : (kd == 3) = false := by simp; exact fun e => h (.inr (.inr e))
  simp [Instr.findNow, Instr.sameNow, h1, h2, h3]
theorem run_look {w : World} {b : Nat} (hb : w.heap[b]? = some DM) (kd : Int) :
    (Instr.lookup MT (.map (some b)) (.int .u8 kd) true).run Try.prog w = .ok (.tuple #[deedV kd, .bool (deedB kd)]) w := by
  unfold DM at hb
  by_cases h : kd = 1 ∨ kd = 2 ∨ kd = 3
  · obtain ⟨i, hf⟩ := find_deed kd h
    have hfk : (Instr.findKey 5 (.int .u8 kd) [⟨.int .u8 1, d1, 0⟩, ⟨.int .u8 2, d2, 1⟩, ⟨.int .u8 3, d3, 2⟩]).run Try.prog w = .ok (some (i, deedV kd)) w := by
      unfold Instr.findKey
      simp only [Sem.run_bind, run_underlying Try.underlying5, Result.andThen_ok, hf]
      rfl
    have e : deedB kd = true := by unfold deedB; rcases h with rfl | rfl | rfl <;> rfl
    rw [e]
    simp only [Instr.lookup, Sem.run_bind, run_underlying Try.underlying127, Result.andThen_ok, getObj, Sem.run, hb]
    simp only [Result.andThen, Sem.run_pure, checkU8, hfk, Sem.run_bind, if_true]
  · have hf := find_none kd h
    have hfk : (Instr.findKey 5 (.int .u8 kd) [⟨.int .u8 1, d1, 0⟩, ⟨.int .u8 2, d2, 1⟩, ⟨.int .u8 3, d3, 2⟩]).run Try.prog w = .ok none w := by
      unfold Instr.findKey
      simp only [Sem.run_bind, run_underlying Try.underlying5, Result.andThen_ok, hf]
      rfl
    have e : deedB kd = false := by
      unfold deedB
      rw [decide_eq_false (fun e => h (.inl e)), decide_eq_false (fun e => h (.inr (.inl e))), decide_eq_false (fun e => h (.inr (.inr e)))]
      rfl
    have e2 : deedV kd = .nilFunc := by
      unfold deedV
      rw [if_neg (fun e => h (.inl e)), if_neg (fun e => h (.inr (.inl e))), if_neg (fun e => h (.inr (.inr e)))]
    rw [e, e2]
    simp only [Instr.lookup, Sem.run_bind, run_underlying Try.underlying127, Result.andThen_ok, getObj, Sem.run, hb]
    simp only [Result.andThen, Sem.run_pure, checkU8, hfk, Sem.run_bind, if_true, zeroF]
set_option maxHeartbeats 2000000 in
theorem deeds_any (w : World) : Calls Try.prog 59 #[] w fun e w' => ∃ b, e = .returned (.map (some b)) ∧ w'.heap[b]? = some DM ∧ Below w.heap.size w w' := by
  have hmm := @run_makeMap Try.prog
  have h1 := run_ins w #[] 0 1 d1 rfl
  have h2 := run_ins w #[⟨.int .u8 1, d1, 0⟩] 1 2 d2 rfl
  have h3 := run_ins w #[⟨.int .u8 1, d1, 0⟩, ⟨.int .u8 2, d2, 1⟩] 2 3 d3 rfl
  simp only [d1, d2, d3, List.push_toArray, List.cons_append, List.nil_append] at h1 h2 h3
  go_enter Try.func59, Try.ntmps59
  go_wp2_with fail
  go_ret
  exact ⟨w.heap.size, rfl, heap_alloc_new w _, below_alloc (Below.refl _ _)⟩
end Go.Proofs.Ytfdldbfjeamlcaa.LogDeeds
/-! A log that came back, with its capacities. No conditions but those named. -/
namespace Go.Proofs.Ytfdldbfjeamlcaa.LogRetC
open Go.RowKit Mem LogMath
set_option linter.unusedVariables false
set_option linter.unusedSimpArgs false

theorem own_cap {w : World} {B n c : Nat} {X : Option Addr} {xs : List Value} (h : w.ownsRow B 5 1 (.slice X n c) n xs) : n ≤ c := by
  rcases h.2 with ⟨e1, e2⟩ | ⟨g, cap, cur, e1, e2, e3, e4, _⟩
  · omega
  · injection e1 with _ _ e1
    omega
def RetC (w : World) (B : Nat) (m : LV) (v : Value) : Prop := ∃ X ca Y cb, v = .agg #[.slice X m.a.t.length ca, .int .i64 m.a.k, .slice Y m.b.t.length cb, .int .i64 m.b.k] ∧ TAt w X m.a.t ∧ TAt w Y m.b.t ∧ TFree w B X m.a.t.length ∧ TFree w B Y m.b.t.length ∧ m.a.t.length ≤ ca ∧ m.b.t.length ≤ cb
theorem RetC.of_own {w : World} {B : Nat} {m : LV} {X : Option Addr} {ca : Nat} {Y : Option Addr} {cb : Nat} (h : TOwn w B (.slice X m.a.t.length ca) m.a.t) (h2 : TOwn w B (.slice Y m.b.t.length cb) m.b.t) :
    RetC w B m (.agg #[.slice X m.a.t.length ca, .int .i64 m.a.k, .slice Y m.b.t.length cb, .int .i64 m.b.k]) :=
  ⟨X, ca, Y, cb, rfl, TOwn.at_ h, TOwn.at_ h2, TOwn.free h, TOwn.free h2, own_cap h, own_cap h2⟩
theorem RetC.zero {w : World} {B : Nat} : RetC w B LV.z (.agg #[.slice none 0 0, .int .i64 0, .slice none 0 0, .int .i64 0]) :=
  ⟨none, 0, none, 0, rfl, TAt.nil, TAt.nil, TFree.nil, TFree.nil, Nat.le_refl _, Nat.le_refl _⟩
theorem RetC.less {w : World} {B B' : Nat} {m : LV} {v : Value} (h : RetC w B m v) (hB : B' ≤ B) : RetC w B' m v := by
  obtain ⟨X, ca, Y, cb, e, h1, h2, h3, h4, h5, h6⟩ := h
  exact ⟨X, ca, Y, cb, e, h1, h2, h3.less hB, h4.less hB, h5, h6⟩
theorem RetC.up {w w' : World} {B : Nat} {m : LV} {v : Value} (h : RetC w B m v) (hB : Below w.heap.size w w') : RetC w' B m v := by
  obtain ⟨X, ca, Y, cb, e, h1, h2, h3, h4, h5, h6⟩ := h
  exact ⟨X, ca, Y, cb, e, h1.up hB, h2.up hB, h3.up hB, h4.up hB, h5, h6⟩
theorem RetC.far {w : World} {B : Nat} {m : LV} {v : Value} (h : RetC w B m v) {p : Addr} (hp : p.block < B) (u : Value) : RetC (w.setCell p u) B m v := by
  obtain ⟨X, ca, Y, cb, e, h1, h2, h3, h4, h5, h6⟩ := h
  exact ⟨X, ca, Y, cb, e, h1.far h3 hp u, h2.far h4 hp u, h3.far hp u, h4.far hp u, h5, h6⟩
theorem RetC.w4 {w : World} {B g : Nat} {m : LV} {v : Value} (h : RetC w B m v) (hg : g < B) (a b c d : Value) : RetC (W4 w g a b c d) B m v :=
  (((h.far (p := ⟨g, 0, none⟩) hg a).far (p := ⟨g, 1, none⟩) hg b).far (p := ⟨g, 2, none⟩) hg c).far (p := ⟨g, 3, none⟩) hg d
end Go.Proofs.Ytfdldbfjeamlcaa.LogRetC
/-! log.Do: a log that may not be, and a sync. No conditions but those named. -/
namespace Go.Proofs.Ytfdldbfjeamlcaa.LogDoC
open Go.RowKit Mem LogMath LogProg LogDeeds Round LogRetC
open Go.Sort (grow)
set_option linter.unusedVariables false
set_option linter.unusedSimpArgs false

theorem doE_ok {l : LV} {kd ar : Int} {tx : List Int} (h : mayL l = true) (h2 : mayAct kd ar tx = true) (h3 : ((l.of (decide (ar = 1))).t.length : Int) + (tx.length : Int) ≤ 262144) :
    doE l kd ar tx = 0 ∧ doL l kd ar tx = l.put (decide (ar = 1)) (doneA (l.of (decide (ar = 1))) kd tx) := by
  have e : doE l kd ar tx = 0 := by unfold doE; rw [h, h2, if_pos rfl, if_pos rfl, if_pos h3]
  exact ⟨e, by unfold doL; rw [if_pos e]⟩
theorem doE_bad {l : LV} {kd ar : Int} {tx : List Int} (h : mayL l = false) : doE l kd ar tx = 8 ∧ doL l kd ar tx = LV.z := by
  have e : doE l kd ar tx = 8 := by unfold doE; rw [h]; rfl
  exact ⟨e, by unfold doL; rw [e]; rfl⟩
theorem mayL_len {x y : AV} (h : mayL ⟨x, y⟩ = true) : x.t.length ≤ 262144 ∧ y.t.length ≤ 262144 ∧ 0 ≤ x.k ∧ x.k ≤ (x.t.length : Int) ∧ 0 ≤ y.k ∧ y.k ≤ (y.t.length : Int) := by
  simp [mayL, mayA] at h
  omega
set_option maxHeartbeats 2000000 in
theorem deed3_0 (g : Nat) (X : Option Addr) (m c : Nat) (v1 : Value) (T : Option Addr) (n ct : Nat) (w : World) (c0 : w.cell? ⟨g, 0, none⟩ = some (.slice X m c)) (c1 : w.cell? ⟨g, 1, none⟩ = some v1) (f1 : w.frozen? ⟨g, 1, none⟩ = false) :
    Calls Try.prog 94 #[.pointer (some ⟨g, 0, none⟩), .slice T n ct] w fun e w' => (∃ v, e = .returned v) ∧ w' = w.setCell ⟨g, 1, none⟩ (.int .i64 (m : Int)) := by
  go_enter Try.func94, Try.ntmps94
  go_wp2_with fail
  go_end0
  exact ⟨⟨_, rfl⟩, rfl⟩
set_option maxHeartbeats 2000000 in
theorem deed3_2 (g : Nat) (X : Option Addr) (m c : Nat) (v1 : Value) (T : Option Addr) (n ct : Nat) (w : World) (c0 : w.cell? ⟨g, 2, none⟩ = some (.slice X m c)) (c1 : w.cell? ⟨g, 3, none⟩ = some v1) (f1 : w.frozen? ⟨g, 3, none⟩ = false) :
    Calls Try.prog 94 #[.pointer (some ⟨g, 2, none⟩), .slice T n ct] w fun e w' => (∃ v, e = .returned v) ∧ w' = w.setCell ⟨g, 3, none⟩ (.int .i64 (m : Int)) := by
  go_enter Try.func94, Try.ntmps94
  go_wp2_with fail
  go_end0
  exact ⟨⟨_, rfl⟩, rfl⟩
set_option maxRecDepth 100000 in
set_option maxHeartbeats 4000000 in
theorem lDoBad (x y : AV) (X : Option Addr) (ca : Nat) (Y : Option Addr) (cb : Nat) (kd ar : Int) (T : Option Addr) (ct : Nat) (tx : List Int) (h : mayL ⟨x, y⟩ = false) (w : World) :
    Calls Try.prog 28 #[.agg #[.slice X x.t.length ca, .int .i64 x.k, .slice Y y.t.length cb, .int .i64 y.k], .agg #[.int .u8 kd, .int .i64 ar, .slice T tx.length ct]] w fun e w' => ∃ v, e = .returned (.tuple #[v, .int .i64 (doE ⟨x, y⟩ kd ar tx)]) ∧ RetC w' w.heap.size (doL ⟨x, y⟩ kd ar tx) v ∧ Below w.heap.size w w' := by
  obtain ⟨E1, E2⟩ := doE_bad (kd := kd) (ar := ar) (tx := tx) h
  rw [E1, E2]
  have EE := Lib.hid (check_bad h)
  clear E1 E2
  go_enter Try.func28, Try.ntmps28
  go_wp2_with fail
  refine (lCheck x y X ca Y cb _).mono ?_
  rintro e w1 ⟨rfl, hB1⟩
  rw [EE.out]
  have hL := ((Blk.new w 70 #[.slice X x.t.length ca, .int .i64 x.k, .slice Y y.t.length cb, .int .i64 y.k]).alloc (.cells #[.int .u8 kd, .int .i64 ar, .slice T tx.length ct] 72)).alloc (.cells #[.slice none 0 0, .int .i64 0, .slice none 0 0, .int .i64 0] 70) |>.below hB1 (by simp; omega)
  have hA := (blk1 w 72 #[.int .u8 kd, .int .i64 ar, .slice T tx.length ct] (o := .cells #[.slice X x.t.length ca, .int .i64 x.k, .slice Y y.t.length cb, .int .i64 y.k] 70)).alloc (.cells #[.slice none 0 0, .int .i64 0, .slice none 0 0, .int .i64 0] 70) |>.below hB1 (by simp)
  have hZ := (blk2 w 70 #[.slice none 0 0, .int .i64 0, .slice none 0 0, .int .i64 0] (o := .cells #[.slice X x.t.length ca, .int .i64 x.k, .slice Y y.t.length cb, .int .i64 y.k] 70) (o' := .cells #[.int .u8 kd, .int .i64 ar, .slice T tx.length ct] 72)).below hB1 (by simp)
  have hB := below_up (below_alloc (below_alloc (below_alloc (Below.refl _ _)))) hB1
  clear hB1
  have z0 : w1.cell? ⟨w.heap.size + 1 + 1, 0, none⟩ = some (.slice none 0 0) := hZ.cell 0
  have z1 : w1.cell? ⟨w.heap.size + 1 + 1, 1, none⟩ = some (.int .i64 0) := hZ.cell 1
  have z2 : w1.cell? ⟨w.heap.size + 1 + 1, 2, none⟩ = some (.slice none 0 0) := hZ.cell 2
  have z3 : w1.cell? ⟨w.heap.size + 1 + 1, 3, none⟩ = some (.int .i64 0) := hZ.cell 3
  have zf0 := hZ.frozen 0
  have zf1 := hZ.frozen 1
  have zf2 := hZ.frozen 2
  have zf3 := hZ.frozen 3
  have HH := Lib.hid (And.intro hZ hB)
  clear hL hA hZ hB
  go_wp2_with fail
  have hK4 := W4.blk HH.out.1 (.slice none 0 0) (.int .i64 0) (.slice none 0 0) (.int .i64 0)
  have hB4 := W4.below (g := w.heap.size + 1 + 1) HH.out.2 (by omega) (.slice none 0 0) (.int .i64 0) (.slice none 0 0) (.int .i64 0)
  rw [show ((((w1.setCell ⟨w.heap.size + 1 + 1, 0, none⟩ (.slice none 0 0)).setCell ⟨w.heap.size + 1 + 1, 1, none⟩ (.int .i64 0)).setCell ⟨w.heap.size + 1 + 1, 2, none⟩ (.slice none 0 0)).setCell ⟨w.heap.size + 1 + 1, 3, none⟩ (.int .i64 0)) = W4 w1 (w.heap.size + 1 + 1) (.slice none 0 0) (.int .i64 0) (.slice none 0 0) (.int .i64 0) from rfl]
  generalize W4 w1 (w.heap.size + 1 + 1) (.slice none 0 0) (.int .i64 0) (.slice none 0 0) (.int .i64 0) = w99 at *
  clear z0 z1 z2 z3 zf0 zf1 zf2 zf3
  have c0 := hK4.cell 0
  have c1 := hK4.cell 1
  have c2 := hK4.cell 2
  have c3 := hK4.cell 3
  simp only [List.getElem?_toArray, List.getElem?_cons_zero, List.getElem?_cons_succ] at c0 c1 c2 c3
  exact bodyPost_ret (v := .tuple #[.agg #[.slice none 0 0, .int .i64 0, .slice none 0 0, .int .i64 0], .int .i64 8]) (by simp [results, Try.results28, go_sem, c0, c1, c2, c3]) rfl ⟨_, rfl, RetC.zero, hB4⟩
set_option maxRecDepth 100000 in
set_option maxHeartbeats 4000000 in
theorem lDoOk30 (x y : AV) (X : Option Addr) (ca : Nat) (Y : Option Addr) (cb : Nat) (T : Option Addr) (ct : Nat) (tx : List Int) (h : mayL ⟨x, y⟩ = true) (htx0 : tx = []) (h3 : (x.t.length : Int) + (tx.length : Int) ≤ 262144) (w : World) (hX : TAt w X x.t) (hY : TAt w Y y.t) :
    Calls Try.prog 28 #[.agg #[.slice X x.t.length ca, .int .i64 x.k, .slice Y y.t.length cb, .int .i64 y.k], .agg #[.int .u8 3, .int .i64 0, .slice T tx.length ct]] w fun e w' => ∃ v, e = .returned (.tuple #[v, .int .i64 0]) ∧ RetC w' w.heap.size ⟨⟨x.t, (x.t.length : Int)⟩, y⟩ v ∧ Below w.heap.size w w' := by
  subst htx0
  simp only [List.length_nil] at h3
  have EE := Lib.hid (check_ok h)
  obtain ⟨l1, l2, _, _, _, _⟩ := mayL_len h
  have f1 : IntKind.i64.wrap (262144 - (x.t.length : Int)) = 262144 - (x.t.length : Int) := IntWalk.i64_in _ (by omega)
  have g1 : ¬ 262144 - (x.t.length : Int) < (0 : Int) := by omega
  have HX := Lib.hid (And.intro hX hY)
  clear hX hY
  go_enter Try.func28, Try.ntmps28
  go_wp2_with fail
  refine (lCheck x y X ca Y cb _).mono ?_
  rintro e w1 ⟨rfl, hB1⟩
  rw [EE.out]
  have hL := ((Blk.new w 70 #[.slice X x.t.length ca, .int .i64 x.k, .slice Y y.t.length cb, .int .i64 y.k]).alloc (.cells #[.int .u8 3, .int .i64 0, .slice T ([] : List Int).length ct] 72)).alloc (.cells #[.slice none 0 0, .int .i64 0, .slice none 0 0, .int .i64 0] 70) |>.below hB1 (by simp; omega)
  have hA := (blk1 w 72 #[.int .u8 3, .int .i64 0, .slice T ([] : List Int).length ct] (o := .cells #[.slice X x.t.length ca, .int .i64 x.k, .slice Y y.t.length cb, .int .i64 y.k] 70)).alloc (.cells #[.slice none 0 0, .int .i64 0, .slice none 0 0, .int .i64 0] 70) |>.below hB1 (by simp)
  have hZ := (blk2 w 70 #[.slice none 0 0, .int .i64 0, .slice none 0 0, .int .i64 0] (o := .cells #[.slice X x.t.length ca, .int .i64 x.k, .slice Y y.t.length cb, .int .i64 y.k] 70) (o' := .cells #[.int .u8 3, .int .i64 0, .slice T ([] : List Int).length ct] 72)).below hB1 (by simp)
  have hB := below_up (below_alloc (below_alloc (below_alloc (Below.refl _ _)))) hB1
  clear hB1
  have q0 : w1.cell? ⟨w.heap.size + 1, 0, none⟩ = some (.int .u8 3) := hA.cell 0
  have q1 : w1.cell? ⟨w.heap.size + 1, 1, none⟩ = some (.int .i64 0) := hA.cell 1
  have q2 : w1.cell? ⟨w.heap.size + 1, 2, none⟩ = some (.slice T ([] : List Int).length ct) := hA.cell 2
  have H1 := Lib.hid (And.intro hL (And.intro hA (And.intro hZ hB)))
  have K0 : KeptL w1 [(⟨w.heap.size + 1, 0, none⟩, .int .u8 3)] w1.drew := KeptL.drew ⟨Below.refl _ _, q0⟩
  clear hL hA hZ hB
  go_upto_region 4 with fail
  go_region_held3 (fun W => Below w1.heap.size w1 W ∧ W.cell? ⟨w.heap.size + 1, 0, none⟩ = some (.int .u8 3)) (first | exact K0 | exact KeptL.alloc (fs := [(⟨w.heap.size + 1, 0, none⟩, .int .u8 3)]) (by assumption) _ | exact KeptL.up (fs := [(⟨w.heap.size + 1, 0, none⟩, .int .u8 3)]) (by assumption) (by assumption) | assumption) (first | (go_at_call 59; refine (deeds_any _).mono ?_; rintro e w2 ⟨bm, rfl, hDM, hB2⟩; have hlk := run_look hDM 3))
  have hBq : Below w1.heap.size w1 w2 := And.left (by assumption)
  have hL := H1.out.1.below hBq H1.out.1.lt
  have hA := H1.out.2.1.below hBq H1.out.2.1.lt
  have hZ := H1.out.2.2.1.below hBq H1.out.2.2.1.lt
  have hB := below_up H1.out.2.2.2 hBq
  clear H1 K0 q0 q1 q2 hBq
  rw [show deedB 3 = true from rfl, show deedV 3 = d3 from rfl]
  unfold d3
  have a0 : w2.cell? ⟨w.heap.size + 1, 0, none⟩ = some (.int .u8 3) := hA.cell 0
  have a1 : w2.cell? ⟨w.heap.size + 1, 1, none⟩ = some (.int .i64 0) := hA.cell 1
  have a2 : w2.cell? ⟨w.heap.size + 1, 2, none⟩ = some (.slice T ([] : List Int).length ct) := hA.cell 2
  have p : w2.cell? ⟨w.heap.size, 0, none⟩ = some (.slice X x.t.length ca) := hL.cell 0
  
  go_wp2_with fail
  have kq0 := cell_regrown p
  have kq1 := cell_regrown a1
  have kq2 := cell_regrown a2
  refine wp_region_quiet_below (by kernel_rfl) (by kernel_rfl) ?_
  repeat (go_big_quiet_step (first | fail))
  refine wpQuiet_nil ?_
  intro _ hw'
  obtain ⟨⟨dq, osq⟩, hw''⟩ := hw'
  subst hw''
  have hBq := below_regrown w2 dq osq
  clear kq0 kq1 kq2
  generalize grow (redrawn w2 dq) osq = w3 at *
  have hL3 := hL.below hBq hL.lt
  have hA3 := hA.below hBq hA.lt
  have hZ3 := hZ.below hBq hZ.lt
  have hB3 := below_up hB hBq
  clear hBq hL hA hZ hB p a0 a1 a2
  have l0 : w3.cell? ⟨w.heap.size, 0, none⟩ = some (.slice X x.t.length ca) := hL3.cell 0
  have l1 : w3.cell? ⟨w.heap.size, 1, none⟩ = some (.int .i64 x.k) := hL3.cell 1
  have l2 : w3.cell? ⟨w.heap.size, 2, none⟩ = some (.slice Y y.t.length cb) := hL3.cell 2
  have l3 : w3.cell? ⟨w.heap.size, 3, none⟩ = some (.int .i64 y.k) := hL3.cell 3
  have H3 := Lib.hid (And.intro hZ3 (And.intro hB3 (And.intro hA3 hL3)))
  clear hZ3 hB3 hA3 hL3
  go_wp2_with fail
  refine (lTwin x y X ca Y cb (by omega) (by omega) _ (HX.out.1.up H3.out.2.1) (HX.out.2.up H3.out.2.1)).mono ?_
  rintro e w4 ⟨X', ca', Y', cb', rfl, hO, hP, hne, hB4⟩
  have hZ4 := H3.out.1.below hB4 H3.out.1.lt
  have hA4 := H3.out.2.2.1.below hB4 H3.out.2.2.1.lt
  have hL4 := H3.out.2.2.2.below hB4 H3.out.2.2.2.lt
  have hB5 := below_up H3.out.2.1 hB4
  have hs : w.heap.size + 1 + 1 < w3.heap.size := H3.out.1.lt
  have hs0 : w3.heap.size ≤ w4.heap.size := hB4.size
  have hs9 := H3.out.2.1.size
  have m0 : w4.cell? ⟨w.heap.size, 0, none⟩ = some (.slice X x.t.length ca) := hL4.cell 0
  have m1 : w4.cell? ⟨w.heap.size, 1, none⟩ = some (.int .i64 x.k) := hL4.cell 1
  have m2 : w4.cell? ⟨w.heap.size, 2, none⟩ = some (.slice Y y.t.length cb) := hL4.cell 2
  have m3 : w4.cell? ⟨w.heap.size, 3, none⟩ = some (.int .i64 y.k) := hL4.cell 3
  have mf0 := hL4.frozen 0
  have mf1 := hL4.frozen 1
  have mf2 := hL4.frozen 2
  have mf3 := hL4.frozen 3
  have H4 := Lib.hid (And.intro hZ4 (And.intro hA4 (And.intro hL4 (And.intro hB5 (And.intro hO (And.intro hP hne))))))
  clear hO hP hne hB4 hZ4 hA4 hL4 hB5 H3 l0 l1 l2 l3
  go_upto_region 10 with fail
  have hK5 := W4.blk H4.out.2.2.1 (.slice X' x.t.length ca') (.int .i64 x.k) (.slice Y' y.t.length cb') (.int .i64 y.k)
  have hB5 := W4.below (g := w.heap.size) H4.out.2.2.2.1 (Nat.le_refl _) (.slice X' x.t.length ca') (.int .i64 x.k) (.slice Y' y.t.length cb') (.int .i64 y.k)
  have hA5 := W4.far (g := w.heap.size) H4.out.2.1 (by omega) (.slice X' x.t.length ca') (.int .i64 x.k) (.slice Y' y.t.length cb') (.int .i64 y.k)
  have hZ5 := W4.far (g := w.heap.size) H4.out.1 (by omega) (.slice X' x.t.length ca') (.int .i64 x.k) (.slice Y' y.t.length cb') (.int .i64 y.k)
  have hO5 := W4.own (g := w.heap.size) H4.out.2.2.2.2.1 (own_ne H4.out.2.2.2.2.1 (by omega)) (.slice X' x.t.length ca') (.int .i64 x.k) (.slice Y' y.t.length cb') (.int .i64 y.k)
  have hP5 := W4.own (g := w.heap.size) H4.out.2.2.2.2.2.1 (own_ne H4.out.2.2.2.2.2.1 (by omega)) (.slice X' x.t.length ca') (.int .i64 x.k) (.slice Y' y.t.length cb') (.int .i64 y.k)
  have hs5 := W4.size w4 w.heap.size (.slice X' x.t.length ca') (.int .i64 x.k) (.slice Y' y.t.length cb') (.int .i64 y.k)
  have hne := H4.out.2.2.2.2.2.2
  clear m0 m1 m2 m3 mf0 mf1 mf2 mf3
  rw [show ((((w4.setCell ⟨w.heap.size, 0, none⟩ (.slice X' x.t.length ca')).setCell ⟨w.heap.size, 1, none⟩ (.int .i64 x.k)).setCell ⟨w.heap.size, 2, none⟩ (.slice Y' y.t.length cb')).setCell ⟨w.heap.size, 3, none⟩ (.int .i64 y.k)) = W4 w4 (w.heap.size) (.slice X' x.t.length ca') (.int .i64 x.k) (.slice Y' y.t.length cb') (.int .i64 y.k) from rfl]
  generalize W4 w4 (w.heap.size) (.slice X' x.t.length ca') (.int .i64 x.k) (.slice Y' y.t.length cb') (.int .i64 y.k) = w5 at *
  clear H4
  have H5 := Lib.hid (And.intro hZ5 (And.intro hA5 (And.intro hK5 (And.intro hB5 (And.intro hO5 (And.intro hP5 hne))))))
  have a0 : w5.cell? ⟨w.heap.size + 1, 0, none⟩ = some (.int .u8 3) := hA5.cell 0
  have a1 : w5.cell? ⟨w.heap.size + 1, 1, none⟩ = some (.int .i64 0) := hA5.cell 1
  have a2 : w5.cell? ⟨w.heap.size + 1, 2, none⟩ = some (.slice T ([] : List Int).length ct) := hA5.cell 2
  have m0 : w5.cell? ⟨w.heap.size, 0, none⟩ = some (.slice X' x.t.length ca') := hK5.cell 0
  have m1 : w5.cell? ⟨w.heap.size, 1, none⟩ = some (.int .i64 x.k) := hK5.cell 1
  have m2 : w5.cell? ⟨w.heap.size, 2, none⟩ = some (.slice Y' y.t.length cb') := hK5.cell 2
  have m3 : w5.cell? ⟨w.heap.size, 3, none⟩ = some (.int .i64 y.k) := hK5.cell 3
  have mf0 := hK5.frozen 0
  have mf1 := hK5.frozen 1
  have mf2 := hK5.frozen 2
  have mf3 := hK5.frozen 3
  clear hZ5 hA5 hK5 hB5 hO5 hP5 hne
  go_region_with (first | (go_at_call 94; refine (deed3_0 w.heap.size _ _ _ _ T ([] : List Int).length ct w5.drew m0 m1 mf1).mono ?_; rintro e w6 ⟨⟨v6, rfl⟩, hw6⟩; have HW6 := Lib.hid hw6; clear hw6))
  all_goals
    clear a0 a1 a2 m0 m1 m2 m3 mf0 mf1 mf2 mf3
    have hK6 : Blk w6 w.heap.size 70 #[.slice X' x.t.length ca', .int .i64 (x.t.length : Int), .slice Y' y.t.length cb', .int .i64 y.k] := by
      rw [HW6.out]; exact (H5.out.2.2.1.drew.set_ 1 (.int .i64 (x.t.length : Int)))
    have hZ6 : Blk w6 (w.heap.size + 1 + 1) 70 #[.slice none 0 0, .int .i64 0, .slice none 0 0, .int .i64 0] := by
      rw [HW6.out]; exact (H5.out.1.drew.far (p := ⟨w.heap.size, 1, none⟩) (by simp <;> omega) (.int .i64 (x.t.length : Int)))
    have hB6 : Below w.heap.size w w6 := by
      rw [HW6.out]; exact (H5.out.2.2.2.1.drew.setCell (p := ⟨w.heap.size, 1, none⟩) (Nat.le_refl _) (.int .i64 (x.t.length : Int)))
    have hR6 := RetC.of_own (m := ⟨⟨x.t, (x.t.length : Int)⟩, y⟩) (Go.RowKit.ownsRow_setCell_below H5.out.2.2.2.2.1.drew (a := ⟨w.heap.size, 1, none⟩) (by show w.heap.size < w3.heap.size; omega) (.int .i64 (x.t.length : Int))) (Go.RowKit.ownsRow_setCell_below H5.out.2.2.2.2.2.1.drew (a := ⟨w.heap.size, 1, none⟩) (by show w.heap.size < w3.heap.size; omega) (.int .i64 (x.t.length : Int)))
    change RetC (w5.drew.setCell ⟨w.heap.size, 1, none⟩ (.int .i64 (x.t.length : Int))) _ _ (.agg #[.slice X' x.t.length ca', .int .i64 (x.t.length : Int), .slice Y' y.t.length cb', .int .i64 y.k]) at hR6
    rw [← HW6.out] at hR6
    have y0 : w6.cell? ⟨w.heap.size, 0, none⟩ = some (.slice X' x.t.length ca') := hK6.cell 0
    have y1 : w6.cell? ⟨w.heap.size, 1, none⟩ = some (.int .i64 (x.t.length : Int)) := hK6.cell 1
    have y2 : w6.cell? ⟨w.heap.size, 2, none⟩ = some (.slice Y' y.t.length cb') := hK6.cell 2
    have y3 : w6.cell? ⟨w.heap.size, 3, none⟩ = some (.int .i64 y.k) := hK6.cell 3
    have z0 : w6.cell? ⟨w.heap.size + 1 + 1, 0, none⟩ = some (.slice none 0 0) := hZ6.cell 0
    have z1 : w6.cell? ⟨w.heap.size + 1 + 1, 1, none⟩ = some (.int .i64 0) := hZ6.cell 1
    have z2 : w6.cell? ⟨w.heap.size + 1 + 1, 2, none⟩ = some (.slice none 0 0) := hZ6.cell 2
    have z3 : w6.cell? ⟨w.heap.size + 1 + 1, 3, none⟩ = some (.int .i64 0) := hZ6.cell 3
    have zf0 := hZ6.frozen 0
    have zf1 := hZ6.frozen 1
    have zf2 := hZ6.frozen 2
    have zf3 := hZ6.frozen 3
    have HH := Lib.hid (And.intro hZ6 (And.intro hB6 hR6))
    clear hZ6 hB6 hR6 hK6 HW6 H5 HX
    go_wp2_with fail
    have hK4 := W4.blk HH.out.1 (.slice X' x.t.length ca') (.int .i64 (x.t.length : Int)) (.slice Y' y.t.length cb') (.int .i64 y.k)
    have hB4 := W4.below (g := w.heap.size + 1 + 1) HH.out.2.1 (by omega) (.slice X' x.t.length ca') (.int .i64 (x.t.length : Int)) (.slice Y' y.t.length cb') (.int .i64 y.k)
    have hR4 := RetC.w4 (g := w.heap.size + 1 + 1) HH.out.2.2 hs (.slice X' x.t.length ca') (.int .i64 (x.t.length : Int)) (.slice Y' y.t.length cb') (.int .i64 y.k)
    clear HH z0 z1 z2 z3 zf0 zf1 zf2 zf3 y0 y1 y2 y3
    rw [show ((((w6.setCell ⟨w.heap.size + 1 + 1, 0, none⟩ (.slice X' x.t.length ca')).setCell ⟨w.heap.size + 1 + 1, 1, none⟩ (.int .i64 (x.t.length : Int))).setCell ⟨w.heap.size + 1 + 1, 2, none⟩ (.slice Y' y.t.length cb')).setCell ⟨w.heap.size + 1 + 1, 3, none⟩ (.int .i64 y.k)) = W4 w6 (w.heap.size + 1 + 1) (.slice X' x.t.length ca') (.int .i64 (x.t.length : Int)) (.slice Y' y.t.length cb') (.int .i64 y.k) from rfl]
    generalize W4 w6 (w.heap.size + 1 + 1) (.slice X' x.t.length ca') (.int .i64 (x.t.length : Int)) (.slice Y' y.t.length cb') (.int .i64 y.k) = w9 at *
    have c0 := hK4.cell 0
    have c1 := hK4.cell 1
    have c2 := hK4.cell 2
    have c3 := hK4.cell 3
    simp only [List.getElem?_toArray, List.getElem?_cons_zero, List.getElem?_cons_succ] at c0 c1 c2 c3
    exact bodyPost_ret (v := .tuple #[.agg #[.slice X' x.t.length ca', .int .i64 (x.t.length : Int), .slice Y' y.t.length cb', .int .i64 y.k], .int .i64 0]) (by simp [results, Try.results28, go_sem, c0, c1, c2, c3]) rfl ⟨_, rfl, hR4.less hs9, hB4⟩
set_option maxRecDepth 100000 in
set_option maxHeartbeats 4000000 in
theorem lDoOk31 (x y : AV) (X : Option Addr) (ca : Nat) (Y : Option Addr) (cb : Nat) (T : Option Addr) (ct : Nat) (tx : List Int) (h : mayL ⟨x, y⟩ = true) (htx0 : tx = []) (h3 : (y.t.length : Int) + (tx.length : Int) ≤ 262144) (w : World) (hX : TAt w X x.t) (hY : TAt w Y y.t) :
    Calls Try.prog 28 #[.agg #[.slice X x.t.length ca, .int .i64 x.k, .slice Y y.t.length cb, .int .i64 y.k], .agg #[.int .u8 3, .int .i64 1, .slice T tx.length ct]] w fun e w' => ∃ v, e = .returned (.tuple #[v, .int .i64 0]) ∧ RetC w' w.heap.size ⟨x, ⟨y.t, (y.t.length : Int)⟩⟩ v ∧ Below w.heap.size w w' := by
  subst htx0
  simp only [List.length_nil] at h3
  have EE := Lib.hid (check_ok h)
  obtain ⟨l1, l2, _, _, _, _⟩ := mayL_len h
  have f1 : IntKind.i64.wrap (262144 - (y.t.length : Int)) = 262144 - (y.t.length : Int) := IntWalk.i64_in _ (by omega)
  have g1 : ¬ 262144 - (y.t.length : Int) < (0 : Int) := by omega
  have HX := Lib.hid (And.intro hX hY)
  clear hX hY
  go_enter Try.func28, Try.ntmps28
  go_wp2_with fail
  refine (lCheck x y X ca Y cb _).mono ?_
  rintro e w1 ⟨rfl, hB1⟩
  rw [EE.out]
  have hL := ((Blk.new w 70 #[.slice X x.t.length ca, .int .i64 x.k, .slice Y y.t.length cb, .int .i64 y.k]).alloc (.cells #[.int .u8 3, .int .i64 1, .slice T ([] : List Int).length ct] 72)).alloc (.cells #[.slice none 0 0, .int .i64 0, .slice none 0 0, .int .i64 0] 70) |>.below hB1 (by simp; omega)
  have hA := (blk1 w 72 #[.int .u8 3, .int .i64 1, .slice T ([] : List Int).length ct] (o := .cells #[.slice X x.t.length ca, .int .i64 x.k, .slice Y y.t.length cb, .int .i64 y.k] 70)).alloc (.cells #[.slice none 0 0, .int .i64 0, .slice none 0 0, .int .i64 0] 70) |>.below hB1 (by simp)
  have hZ := (blk2 w 70 #[.slice none 0 0, .int .i64 0, .slice none 0 0, .int .i64 0] (o := .cells #[.slice X x.t.length ca, .int .i64 x.k, .slice Y y.t.length cb, .int .i64 y.k] 70) (o' := .cells #[.int .u8 3, .int .i64 1, .slice T ([] : List Int).length ct] 72)).below hB1 (by simp)
  have hB := below_up (below_alloc (below_alloc (below_alloc (Below.refl _ _)))) hB1
  clear hB1
  have q0 : w1.cell? ⟨w.heap.size + 1, 0, none⟩ = some (.int .u8 3) := hA.cell 0
  have q1 : w1.cell? ⟨w.heap.size + 1, 1, none⟩ = some (.int .i64 1) := hA.cell 1
  have q2 : w1.cell? ⟨w.heap.size + 1, 2, none⟩ = some (.slice T ([] : List Int).length ct) := hA.cell 2
  have H1 := Lib.hid (And.intro hL (And.intro hA (And.intro hZ hB)))
  have K0 : KeptL w1 [(⟨w.heap.size + 1, 0, none⟩, .int .u8 3)] w1.drew := KeptL.drew ⟨Below.refl _ _, q0⟩
  clear hL hA hZ hB
  go_upto_region 4 with fail
  go_region_held3 (fun W => Below w1.heap.size w1 W ∧ W.cell? ⟨w.heap.size + 1, 0, none⟩ = some (.int .u8 3)) (first | exact K0 | exact KeptL.alloc (fs := [(⟨w.heap.size + 1, 0, none⟩, .int .u8 3)]) (by assumption) _ | exact KeptL.up (fs := [(⟨w.heap.size + 1, 0, none⟩, .int .u8 3)]) (by assumption) (by assumption) | assumption) (first | (go_at_call 59; refine (deeds_any _).mono ?_; rintro e w2 ⟨bm, rfl, hDM, hB2⟩; have hlk := run_look hDM 3))
  have hBq : Below w1.heap.size w1 w2 := And.left (by assumption)
  have hL := H1.out.1.below hBq H1.out.1.lt
  have hA := H1.out.2.1.below hBq H1.out.2.1.lt
  have hZ := H1.out.2.2.1.below hBq H1.out.2.2.1.lt
  have hB := below_up H1.out.2.2.2 hBq
  clear H1 K0 q0 q1 q2 hBq
  rw [show deedB 3 = true from rfl, show deedV 3 = d3 from rfl]
  unfold d3
  have a0 : w2.cell? ⟨w.heap.size + 1, 0, none⟩ = some (.int .u8 3) := hA.cell 0
  have a1 : w2.cell? ⟨w.heap.size + 1, 1, none⟩ = some (.int .i64 1) := hA.cell 1
  have a2 : w2.cell? ⟨w.heap.size + 1, 2, none⟩ = some (.slice T ([] : List Int).length ct) := hA.cell 2
  have p : w2.cell? ⟨w.heap.size, 2, none⟩ = some (.slice Y y.t.length cb) := hL.cell 2
  
  go_wp2_with fail
  have kq0 := cell_regrown p
  have kq1 := cell_regrown a1
  have kq2 := cell_regrown a2
  refine wp_region_quiet_below (by kernel_rfl) (by kernel_rfl) ?_
  repeat (go_big_quiet_step (first | fail))
  refine wpQuiet_nil ?_
  intro _ hw'
  obtain ⟨⟨dq, osq⟩, hw''⟩ := hw'
  subst hw''
  have hBq := below_regrown w2 dq osq
  clear kq0 kq1 kq2
  generalize grow (redrawn w2 dq) osq = w3 at *
  have hL3 := hL.below hBq hL.lt
  have hA3 := hA.below hBq hA.lt
  have hZ3 := hZ.below hBq hZ.lt
  have hB3 := below_up hB hBq
  clear hBq hL hA hZ hB p a0 a1 a2
  have l0 : w3.cell? ⟨w.heap.size, 0, none⟩ = some (.slice X x.t.length ca) := hL3.cell 0
  have l1 : w3.cell? ⟨w.heap.size, 1, none⟩ = some (.int .i64 x.k) := hL3.cell 1
  have l2 : w3.cell? ⟨w.heap.size, 2, none⟩ = some (.slice Y y.t.length cb) := hL3.cell 2
  have l3 : w3.cell? ⟨w.heap.size, 3, none⟩ = some (.int .i64 y.k) := hL3.cell 3
  have H3 := Lib.hid (And.intro hZ3 (And.intro hB3 (And.intro hA3 hL3)))
  clear hZ3 hB3 hA3 hL3
  go_wp2_with fail
  refine (lTwin x y X ca Y cb (by omega) (by omega) _ (HX.out.1.up H3.out.2.1) (HX.out.2.up H3.out.2.1)).mono ?_
  rintro e w4 ⟨X', ca', Y', cb', rfl, hO, hP, hne, hB4⟩
  have hZ4 := H3.out.1.below hB4 H3.out.1.lt
  have hA4 := H3.out.2.2.1.below hB4 H3.out.2.2.1.lt
  have hL4 := H3.out.2.2.2.below hB4 H3.out.2.2.2.lt
  have hB5 := below_up H3.out.2.1 hB4
  have hs : w.heap.size + 1 + 1 < w3.heap.size := H3.out.1.lt
  have hs0 : w3.heap.size ≤ w4.heap.size := hB4.size
  have hs9 := H3.out.2.1.size
  have m0 : w4.cell? ⟨w.heap.size, 0, none⟩ = some (.slice X x.t.length ca) := hL4.cell 0
  have m1 : w4.cell? ⟨w.heap.size, 1, none⟩ = some (.int .i64 x.k) := hL4.cell 1
  have m2 : w4.cell? ⟨w.heap.size, 2, none⟩ = some (.slice Y y.t.length cb) := hL4.cell 2
  have m3 : w4.cell? ⟨w.heap.size, 3, none⟩ = some (.int .i64 y.k) := hL4.cell 3
  have mf0 := hL4.frozen 0
  have mf1 := hL4.frozen 1
  have mf2 := hL4.frozen 2
  have mf3 := hL4.frozen 3
  have H4 := Lib.hid (And.intro hZ4 (And.intro hA4 (And.intro hL4 (And.intro hB5 (And.intro hO (And.intro hP hne))))))
  clear hO hP hne hB4 hZ4 hA4 hL4 hB5 H3 l0 l1 l2 l3
  go_upto_region 10 with fail
  have hK5 := W4.blk H4.out.2.2.1 (.slice X' x.t.length ca') (.int .i64 x.k) (.slice Y' y.t.length cb') (.int .i64 y.k)
  have hB5 := W4.below (g := w.heap.size) H4.out.2.2.2.1 (Nat.le_refl _) (.slice X' x.t.length ca') (.int .i64 x.k) (.slice Y' y.t.length cb') (.int .i64 y.k)
  have hA5 := W4.far (g := w.heap.size) H4.out.2.1 (by omega) (.slice X' x.t.length ca') (.int .i64 x.k) (.slice Y' y.t.length cb') (.int .i64 y.k)
  have hZ5 := W4.far (g := w.heap.size) H4.out.1 (by omega) (.slice X' x.t.length ca') (.int .i64 x.k) (.slice Y' y.t.length cb') (.int .i64 y.k)
  have hO5 := W4.own (g := w.heap.size) H4.out.2.2.2.2.1 (own_ne H4.out.2.2.2.2.1 (by omega)) (.slice X' x.t.length ca') (.int .i64 x.k) (.slice Y' y.t.length cb') (.int .i64 y.k)
  have hP5 := W4.own (g := w.heap.size) H4.out.2.2.2.2.2.1 (own_ne H4.out.2.2.2.2.2.1 (by omega)) (.slice X' x.t.length ca') (.int .i64 x.k) (.slice Y' y.t.length cb') (.int .i64 y.k)
  have hs5 := W4.size w4 w.heap.size (.slice X' x.t.length ca') (.int .i64 x.k) (.slice Y' y.t.length cb') (.int .i64 y.k)
  have hne := H4.out.2.2.2.2.2.2
  clear m0 m1 m2 m3 mf0 mf1 mf2 mf3
  rw [show ((((w4.setCell ⟨w.heap.size, 0, none⟩ (.slice X' x.t.length ca')).setCell ⟨w.heap.size, 1, none⟩ (.int .i64 x.k)).setCell ⟨w.heap.size, 2, none⟩ (.slice Y' y.t.length cb')).setCell ⟨w.heap.size, 3, none⟩ (.int .i64 y.k)) = W4 w4 (w.heap.size) (.slice X' x.t.length ca') (.int .i64 x.k) (.slice Y' y.t.length cb') (.int .i64 y.k) from rfl]
  generalize W4 w4 (w.heap.size) (.slice X' x.t.length ca') (.int .i64 x.k) (.slice Y' y.t.length cb') (.int .i64 y.k) = w5 at *
  clear H4
  have H5 := Lib.hid (And.intro hZ5 (And.intro hA5 (And.intro hK5 (And.intro hB5 (And.intro hO5 (And.intro hP5 hne))))))
  have a0 : w5.cell? ⟨w.heap.size + 1, 0, none⟩ = some (.int .u8 3) := hA5.cell 0
  have a1 : w5.cell? ⟨w.heap.size + 1, 1, none⟩ = some (.int .i64 1) := hA5.cell 1
  have a2 : w5.cell? ⟨w.heap.size + 1, 2, none⟩ = some (.slice T ([] : List Int).length ct) := hA5.cell 2
  have m0 : w5.cell? ⟨w.heap.size, 0, none⟩ = some (.slice X' x.t.length ca') := hK5.cell 0
  have m1 : w5.cell? ⟨w.heap.size, 1, none⟩ = some (.int .i64 x.k) := hK5.cell 1
  have m2 : w5.cell? ⟨w.heap.size, 2, none⟩ = some (.slice Y' y.t.length cb') := hK5.cell 2
  have m3 : w5.cell? ⟨w.heap.size, 3, none⟩ = some (.int .i64 y.k) := hK5.cell 3
  have mf0 := hK5.frozen 0
  have mf1 := hK5.frozen 1
  have mf2 := hK5.frozen 2
  have mf3 := hK5.frozen 3
  clear hZ5 hA5 hK5 hB5 hO5 hP5 hne
  go_region_with (first | (go_at_call 94; refine (deed3_2 w.heap.size _ _ _ _ T ([] : List Int).length ct w5.drew m2 m3 mf3).mono ?_; rintro e w6 ⟨⟨v6, rfl⟩, hw6⟩; have HW6 := Lib.hid hw6; clear hw6))
  all_goals
    clear a0 a1 a2 m0 m1 m2 m3 mf0 mf1 mf2 mf3
    have hK6 : Blk w6 w.heap.size 70 #[.slice X' x.t.length ca', .int .i64 x.k, .slice Y' y.t.length cb', .int .i64 (y.t.length : Int)] := by
      rw [HW6.out]; exact (H5.out.2.2.1.drew.set_ 3 (.int .i64 (y.t.length : Int)))
    have hZ6 : Blk w6 (w.heap.size + 1 + 1) 70 #[.slice none 0 0, .int .i64 0, .slice none 0 0, .int .i64 0] := by
      rw [HW6.out]; exact (H5.out.1.drew.far (p := ⟨w.heap.size, 3, none⟩) (by simp <;> omega) (.int .i64 (y.t.length : Int)))
    have hB6 : Below w.heap.size w w6 := by
      rw [HW6.out]; exact (H5.out.2.2.2.1.drew.setCell (p := ⟨w.heap.size, 3, none⟩) (Nat.le_refl _) (.int .i64 (y.t.length : Int)))
    have hR6 := RetC.of_own (m := ⟨x, ⟨y.t, (y.t.length : Int)⟩⟩) (Go.RowKit.ownsRow_setCell_below H5.out.2.2.2.2.1.drew (a := ⟨w.heap.size, 3, none⟩) (by show w.heap.size < w3.heap.size; omega) (.int .i64 (y.t.length : Int))) (Go.RowKit.ownsRow_setCell_below H5.out.2.2.2.2.2.1.drew (a := ⟨w.heap.size, 3, none⟩) (by show w.heap.size < w3.heap.size; omega) (.int .i64 (y.t.length : Int)))
    change RetC (w5.drew.setCell ⟨w.heap.size, 3, none⟩ (.int .i64 (y.t.length : Int))) _ _ (.agg #[.slice X' x.t.length ca', .int .i64 x.k, .slice Y' y.t.length cb', .int .i64 (y.t.length : Int)]) at hR6
    rw [← HW6.out] at hR6
    have y0 : w6.cell? ⟨w.heap.size, 0, none⟩ = some (.slice X' x.t.length ca') := hK6.cell 0
    have y1 : w6.cell? ⟨w.heap.size, 1, none⟩ = some (.int .i64 x.k) := hK6.cell 1
    have y2 : w6.cell? ⟨w.heap.size, 2, none⟩ = some (.slice Y' y.t.length cb') := hK6.cell 2
    have y3 : w6.cell? ⟨w.heap.size, 3, none⟩ = some (.int .i64 (y.t.length : Int)) := hK6.cell 3
    have z0 : w6.cell? ⟨w.heap.size + 1 + 1, 0, none⟩ = some (.slice none 0 0) := hZ6.cell 0
    have z1 : w6.cell? ⟨w.heap.size + 1 + 1, 1, none⟩ = some (.int .i64 0) := hZ6.cell 1
    have z2 : w6.cell? ⟨w.heap.size + 1 + 1, 2, none⟩ = some (.slice none 0 0) := hZ6.cell 2
    have z3 : w6.cell? ⟨w.heap.size + 1 + 1, 3, none⟩ = some (.int .i64 0) := hZ6.cell 3
    have zf0 := hZ6.frozen 0
    have zf1 := hZ6.frozen 1
    have zf2 := hZ6.frozen 2
    have zf3 := hZ6.frozen 3
    have HH := Lib.hid (And.intro hZ6 (And.intro hB6 hR6))
    clear hZ6 hB6 hR6 hK6 HW6 H5 HX
    go_wp2_with fail
    have hK4 := W4.blk HH.out.1 (.slice X' x.t.length ca') (.int .i64 x.k) (.slice Y' y.t.length cb') (.int .i64 (y.t.length : Int))
    have hB4 := W4.below (g := w.heap.size + 1 + 1) HH.out.2.1 (by omega) (.slice X' x.t.length ca') (.int .i64 x.k) (.slice Y' y.t.length cb') (.int .i64 (y.t.length : Int))
    have hR4 := RetC.w4 (g := w.heap.size + 1 + 1) HH.out.2.2 hs (.slice X' x.t.length ca') (.int .i64 x.k) (.slice Y' y.t.length cb') (.int .i64 (y.t.length : Int))
    clear HH z0 z1 z2 z3 zf0 zf1 zf2 zf3 y0 y1 y2 y3
    rw [show ((((w6.setCell ⟨w.heap.size + 1 + 1, 0, none⟩ (.slice X' x.t.length ca')).setCell ⟨w.heap.size + 1 + 1, 1, none⟩ (.int .i64 x.k)).setCell ⟨w.heap.size + 1 + 1, 2, none⟩ (.slice Y' y.t.length cb')).setCell ⟨w.heap.size + 1 + 1, 3, none⟩ (.int .i64 (y.t.length : Int))) = W4 w6 (w.heap.size + 1 + 1) (.slice X' x.t.length ca') (.int .i64 x.k) (.slice Y' y.t.length cb') (.int .i64 (y.t.length : Int)) from rfl]
    generalize W4 w6 (w.heap.size + 1 + 1) (.slice X' x.t.length ca') (.int .i64 x.k) (.slice Y' y.t.length cb') (.int .i64 (y.t.length : Int)) = w9 at *
    have c0 := hK4.cell 0
    have c1 := hK4.cell 1
    have c2 := hK4.cell 2
    have c3 := hK4.cell 3
    simp only [List.getElem?_toArray, List.getElem?_cons_zero, List.getElem?_cons_succ] at c0 c1 c2 c3
    exact bodyPost_ret (v := .tuple #[.agg #[.slice X' x.t.length ca', .int .i64 x.k, .slice Y' y.t.length cb', .int .i64 (y.t.length : Int)], .int .i64 0]) (by simp [results, Try.results28, go_sem, c0, c1, c2, c3]) rfl ⟨_, rfl, hR4.less hs9, hB4⟩
end Go.Proofs.Ytfdldbfjeamlcaa.LogDoC
