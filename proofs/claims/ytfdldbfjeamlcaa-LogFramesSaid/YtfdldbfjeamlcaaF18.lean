/- Several texts joined: Layer 29's first examples. No conditions. -/
import Derived.BigQuiet
import Derived.Deep.QuietTactic
import Derived.Deep.DeepCutAuto
import Derived.Deep.RegionLaw
import Derived.Laws.Rows
import Derived.Test.YtfdldbfjeamlcaaF15
import Derived.Test.YtfdldbfjeamlcaaF17
import Derived.Deep.MidRow
import Derived.Lib.QuietBelow
import Derived.Lib.SliceRun
import Derived.Test.YtfdldbfjeamlcaaG10
import Derived.Test.YtfdldbfjeamlcaaG1
import Derived.Test.YtfdldbfjeamlcaaG6
import Derived.Test.YtfdldbfjeamlcaaG12
/-! Layer 29's first examples. No conditions. -/
namespace Go.Proofs.Ytfdldbfjeamlcaa.LogAlive
open Go.RowKit MarkMath Mem RecMem RecByte RecNum RecEach RecMath RecPort RecCommand RecCod RecVal RecSame RecRd RecRL0 RecWr0 RecRecC RecWOk RecOwn RecCmdJ RecRead RecAll RecAlive2 LogFour LogJoin LogWrap LogFrm LogAllV LogPlain
set_option linter.unusedVariables false
set_option linter.unusedSimpArgs false

abbrev rT : RV := ⟨0, SV.z, cTick⟩
theorem rT_bytes : recB rT = [0, 0, 0, 0, 0, 0, 0, 0, 7, 5, 0, 0, 0, 0, 0, 0, 0] := by rw [recB_cmd rfl]; exact tick_bytes
theorem rT_ok : okR rT := okR_of tick_wf (by decide) (by decide) (by decide)
theorem rT_mk : mk 0 [0, 0, 0, 0, 0, 0, 0, 0, 7, 5, 0, 0, 0, 0, 0, 0, 0] = 2469451442 := by decide +kernel
theorem rT_frame : wrapB rT = [17, 0, 0, 0, 178, 214, 48, 147, 0, 0, 0, 0, 0, 0, 0, 0, 7, 5, 0, 0, 0, 0, 0, 0, 0] := by unfold wrapB; rw [rT_bytes, rT_mk]; decide +kernel
/-- One frame and most of another. -/
theorem fr_one : fr (wrapB rT ++ (wrapB rT).take 24) 50 0 = [(25, rT)] := by
  have h := fr_wrap [] ((wrapB rT).take 24) rT_ok (by rw [rT_bytes]; decide) 49
  have h2 := fr_part (wrapB rT) (r := rT) (by rw [rT_bytes]; decide) (m := 24) (by rw [rT_frame]; decide) 48
  simp only [List.nil_append, List.length_nil, Nat.zero_add] at h
  rw [h, h2, rT_frame]
  rfl
abbrev bad25 : Bs := [17, 0, 0, 0, 178, 214, 48, 147, 0, 0, 1, 0, 0, 0, 0, 0, 7, 5, 0, 0, 0, 0, 0, 0, 0]
theorem fr_bad25 : fr bad25 26 0 = [(-1, RV.z)] := by
  have n0 : num4 (bad25.drop 0) = 17 := by decide +kernel
  refine fr_bad (by decide) (by rw [n0]; decide) (by rw [n0]; decide) fun h => ?_
  have h2 := h.2
  unfold frT at h2
  rw [n0] at h2
  exact absurd h2 (by decide +kernel)
theorem all_49 {B c : Nat} {Y : Option Addr} {T : Bs} (hT : T = wrapB rT) (w : World) (h : w.ownsRow B 5 1 (.slice Y 49 c) 49 (T.map (Value.int .u8) ++ (T.take 24).map (Value.int .u8))) :
    Calls Try.prog 39 #[.slice Y 49 c] w fun e w' => (∃ V c', e = .returned (.tuple #[.slice V 1 c', .int .i64 25, .int .i64 0])) ∧ Below w.heap.size w w' := by
  subst hT
  have hl : (wrapB rT ++ (wrapB rT).take 24).length = 49 := by rw [rT_frame]; rfl
  have hx : TxtAt w Y (wrapB rT ++ (wrapB rT).take 24) := txt_of (n := 49) (by have := Reads.of_own h; rw [List.map_append]; exact this)
  have ho : Oct (wrapB rT ++ (wrapB rT).take 24) := by rw [rT_frame]; unfold Oct; decide +kernel
  have hcap := RecWrite0.row_cap h
  have h := all_any Y c _ ho (by rw [hl]; exact hcap.1) hcap.2 (by rw [hl]; decide) w hx
  unfold AllPost at h
  rw [hl, fr_one] at h
  refine h.mono ?_
  rintro e w' ⟨⟨_, V, c', rfl, _⟩ | ⟨⟨p, hp, hn⟩, _⟩, hB⟩
  · exact ⟨⟨V, c', rfl⟩, hB⟩
  · simp at hp
    subst hp
    simp at hn
theorem all_25 {c g : Nat} (w : World) (hx : TxtAt w (some ⟨g, 0, none⟩) bad25) (h25 : 25 ≤ c) (hm : c ≤ maxLen) :
    Calls Try.prog 39 #[.slice (some ⟨g, 0, none⟩) 25 c] w fun e w' => e = .returned (.tuple #[.slice none 0 0, .int .i64 0, .int .i64 290]) ∧ Below w.heap.size w w' := by
  have ho : Oct bad25 := by unfold Oct; decide +kernel
  have h := all_any (some ⟨g, 0, none⟩) c bad25 ho h25 hm (by decide) w hx
  unfold AllPost at h
  rw [show bad25.length = 25 from rfl, fr_bad25] at h
  refine h.mono ?_
  rintro e w' ⟨⟨hn, _⟩ | ⟨_, rfl⟩, hB⟩
  · exact absurd (by decide) (hn (-1, RV.z) (by simp))
  · exact ⟨rfl, hB⟩
theorem txt_turned {w : World} {g : Nat} {B c : Nat} (h : Fresh B w g [17, 0, 0, 0, 178, 214, 48, 147, 0, 0, 0, 0, 0, 0, 0, 0, 7, 5, 0, 0, 0, 0, 0, 0, 0] c) : TxtAt (w.setCell ⟨g, 10, none⟩ (.int .u8 1)) (some ⟨g, 0, none⟩) bad25 := fun i x hi => by
  refine ⟨g, 0, rfl, by simpa using h.lt, ?_⟩
  rw [Nat.zero_add]
  by_cases h10 : i = 10
  · subst h10
    have e : x = 1 := by simpa using hi.symm
    subst e
    exact World.cell?_setCell_same' _ _ _ (by rw [h.cell 10 _ rfl]; rfl)
  · rw [World.cell?_setCell_other _ _ _ _ (fun e => h10 (by injection e with _ e _; exact e.symm))]
    refine h.cell i x ?_
    match i, h10 with
    | 0, _ | 1, _ | 2, _ | 3, _ | 4, _ | 5, _ | 6, _ | 7, _ | 8, _ | 9, _ | 11, _ | 12, _ | 13, _ | 14, _ | 15, _ | 16, _ | 17, _ | 18, _ | 19, _ | 20, _ | 21, _ | 22, _ | 23, _ | 24, _ => exact hi
    | 10, h => exact absurd rfl h
    | k + 25, _ => simp at hi
set_option maxRecDepth 100000 in
set_option maxHeartbeats 2000000 in
theorem ltick (w : World) : Calls Try.prog 73 #[] w fun e w' => e = .returned (.agg (recA cTick none 0)) ∧ Below w.heap.size w w' := by
  have x5 := box_full (W := w) 51 #[.int .i64 0, .int .i64 0, .int .i64 0, .int .i64 0, .int .i64 0, .int .i64 0, .int .i64 0, .int .i64 0, .slice none 0 0, .int .i64 0, .int .i64 0, .slice none 0 0, .slice none 0 0, .slice none 0 0, .slice none 0 0, .slice none 0 0, .slice none 0 0, .int .u8 0, .int .i64 0, .int .i64 0, .int .i64 0, .int .i64 0, .int .i64 0, .int .i64 0, .bool false, .bool false, .bool false, .bool false, .int .i64 0, .int .i64 0, .bool false, .slice none 0 0, .int .u8 0, .int .i64 0, .int .i64 0, .int .i64 0, .int .i64 0, .int .i64 0, .int .i64 0, .int .i64 0, .int .i64 0, .int .i64 0, .int .i64 0, .int .i64 0, .bool false] (vs := (recA cTick none 0).toList) rfl
  go_enter Try.func73, Try.ntmps73
  go_wp2_with (first | (refine wpList_store_mid rfl 51 _ _ rfl w.heap.size 0 (recA cTick none 0) rfl rfl (there_of (Blk.new w 51 #[.int .i64 0, .int .i64 0, .int .i64 0, .int .i64 0, .int .i64 0, .int .i64 0, .int .i64 0, .int .i64 0, .slice none 0 0, .int .i64 0, .int .i64 0, .slice none 0 0, .slice none 0 0, .slice none 0 0, .slice none 0 0, .slice none 0 0, .slice none 0 0, .int .u8 0, .int .i64 0, .int .i64 0, .int .i64 0, .int .i64 0, .int .i64 0, .int .i64 0, .bool false, .bool false, .bool false, .bool false, .int .i64 0, .int .i64 0, .bool false, .slice none 0 0, .int .u8 0, .int .i64 0, .int .i64 0, .int .i64 0, .int .i64 0, .int .i64 0, .int .i64 0, .int .i64 0, .int .i64 0, .int .i64 0, .int .i64 0, .int .i64 0, .bool false]) (Nat.le_of_ble_eq_true rfl)) (by kernel_rfl) (by kernel_rfl) ?_; generalize World.setCells _ _ _ _ = W5 at *; (try simp only [Act.put])))
  exact bodyPost_ret (v := .agg (recA cTick none 0)) (results_cell_row rfl _ _ w.heap.size 51 (recA cTick none 0) (0, 0) _ rfl x5.1 Try.underlying51 rfl (by kernel_rfl)) rfl ⟨rfl, x5.2⟩
set_option maxRecDepth 100000 in
set_option maxHeartbeats 2000000 in
theorem alive29 (w : World) : Calls Try.prog 42 #[] w fun e w' => e = .returned (.bool true) ∧ Below w.heap.size w w' := by
  go_enter Try.func42, Try.ntmps42
  go_wp2_with fail
  refine (ltick w).mono ?_
  rintro e w1 ⟨rfl, hB1⟩
  have HB1 := Lib.hid hB1
  have HW1 := Lib.hid hB1.size
  clear hB1
  go_wp2_with fail
  refine Calls.mono (show Calls Try.prog 37 #[.agg (recA cTick none 0)] w1 _ from wrap_v rT SA.z none 0 (facts_of tick_wf (by decide)) w1 ⟨StAt.z, IntsAt.nil, Nat.zero_le _⟩) ?_
  rintro e w2 ⟨⟨v, X, n, c, rfl, hV, _, h0⟩, hB2⟩
  have e0 : v = 0 := hV.ok.2 ⟨rT_ok, by rw [rT_bytes]; decide⟩
  subst e0
  obtain ⟨g, rfl, hn0, hF⟩ := h0 rfl
  have hn : n = 25 := by rw [hn0, rT_frame]; rfl
  clear hn0
  subst hn
  rw [rT_frame] at hF
  have HF := Lib.hid hF
  have HB2 := Lib.hid (below_up HB1.out hB2)
  clear hV h0 hF hB2 HB1
  have q0 : w2.cell? ⟨g, 0, none⟩ = some (.int .u8 17) := HF.out.cell 0 _ rfl
  have q1 : w2.cell? ⟨g, 1, none⟩ = some (.int .u8 0) := HF.out.cell 1 _ rfl
  have q2 : w2.cell? ⟨g, 2, none⟩ = some (.int .u8 0) := HF.out.cell 2 _ rfl
  have q3 : w2.cell? ⟨g, 3, none⟩ = some (.int .u8 0) := HF.out.cell 3 _ rfl
  have hc25 : 25 ≤ c := HF.out.cap
  have hcm : c ≤ 9223372036854775807 := by have := HF.out.top; simpa [maxLen] using this
  have HW2 := Lib.hid (And.intro HF.out.txt (And.intro HF.out.lt HB2.out))
  go_wp2_with fail
  have kq0 := cell_regrown q0
  have kq1 := cell_regrown q1
  have kq2 := cell_regrown q2
  have kq3 := cell_regrown q3
  refine wp_region_quiet_below (by kernel_rfl) (by kernel_rfl) ?_
  repeat (go_big_quiet_step (first | fail))
  refine wpQuiet_nil ?_
  intro _ hw'
  obtain ⟨⟨dq, osq⟩, hw''⟩ := hw'
  subst hw''
  have hBq := below_regrown w2 dq osq
  clear kq0 kq1 kq2 kq3 q0 q1 q2 q3
  generalize Sort.grow (redrawn w2 dq) osq = W3 at *
  have HF3 := Lib.hid (HF.out.up hBq)
  have HB3 := Lib.hid (below_up HB2.out hBq)
  clear hBq HF HB2 HW2
  go_upto_region 4 with fail
  obtain ⟨i0, hi0, hz0, hz1, hz2⟩ := info_parts RecByte.byte_info
  have HI0 := Lib.hid (And.intro hi0 (And.intro hz0 (And.intro hz1 hz2)))
  clear hi0 hz0 hz1 hz2
  obtain ⟨T, hT⟩ : ∃ T : Bs, T = [17, 0, 0, 0, 178, 214, 48, 147, 0, 0, 0, 0, 0, 0, 0, 0, 7, 5, 0, 0, 0, 0, 0, 0, 0] := ⟨_, rfl⟩
  have hTl : T.length = 25 := by rw [hT]; rfl
  have hcells : ∀ l : Bs, ∀ u ∈ l.map (Value.int .u8), u.oneCell' = true := fun l u hu => by
    obtain ⟨n, _, rfl⟩ := List.mem_map.1 hu
    rfl
  have hR3 : ∀ W : World, Below W3.heap.size W3 W → Reads W W3.heap.size 1 (some ⟨g, 0, none⟩) 25 (T.map (Value.int .u8)) ∧ Reads W W3.heap.size 1 (some ⟨g, 0, none⟩) 24 ((T.take 24).map (Value.int .u8)) := fun W hW => by
    have h0 : Reads W3 W3.heap.size 1 (some ⟨g, 0, none⟩) 25 (T.map (Value.int .u8)) := by have := txt_bytes HF3.out.txt; rw [hT]; exact this
    have h1 : Reads W3 W3.heap.size 1 (some ⟨g, 0, none⟩) 24 ((T.take 24).map (Value.int .u8)) := by have := txt_bytes (LogFrm.TxtAt.take HF3.out.txt 24); rw [hT]; exact this
    exact ⟨h0.below hW, h1.below hW⟩
  have HT := Lib.hid hT
  clear hT
  have HR3 := Lib.hid hR3
  clear hR3
  have hc24 : 24 ≤ c := by omega
  have hc0 : ¬ c = 0 := by omega
  have hci : (24 : Int) ≤ (c : Int) := by omega
  go_region_law (first
    | (refine step_append_any _ rfl (.tmp 42) (.tmp 43) _ rfl W3.heap.size 5 i0 (.int .u8 0) 1 1 Try.underlying37 HI0.out.1 HI0.out.2.1 HI0.out.2.2.1 HI0.out.2.2.2 rfl (by decide) (.slice (some ⟨W3.heap.size, 0, none⟩) 0 0) 0 [] (by simp [Act.eval, Act.put]) (World.ownsRow_made W3.drew #[] 0 (Nat.le_refl _) (Nat.zero_le _) (by simp)) W3.heap.size (some ⟨g, 0, none⟩) 25 c (T.map (Value.int .u8)) (by simp [Act.eval, Act.put]) ((HR3.out _ (below_alloc (Below.drew (Below.refl _ W3)))).1) (hcells T) (by simp only [maxLen]; omega) (by omega) (by simp) ?_; intro v7 w7 hown0 hg hat; have hown : w7.ownsRow W3.heap.size 5 1 v7 25 (T.map (Value.int .u8)) := (by simpa using hown0); clear hown0; obtain ⟨Y7, c7, rfl⟩ := own_slice hown; have H7 := Lib.hid (And.intro hown (And.intro hg ((below_alloc (Below.drew (Below.refl _ W3))).grown hg (by simp) (by intro k hk; cases hk; exact Nat.le_refl _)))); clear hown hg hat)
    | (refine step_append_any _ rfl (.tmp 44) (.tmp 46) _ rfl W3.heap.size 5 i0 (.int .u8 0) 1 1 Try.underlying37 HI0.out.1 HI0.out.2.1 HI0.out.2.2.1 HI0.out.2.2.2 rfl (by decide) _ 25 (T.map (Value.int .u8)) (by simp [Act.eval, Act.put]) H7.out.1 W3.heap.size (some ⟨g, 0, none⟩) 24 c ((T.take 24).map (Value.int .u8)) (by simp [Act.eval, Act.put]) ((HR3.out _ H7.out.2.2).2) (hcells _) (by simp only [maxLen]; omega) (by omega) H7.out.2.2.size ?_; intro v8 w8 hown hg hat; obtain ⟨Y8, c8, rfl⟩ := own_slice hown; have H8 := Lib.hid (And.intro (show w8.ownsRow W3.heap.size 5 1 (.slice Y8 49 c8) 49 (T.map (Value.int .u8) ++ (T.take 24).map (Value.int .u8)) from hown) (H7.out.2.2.grown hg (by have := H7.out.2.2.size; omega) (fun k hk => (H7.out.1.lt k hk).1))); clear hown hg hat)
    | (go_simp; refine (all_49 (HT.out.trans rT_frame.symm) w8 H8.out.1).mono ?_; rintro e w9 ⟨⟨V9, c9, rfl⟩, hB9⟩; have HB9 := Lib.hid (below_up H8.out.2 hB9); clear hB9))
  have HF9 := Lib.hid (HF3.out.up HB9.out)
  have HBZ := Lib.hid (below_up HB3.out HB9.out)
  have p10 : w9.cell? ⟨g, 10, none⟩ = some (.int .u8 0) := HF9.out.cell 10 _ rfl
  have z10 : w9.frozen? ⟨g, 10, none⟩ = false := HF9.out.free 10 (by omega)
  clear HB9 HB3 HF3 HR3 H7 H8
  go_wp2_with fail
  have hx := txt_turned HF9.out
  refine (all_25 _ hx hc25 HF9.out.top).mono ?_
  rintro e w10 ⟨rfl, hB10⟩
  have HBE := Lib.hid (below_up (HBZ.out.setCell (p := ⟨g, 10, none⟩) (Nat.le_trans HW1.out HF9.out.le) _) hB10)
  clear hB10 p10 z10 hx
  go_wp2_with fail
  go_ret
  exact ⟨rfl, HBE.out⟩
end Go.Proofs.Ytfdldbfjeamlcaa.LogAlive
/-! Frames of bytes that are cut off, in plain Lean. No conditions but those named. -/
namespace Go.Proofs.Ytfdldbfjeamlcaa.LogCutP
open Go Go.RowKit MarkMath Mem RecMem RecByte RecNum RecMath RecCod RecVal RecSame RecWr0 RecRecC RecRead RecAll LogFour LogJoin LogWrap LogFrm LogPlain
set_option linter.unusedVariables false
set_option linter.unusedSimpArgs false

theorem num4_take {t : Bs} {m : Nat} (h : 4 ≤ m) (hl : 4 ≤ t.length) : num4 (t.take m) = num4 t := by
  obtain ⟨a, b, d, f, u, rfl⟩ := four_of hl
  obtain ⟨j, rfl⟩ : ∃ j, m = j + 4 := ⟨m - 4, by omega⟩
  rfl
theorem num4_cut {t : Bs} {c k : Nat} (h : k + 4 ≤ c) (hc : c ≤ t.length) : num4 ((t.take c).drop k) = num4 (t.drop k) := by
  rw [List.drop_take]
  exact num4_take (by omega) (by rw [List.length_drop]; omega)
theorem frT_cut {t : Bs} {c k : Nat} (h : (k : Int) + 8 + num4 (t.drop k) ≤ c) (hc : c ≤ t.length) (h0 : 0 ≤ num4 (t.drop k)) : frT (t.take c) k = frT t k := by
  have h1 : k + 4 ≤ c := by omega
  unfold frT
  rw [num4_cut h1 hc, List.drop_take, List.take_take, Nat.min_eq_left (by omega)]
theorem frOk_cut {t : Bs} {c k : Nat} (h : (k : Int) + 8 + num4 (t.drop k) ≤ c) (hc : c ≤ t.length) (h0 : 0 ≤ num4 (t.drop k)) : frOk (t.take c) k ↔ frOk t k := by
  unfold frOk
  rw [frT_cut h hc h0, num4_cut (by omega) hc]
/-- Frames of what is cut off: those that end ahead of it. -/
theorem fr_take {t : Bs} (ho : Oct t) : ∀ (f k f' c : Nat), (∀ p ∈ fr t f k, ¬ p.1 < 0) → t.length < k + f → c < k + f' → k ≤ c → c ≤ t.length →
    fr (t.take c) f' k = (fr t f k).takeWhile (fun p => decide (p.1 ≤ (c : Int)))
  | 0, k, f', c, hn, hf, hf', hk, hc => by omega
  | f + 1, k, 0, c, hn, hf, hf', hk, hc => by omega
  | f + 1, k, f' + 1, c, hn, hf, hf', hk, hc => by
    have hlc : (t.take c).length = c := by rw [List.length_take]; omega
    have hN := num4_in (Oct.drop ho k)
    by_cases h8 : c < k + 8
    · rw [fr_end (t := t.take c) (by omega)]
      by_cases t8 : t.length < k + 8
      · rw [fr_end t8]; rfl
      by_cases tb : 65536 < num4 (t.drop k)
      · rw [fr_big t8 tb] at hn; exact absurd (by decide) (hn (-1, RV.z) (by simp))
      by_cases tc : (t.length : Int) < (k : Int) + 8 + num4 (t.drop k)
      · rw [fr_cut t8 tb tc]; rfl
      by_cases tk : frOk t k
      · rw [fr_ok t8 tb tc tk, List.takeWhile_cons_of_neg (by simp; omega)]
      · rw [fr_bad t8 tb tc tk] at hn; exact absurd (by decide) (hn (-1, RV.z) (by simp))
    · have t8 : ¬ t.length < k + 8 := by omega
      have en := num4_cut (t := t) (c := c) (k := k) (by omega) hc
      by_cases tb : 65536 < num4 (t.drop k)
      · rw [fr_big t8 tb] at hn; exact absurd (by decide) (hn (-1, RV.z) (by simp))
      by_cases tc : (t.length : Int) < (k : Int) + 8 + num4 (t.drop k)
      · rw [fr_cut t8 tb tc, fr_cut (t := t.take c) (by omega) (by omega) (by omega)]; rfl
      by_cases tk : frOk t k
      · by_cases cc : (c : Int) < (k : Int) + 8 + num4 (t.drop k)
        · rw [fr_cut (t := t.take c) (by omega) (by omega) (by omega), fr_ok t8 tb tc tk, List.takeWhile_cons_of_neg (by simp; omega)]
        · have ck : frOk (t.take c) k := (frOk_cut (by omega) hc hN.1).2 tk
          have hr := frT_cut (t := t) (c := c) (k := k) (by omega) hc hN.1
          rw [fr_ok t8 tb tc tk] at hn ⊢
          rw [fr_ok (t := t.take c) (by omega) (by omega) (by omega) ck, List.takeWhile_cons_of_pos (by simp; omega), en, hr,
            fr_take ho f (k + 8 + (num4 (t.drop k)).toNat) f' c (fun p hp => hn p (List.mem_cons_of_mem _ hp)) (by omega) (by omega) (by omega) hc]
      · rw [fr_bad t8 tb tc tk] at hn; exact absurd (by decide) (hn (-1, RV.z) (by simp))
/-- Frames end behind where they begin, within the bytes, one after another. -/
theorem fr_sorted {t : Bs} (ho : Oct t) : ∀ (f k : Nat), (∀ p ∈ fr t f k, ¬ p.1 < 0) → (∀ p ∈ fr t f k, (k : Int) < p.1 ∧ p.1 ≤ t.length) ∧ (fr t f k).Pairwise (fun p q => p.1 < q.1)
  | 0, k, _ => ⟨fun p hp => by simp [fr] at hp, by simp [fr]⟩
  | f + 1, k, hn => by
    have hN := num4_in (Oct.drop ho k)
    by_cases t8 : t.length < k + 8
    · rw [fr_end t8]; exact ⟨fun p hp => by simp at hp, List.Pairwise.nil⟩
    by_cases tb : 65536 < num4 (t.drop k)
    · rw [fr_big t8 tb] at hn; exact absurd (by decide) (hn (-1, RV.z) (by simp))
    by_cases tc : (t.length : Int) < (k : Int) + 8 + num4 (t.drop k)
    · rw [fr_cut t8 tb tc]; exact ⟨fun p hp => by simp at hp, List.Pairwise.nil⟩
    by_cases tk : frOk t k
    · rw [fr_ok t8 tb tc tk] at hn ⊢
      obtain ⟨h1, h2⟩ := fr_sorted ho f (k + 8 + (num4 (t.drop k)).toNat) (fun p hp => hn p (List.mem_cons_of_mem _ hp))
      refine ⟨fun p hp => ?_, List.Pairwise.cons (fun p hp => ?_) h2⟩
      · rcases List.mem_cons.1 hp with rfl | hp
        · simp; omega
        · have := h1 p hp; omega
      · have := h1 p hp
        show (k : Int) + 8 + num4 (t.drop k) < p.1
        omega
    · rw [fr_bad t8 tb tc tk] at hn; exact absurd (by decide) (hn (-1, RV.z) (by simp))
/-- Records of frames have numbers that are machine words. -/
theorem fr_facts {t : Bs} (ho : Oct t) : ∀ (f k : Nat), ∀ p ∈ fr t f k, RFacts p.2
  | 0, k, p, hp => by simp [fr] at hp
  | f + 1, k, p, hp => by
    by_cases t8 : t.length < k + 8
    · rw [fr_end t8] at hp; simp at hp
    by_cases tb : 65536 < num4 (t.drop k)
    · rw [fr_big t8 tb] at hp; simp at hp; subst hp; exact z_facts
    by_cases tc : (t.length : Int) < (k : Int) + 8 + num4 (t.drop k)
    · rw [fr_cut t8 tb tc] at hp; simp at hp
    by_cases tk : frOk t k
    · rw [fr_ok t8 tb tc tk] at hp
      rcases List.mem_cons.1 hp with rfl | hp
      · exact readV_facts _ (Oct.take (Oct.drop ho _) _)
      · exact fr_facts ho f _ p hp
    · rw [fr_bad t8 tb tc tk] at hp; simp at hp; subst hp; exact z_facts

/-! All the frames of bytes. -/
abbrev frs (t : Bs) : List (Int × RV) := fr t (t.length + 1) 0
def endV (l : List (Int × RV)) : Int := (l.getLast?.map (·.1)).getD 0
abbrev Whole (t : Bs) : Prop := ∀ p ∈ frs t, ¬ p.1 < 0
theorem endV_snoc (l : List (Int × RV)) (p : Int × RV) : endV (l ++ [p]) = p.1 := by simp [endV]
theorem frs_take {t : Bs} (ho : Oct t) (hn : Whole t) {c : Nat} (hc : c ≤ t.length) : frs (t.take c) = (frs t).takeWhile (fun p => decide (p.1 ≤ (c : Int))) := by
  have hlc : (t.take c).length = c := by rw [List.length_take]; omega
  unfold frs
  rw [hlc]
  exact fr_take ho (t.length + 1) 0 (c + 1) c hn (by omega) (by omega) (by omega) hc
theorem end_in {t : Bs} (ho : Oct t) (hn : Whole t) : 0 ≤ endV (frs t) ∧ endV (frs t) ≤ t.length := by
  have h := (fr_sorted ho (t.length + 1) 0 hn).1
  rcases List.eq_nil_or_concat (frs t) with e | ⟨l, p, e⟩
  · rw [e]; simp [endV]
  · rw [List.concat_eq_append] at e
    rw [e, endV_snoc]
    have := h p (by rw [show fr t (t.length + 1) 0 = frs t from rfl, e]; simp)
    omega
theorem le_end {t : Bs} (ho : Oct t) (hn : Whole t) {p : Int × RV} (hp : p ∈ frs t) : p.1 ≤ endV (frs t) := by
  have h := (fr_sorted ho (t.length + 1) 0 hn).2
  rcases List.eq_nil_or_concat (frs t) with e | ⟨l, q, e⟩
  · rw [e] at hp; simp at hp
  · rw [List.concat_eq_append] at e
    rw [e, endV_snoc]
    rw [show fr t (t.length + 1) 0 = frs t from rfl, e, List.pairwise_append] at h
    rw [e] at hp
    rcases List.mem_append.1 hp with h1 | h1
    · have := h.2.2 p h1 q (by simp); omega
    · simp at h1; subst h1; exact Int.le_refl _
theorem mem_takeWhile {α : Type} {q : α → Bool} : ∀ {l : List α} {x : α}, x ∈ l.takeWhile q → q x = true ∧ x ∈ l
  | [], x, h => by simp at h
  | a :: l, x, h => by
    by_cases ha : q a = true
    · rw [List.takeWhile_cons_of_pos ha] at h
      rcases List.mem_cons.1 h with rfl | h
      · exact ⟨ha, by simp⟩
      · exact ⟨(mem_takeWhile h).1, List.mem_cons_of_mem _ (mem_takeWhile h).2⟩
    · rw [List.takeWhile_cons_of_neg ha] at h; simp at h
theorem takeWhile_all {α : Type} {q : α → Bool} : ∀ {l : List α}, (∀ x ∈ l, q x = true) → l.takeWhile q = l
  | [], _ => rfl
  | a :: l, h => by rw [List.takeWhile_cons_of_pos (h a (by simp)), takeWhile_all fun x hx => h x (by simp [hx])]
/-- What is cut off is not broken, tells the first records, and no farther. -/
theorem cut_law {t : Bs} (ho : Oct t) (hn : Whole t) {c : Nat} (hc : c ≤ t.length) : Whole (t.take c) ∧ (∃ j, j ≤ (frs t).length ∧ frs (t.take c) = (frs t).take j) ∧ endV (frs (t.take c)) ≤ c ∧ endV (frs (t.take c)) ≤ endV (frs t) ∧ (endV (frs t) ≤ c → frs (t.take c) = frs t) := by
  have h := frs_take ho hn hc
  have hm : ∀ p ∈ frs (t.take c), p.1 ≤ (c : Int) ∧ p ∈ frs t := fun p hp => by
    rw [h] at hp
    have := mem_takeWhile hp
    exact ⟨of_decide_eq_true this.1, this.2⟩
  have hw : Whole (t.take c) := fun p hp => hn p (hm p hp).2
  refine ⟨hw, ⟨(frs (t.take c)).length, ?_, ?_⟩, ?_, ?_, fun he => ?_⟩
  · rw [h]; exact (List.takeWhile_prefix _).length_le
  · rw [h]; exact List.prefix_iff_eq_take.1 (List.takeWhile_prefix _)
  · have := (end_in (Oct.take ho c) hw).2
    rw [List.length_take] at this
    omega
  · rcases List.eq_nil_or_concat (frs (t.take c)) with e | ⟨l, p, e⟩
    · rw [e]; have := (end_in ho hn).1; simpa [endV] using this
    · rw [List.concat_eq_append] at e
      have := le_end ho hn (hm p (by rw [e]; simp)).2
      rw [e, endV_snoc]; exact this
  · rw [h]
    refine takeWhile_all fun p hp => ?_
    have := le_end ho hn hp
    simp; omega
/-- Cut off where they are whole they tell all. -/
theorem cut_end {t : Bs} (ho : Oct t) (hn : Whole t) {n : Nat} (he : endV (frs t) = n) : frs (t.take n) = frs t := (cut_law ho hn (by have := (end_in ho hn).2; omega)).2.2.2.2 (by omega)
end Go.Proofs.Ytfdldbfjeamlcaa.LogCutP
/-! tidehallref28: lists of numbers, jobs compared. -/
namespace Go.Proofs.Ytfdldbfjeamlcaa.RecF1
open Go.RowKit RecGuard Mem RecMem RecByte RecNum RecEach RecMath RecCommand RecCmdJ RecEq RecKeys RecEqA RecJobs RecJobsA RecVal RecEqual RecEqual2 RecEqJ RecCfgs RecSame RecOwn RecSameA
set_option linter.unusedVariables false
set_option linter.unusedSimpArgs false

set_option maxRecDepth 100000 in
set_option maxHeartbeats 4000000 in
theorem rints28 (X Y : Option Addr) (c d : Nat) (l m : List Int) (hl : l.length ≤ 9223372036854775807) (hm : m.length ≤ 9223372036854775807) (w : World) (hX : IntsAt w X l) (hY : IntsAt w Y m) :
    Calls Try.prog 91 #[.slice X l.length c, .slice Y m.length d] w fun e w' => e = .returned (.bool (decide (l = m))) ∧ Below w.heap.size w w' := by
  obtain ⟨V, hV⟩ : ∃ V, V = decide (l = m) := ⟨_, rfl⟩
  rw [← hV]
  have HV := Lib.hid hV
  have HX := Lib.hid hX
  have HY := Lib.hid hY
  clear hV hX hY
  by_cases hn : l.length = m.length
  · have hn' : ((l.length : Int) != (m.length : Int)) = false := by simp [hn]
    have HN := Lib.hid hn
    have hle : (l.length : Int) ≤ (m.length : Int) := by omega
    clear hn
    go_enter Try.func91, Try.ntmps91
    go_wp2_with fail
    go_loopw [5] (fun i wr => ∃ k : Nat, k ≤ l.length ∧ i = .int .i64 k ∧ Hid (∀ (j : Nat) (x y : Int), j < k → l[j]? = some x → m[j]? = some y → x = y) ∧ Hid (Below w.heap.size w wr))
      (fun i _ => l.length - (intOf i).toNat)
    case atStart => exact ⟨0, Nat.zero_le _, rfl, (fun j x y h => by omega), Below.refl _ _⟩
    case round =>
      obtain ⟨k, hk, rfl, hP, hB⟩ := hrel
      by_cases hlt : k < l.length
      · have hg : l[k]? = some l[k] := List.getElem?_eq_getElem hlt
        generalize l[k] = x at hg
        have hkm : k < m.length := by have := HN.out; omega
        have hg2 : m[k]? = some m[k] := List.getElem?_eq_getElem hkm
        generalize m[k] = y at hg2
        have hki : (k : Int) < (l.length : Int) := by omega
        have hki2 : (k : Int) < (m.length : Int) := by omega
        have hki0 : (0 : Int) ≤ (k : Int) := by omega
        obtain ⟨b, o, rfl, hb, y0⟩ := IntsAt.up HX.out hB.out k x hg
        obtain ⟨b', o', rfl, hb', z0⟩ := IntsAt.up HY.out hB.out k y hg2
        have HG := Lib.hid (And.intro hg hg2)
        clear hg hg2
        by_cases he : x = y
        · have he' : (x != y) = false := by simp [he]
          have HE := Lib.hid he
          clear he
          go_wp2_with fail
          go_quiet (fail)
          go_wp2_with fail
          go_roundw
          case rel => exact ⟨k + 1, by omega, by go_num, (fun j u v hj hu hv => by
              rcases Nat.lt_or_ge j k with h | h
              · exact hP.out j u v h hu hv
              · obtain rfl : j = k := by omega
                rw [HG.out.1] at hu; rw [HG.out.2] at hv; cases hu; cases hv; exact HE.out), Mem.below_drewN hB.out _⟩
          case measure => simp [intOf]; omega
        · have he' : (x != y) = true := by simp [he]
          have ev : V = false := by rw [HV.out]; exact decide_eq_false (list_ne HG.out.1 HG.out.2 he)
          have EV := Lib.hid ev
          clear he ev
          go_wp2_with fail
          go_quiet (fail)
          go_wp2_with fail
          go_ret
          rw [EV.out]
          exact ⟨rfl, Mem.below_drewN hB.out _⟩
      · obtain rfl : k = l.length := by omega
        have ev : V = true := by rw [HV.out]; exact decide_eq_true (list_eq HN.out hP.out)
        have EV := Lib.hid ev
        clear ev
        go_wp2_with fail
        go_ret
        rw [EV.out]
        exact ⟨rfl, hB.out⟩
  · have hn' : ((l.length : Int) != (m.length : Int)) = true := by simp; omega
    have ev : V = false := by rw [HV.out]; exact decide_eq_false fun e => hn (by rw [e])
    have EV := Lib.hid ev
    clear hn ev
    go_enter Try.func91, Try.ntmps91
    go_wp2_with fail
    go_ret
    rw [EV.out]
    exact ⟨rfl, Below.refl _ _⟩
set_option maxRecDepth 100000 in
set_option maxHeartbeats 4000000 in
theorem rsameJob28 (c d : CV) (Y Z : Option Addr) (cy cz : Nat) (hc : CWf c) (hd : CWf d) (hl : c.af.length ≤ 9223372036854775807) (hm : d.af.length ≤ 9223372036854775807) (w : World) (hY : IntsAt w Y c.af) (hZ : IntsAt w Z d.af) :
    Calls Try.prog 58 #[.agg #[.int .i64 c.id, .int .i64 c.us, .int .i64 c.cl, .int .i64 c.a, .int .i64 c.b, .int .i64 c.c, .bool c.p, .bool c.q, .bool c.r, .bool c.tn, .int .i64 c.wa, .int .i64 c.pr, .bool c.he, .slice Y c.af.length cy, .int .u8 c.st, .int .i64 c.ca], .agg #[.int .i64 d.id, .int .i64 d.us, .int .i64 d.cl, .int .i64 d.a, .int .i64 d.b, .int .i64 d.c, .bool d.p, .bool d.q, .bool d.r, .bool d.tn, .int .i64 d.wa, .int .i64 d.pr, .bool d.he, .slice Z d.af.length cz, .int .u8 d.st, .int .i64 d.ca]] w fun e w' => e = .returned (.bool (jobB c d)) ∧ Below w.heap.size w w' := by
  have qw := eq_wants hc hd
  have HYZ := Lib.hid (And.intro hY hZ)
  clear hY hZ hc hd
  have KA := Lib.hid ((Blk.new w 28 #[.int .i64 c.id, .int .i64 c.us, .int .i64 c.cl, .int .i64 c.a, .int .i64 c.b, .int .i64 c.c, .bool c.p, .bool c.q, .bool c.r, .bool c.tn, .int .i64 c.wa, .int .i64 c.pr, .bool c.he, .slice Y c.af.length cy, .int .u8 c.st, .int .i64 c.ca]).alloc (.cells #[.int .i64 d.id, .int .i64 d.us, .int .i64 d.cl, .int .i64 d.a, .int .i64 d.b, .int .i64 d.c, .bool d.p, .bool d.q, .bool d.r, .bool d.tn, .int .i64 d.wa, .int .i64 d.pr, .bool d.he, .slice Z d.af.length cz, .int .u8 d.st, .int .i64 d.ca] 28))
  have KB := Lib.hid (blk1 w 28 #[.int .i64 d.id, .int .i64 d.us, .int .i64 d.cl, .int .i64 d.a, .int .i64 d.b, .int .i64 d.c, .bool d.p, .bool d.q, .bool d.r, .bool d.tn, .int .i64 d.wa, .int .i64 d.pr, .bool d.he, .slice Z d.af.length cz, .int .u8 d.st, .int .i64 d.ca] (o := .cells #[.int .i64 c.id, .int .i64 c.us, .int .i64 c.cl, .int .i64 c.a, .int .i64 c.b, .int .i64 c.c, .bool c.p, .bool c.q, .bool c.r, .bool c.tn, .int .i64 c.wa, .int .i64 c.pr, .bool c.he, .slice Y c.af.length cy, .int .u8 c.st, .int .i64 c.ca] 28))
  have HB := Lib.hid (below_alloc (o := .cells #[.int .i64 d.id, .int .i64 d.us, .int .i64 d.cl, .int .i64 d.a, .int .i64 d.b, .int .i64 d.c, .bool d.p, .bool d.q, .bool d.r, .bool d.tn, .int .i64 d.wa, .int .i64 d.pr, .bool d.he, .slice Z d.af.length cz, .int .u8 d.st, .int .i64 d.ca] 28) (below_alloc (o := .cells #[.int .i64 c.id, .int .i64 c.us, .int .i64 c.cl, .int .i64 c.a, .int .i64 c.b, .int .i64 c.c, .bool c.p, .bool c.q, .bool c.r, .bool c.tn, .int .i64 c.wa, .int .i64 c.pr, .bool c.he, .slice Y c.af.length cy, .int .u8 c.st, .int .i64 c.ca] 28) (Below.refl w.heap.size w)))
  go_enter Try.func58, Try.ntmps58
  cases e0 : (c.id == d.id)
  · go_wp2_with fail
    go_ret
    exact ⟨by rw [show jobB c d = false from by simp only [jobB, e0, Bool.true_and, Bool.false_and, Bool.and_false, Bool.and_true]]; rfl, HB.out⟩
  · cases e1 : (c.us == d.us)
    · go_wp2_with fail
      go_ret
      exact ⟨by rw [show jobB c d = false from by simp only [jobB, e0, e1, Bool.true_and, Bool.false_and, Bool.and_false, Bool.and_true]]; rfl, HB.out⟩
    · cases e2 : (c.cl == d.cl)
      · go_wp2_with fail
        go_ret
        exact ⟨by rw [show jobB c d = false from by simp only [jobB, e0, e1, e2, Bool.true_and, Bool.false_and, Bool.and_false, Bool.and_true]]; rfl, HB.out⟩
      · cases e3 : wantsB c d
        · go_wp2_with fail
          go_ret
          exact ⟨by rw [show jobB c d = false from by simp only [jobB, e0, e1, e2, e3, Bool.true_and, Bool.false_and, Bool.and_false, Bool.and_true]]; rfl, HB.out⟩
        · cases e4 : (c.wa == d.wa)
          · go_wp2_with fail
            go_ret
            exact ⟨by rw [show jobB c d = false from by simp only [jobB, e0, e1, e2, e3, e4, Bool.true_and, Bool.false_and, Bool.and_false, Bool.and_true]]; rfl, HB.out⟩
          · cases e5 : (c.pr == d.pr)
            · go_wp2_with fail
              go_ret
              exact ⟨by rw [show jobB c d = false from by simp only [jobB, e0, e1, e2, e3, e4, e5, Bool.true_and, Bool.false_and, Bool.and_false, Bool.and_true]]; rfl, HB.out⟩
            · cases e6 : (c.he == d.he)
              · go_wp2_with fail
                go_ret
                exact ⟨by rw [show jobB c d = false from by simp only [jobB, e0, e1, e2, e3, e4, e5, e6, Bool.true_and, Bool.false_and, Bool.and_false, Bool.and_true]]; rfl, HB.out⟩
              · go_wp2_with fail
                refine (rints28 Y Z cy cz c.af d.af hl hm _ (HYZ.out.1.up HB.out) (HYZ.out.2.up HB.out)).mono ?_
                rintro e w1 ⟨rfl, hB1⟩
                have KA1 := KA.out.below hB1 KA.out.lt
                have KB1 := KB.out.below hB1 KB.out.lt
                have HB1 := Lib.hid (below_up HB.out hB1)
                clear hB1
                have a14 : w1.cell? ⟨w.heap.size, 14, none⟩ = some (.int .u8 c.st) := KA1.cell 14
                have a15 : w1.cell? ⟨w.heap.size, 15, none⟩ = some (.int .i64 c.ca) := KA1.cell 15
                have b14 : w1.cell? ⟨w.heap.size + 1, 14, none⟩ = some (.int .u8 d.st) := KB1.cell 14
                have b15 : w1.cell? ⟨w.heap.size + 1, 15, none⟩ = some (.int .i64 d.ca) := KB1.cell 15
                clear KA1 KB1 KA KB HB
                cases e7 : decide (c.af = d.af)
                · go_wp2_with fail
                  go_ret
                  exact ⟨by rw [show jobB c d = false from by simp only [jobB, e0, e1, e2, e3, e4, e5, e6, e7, Bool.true_and, Bool.false_and, Bool.and_false, Bool.and_true]]; rfl, HB1.out⟩
                · cases e8 : (c.st == d.st)
                  · go_wp2_with fail
                    go_ret
                    exact ⟨by rw [show jobB c d = false from by simp only [jobB, e0, e1, e2, e3, e4, e5, e6, e7, e8, Bool.true_and, Bool.false_and, Bool.and_false, Bool.and_true]]; rfl, HB1.out⟩
                  · go_wp2_with fail
                    go_ret
                    exact ⟨by rw [show jobB c d = (c.ca == d.ca) from by simp only [jobB, e0, e1, e2, e3, e4, e5, e6, e7, e8, Bool.true_and, Bool.false_and, Bool.and_false, Bool.and_true]]; rfl, HB1.out⟩
theorem rsameJobV (x y : JV) (Y Z : Option Addr) (cy cz : Nat) (B : Bool) (hB : decide (x = y) = B) (hx : JWf x) (hy : JWf y) (hl : x.q.af.length ≤ 9223372036854775807) (hm : y.q.af.length ≤ 9223372036854775807) (w : World) (hY : IntsAt w Y x.q.af) (hZ : IntsAt w Z y.q.af) :
    Calls Try.prog 58 #[.agg (jL x Y cy).toArray, .agg (jL y Z cz).toArray] w fun e w' => e = .returned (.bool B) ∧ Below w.heap.size w w' := by
  have := rsameJob28 (cvOf x) (cvOf y) Y Z cy cz (cvOf_wf hx) (cvOf_wf hy) hl hm w hY hZ
  rw [jobB_eq, hB] at this
  exact this
end Go.Proofs.Ytfdldbfjeamlcaa.RecF1
/-! tidehallref28.SameCommand. -/
namespace Go.Proofs.Ytfdldbfjeamlcaa.RecF2
open Go.RowKit RecGuard Mem RecMem RecByte RecNum RecEach RecMath RecCommand RecCmdJ RecEq RecKeys RecEqA RecJobs RecJobsA RecVal RecEqual RecEqual2 RecEqJ RecCfgs RecSame RecOwn RecSameA RecF1
set_option linter.unusedVariables false
set_option linter.unusedSimpArgs false

set_option maxRecDepth 100000 in
set_option maxHeartbeats 4000000 in
theorem rsameCmd28 (c d : CV) (Y Z : Option Addr) (cy cz : Nat) (hc : CWf c) (hd : CWf d) (hl : c.af.length ≤ 9223372036854775807) (hm : d.af.length ≤ 9223372036854775807) (w : World) (hY : IntsAt w Y c.af) (hZ : IntsAt w Z d.af) :
    Calls Try.prog 24 #[.agg #[.int .u8 c.kd, .int .i64 c.id, .int .i64 c.us, .int .i64 c.cl, .int .i64 c.a, .int .i64 c.b, .int .i64 c.c, .bool c.p, .bool c.q, .bool c.r, .bool c.tn, .int .i64 c.wa, .int .i64 c.pr, .bool c.he, .slice Y c.af.length cy, .int .u8 c.st, .int .i64 c.ca, .int .i64 c.ci, .int .i64 c.b0, .int .i64 c.b1, .int .i64 c.b2, .int .i64 c.b3, .int .i64 c.b4, .int .i64 c.b5, .int .i64 c.fr, .int .i64 c.to, .int .i64 c.n, .bool c.we], .agg #[.int .u8 d.kd, .int .i64 d.id, .int .i64 d.us, .int .i64 d.cl, .int .i64 d.a, .int .i64 d.b, .int .i64 d.c, .bool d.p, .bool d.q, .bool d.r, .bool d.tn, .int .i64 d.wa, .int .i64 d.pr, .bool d.he, .slice Z d.af.length cz, .int .u8 d.st, .int .i64 d.ca, .int .i64 d.ci, .int .i64 d.b0, .int .i64 d.b1, .int .i64 d.b2, .int .i64 d.b3, .int .i64 d.b4, .int .i64 d.b5, .int .i64 d.fr, .int .i64 d.to, .int .i64 d.n, .bool d.we]] w fun e w' => e = .returned (.bool (decide (c = d))) ∧ Below w.heap.size w w' := by
  have HYZ := Lib.hid (And.intro hY hZ)
  have HW := Lib.hid (And.intro hc hd)
  have HV := Lib.hid (cv_eq c d)
  clear hY hZ hc hd
  go_enter Try.func24, Try.ntmps24
  go_upto_region 1 with fail
  have KA := Lib.hid ((Blk.new w 34 #[.int .u8 c.kd, .int .i64 c.id, .int .i64 c.us, .int .i64 c.cl, .int .i64 c.a, .int .i64 c.b, .int .i64 c.c, .bool c.p, .bool c.q, .bool c.r, .bool c.tn, .int .i64 c.wa, .int .i64 c.pr, .bool c.he, .slice Y c.af.length cy, .int .u8 c.st, .int .i64 c.ca, .int .i64 c.ci, .int .i64 c.b0, .int .i64 c.b1, .int .i64 c.b2, .int .i64 c.b3, .int .i64 c.b4, .int .i64 c.b5, .int .i64 c.fr, .int .i64 c.to, .int .i64 c.n, .bool c.we]).alloc (.cells #[.int .u8 d.kd, .int .i64 d.id, .int .i64 d.us, .int .i64 d.cl, .int .i64 d.a, .int .i64 d.b, .int .i64 d.c, .bool d.p, .bool d.q, .bool d.r, .bool d.tn, .int .i64 d.wa, .int .i64 d.pr, .bool d.he, .slice Z d.af.length cz, .int .u8 d.st, .int .i64 d.ca, .int .i64 d.ci, .int .i64 d.b0, .int .i64 d.b1, .int .i64 d.b2, .int .i64 d.b3, .int .i64 d.b4, .int .i64 d.b5, .int .i64 d.fr, .int .i64 d.to, .int .i64 d.n, .bool d.we] 34))
  have KB := Lib.hid (blk1 w 34 #[.int .u8 d.kd, .int .i64 d.id, .int .i64 d.us, .int .i64 d.cl, .int .i64 d.a, .int .i64 d.b, .int .i64 d.c, .bool d.p, .bool d.q, .bool d.r, .bool d.tn, .int .i64 d.wa, .int .i64 d.pr, .bool d.he, .slice Z d.af.length cz, .int .u8 d.st, .int .i64 d.ca, .int .i64 d.ci, .int .i64 d.b0, .int .i64 d.b1, .int .i64 d.b2, .int .i64 d.b3, .int .i64 d.b4, .int .i64 d.b5, .int .i64 d.fr, .int .i64 d.to, .int .i64 d.n, .bool d.we] (o := .cells #[.int .u8 c.kd, .int .i64 c.id, .int .i64 c.us, .int .i64 c.cl, .int .i64 c.a, .int .i64 c.b, .int .i64 c.c, .bool c.p, .bool c.q, .bool c.r, .bool c.tn, .int .i64 c.wa, .int .i64 c.pr, .bool c.he, .slice Y c.af.length cy, .int .u8 c.st, .int .i64 c.ca, .int .i64 c.ci, .int .i64 c.b0, .int .i64 c.b1, .int .i64 c.b2, .int .i64 c.b3, .int .i64 c.b4, .int .i64 c.b5, .int .i64 c.fr, .int .i64 c.to, .int .i64 c.n, .bool c.we] 34))
  have HB := Lib.hid (below_alloc (o := .cells #[.int .u8 d.kd, .int .i64 d.id, .int .i64 d.us, .int .i64 d.cl, .int .i64 d.a, .int .i64 d.b, .int .i64 d.c, .bool d.p, .bool d.q, .bool d.r, .bool d.tn, .int .i64 d.wa, .int .i64 d.pr, .bool d.he, .slice Z d.af.length cz, .int .u8 d.st, .int .i64 d.ca, .int .i64 d.ci, .int .i64 d.b0, .int .i64 d.b1, .int .i64 d.b2, .int .i64 d.b3, .int .i64 d.b4, .int .i64 d.b5, .int .i64 d.fr, .int .i64 d.to, .int .i64 d.n, .bool d.we] 34) (below_alloc (o := .cells #[.int .u8 c.kd, .int .i64 c.id, .int .i64 c.us, .int .i64 c.cl, .int .i64 c.a, .int .i64 c.b, .int .i64 c.c, .bool c.p, .bool c.q, .bool c.r, .bool c.tn, .int .i64 c.wa, .int .i64 c.pr, .bool c.he, .slice Y c.af.length cy, .int .u8 c.st, .int .i64 c.ca, .int .i64 c.ci, .int .i64 c.b0, .int .i64 c.b1, .int .i64 c.b2, .int .i64 c.b3, .int .i64 c.b4, .int .i64 c.b5, .int .i64 c.fr, .int .i64 c.to, .int .i64 c.n, .bool c.we] 34) (Below.refl w.heap.size w)))
  generalize (w.alloc (.cells #[.int .u8 c.kd, .int .i64 c.id, .int .i64 c.us, .int .i64 c.cl, .int .i64 c.a, .int .i64 c.b, .int .i64 c.c, .bool c.p, .bool c.q, .bool c.r, .bool c.tn, .int .i64 c.wa, .int .i64 c.pr, .bool c.he, .slice Y c.af.length cy, .int .u8 c.st, .int .i64 c.ca, .int .i64 c.ci, .int .i64 c.b0, .int .i64 c.b1, .int .i64 c.b2, .int .i64 c.b3, .int .i64 c.b4, .int .i64 c.b5, .int .i64 c.fr, .int .i64 c.to, .int .i64 c.n, .bool c.we] 34)).alloc (.cells #[.int .u8 d.kd, .int .i64 d.id, .int .i64 d.us, .int .i64 d.cl, .int .i64 d.a, .int .i64 d.b, .int .i64 d.c, .bool d.p, .bool d.q, .bool d.r, .bool d.tn, .int .i64 d.wa, .int .i64 d.pr, .bool d.he, .slice Z d.af.length cz, .int .u8 d.st, .int .i64 d.ca, .int .i64 d.ci, .int .i64 d.b0, .int .i64 d.b1, .int .i64 d.b2, .int .i64 d.b3, .int .i64 d.b4, .int .i64 d.b5, .int .i64 d.fr, .int .i64 d.to, .int .i64 d.n, .bool d.we] 34) = WB at *
  have p0 : WB.cell? ⟨w.heap.size, 0, none⟩ = some (.int .u8 c.kd) := KA.out.cell 0
  have p1 : WB.cell? ⟨w.heap.size, 1, none⟩ = some (.int .i64 c.id) := KA.out.cell 1
  have p2 : WB.cell? ⟨w.heap.size, 2, none⟩ = some (.int .i64 c.us) := KA.out.cell 2
  have p3 : WB.cell? ⟨w.heap.size, 3, none⟩ = some (.int .i64 c.cl) := KA.out.cell 3
  have p4 : WB.cell? ⟨w.heap.size, 4, none⟩ = some (.int .i64 c.a) := KA.out.cell 4
  have p5 : WB.cell? ⟨w.heap.size, 5, none⟩ = some (.int .i64 c.b) := KA.out.cell 5
  have p6 : WB.cell? ⟨w.heap.size, 6, none⟩ = some (.int .i64 c.c) := KA.out.cell 6
  have p7 : WB.cell? ⟨w.heap.size, 7, none⟩ = some (.bool c.p) := KA.out.cell 7
  have p8 : WB.cell? ⟨w.heap.size, 8, none⟩ = some (.bool c.q) := KA.out.cell 8
  have p9 : WB.cell? ⟨w.heap.size, 9, none⟩ = some (.bool c.r) := KA.out.cell 9
  have p10 : WB.cell? ⟨w.heap.size, 10, none⟩ = some (.bool c.tn) := KA.out.cell 10
  have p11 : WB.cell? ⟨w.heap.size, 11, none⟩ = some (.int .i64 c.wa) := KA.out.cell 11
  have p12 : WB.cell? ⟨w.heap.size, 12, none⟩ = some (.int .i64 c.pr) := KA.out.cell 12
  have p13 : WB.cell? ⟨w.heap.size, 13, none⟩ = some (.bool c.he) := KA.out.cell 13
  have p14 : WB.cell? ⟨w.heap.size, 14, none⟩ = some (.slice Y c.af.length cy) := KA.out.cell 14
  have p15 : WB.cell? ⟨w.heap.size, 15, none⟩ = some (.int .u8 c.st) := KA.out.cell 15
  have p16 : WB.cell? ⟨w.heap.size, 16, none⟩ = some (.int .i64 c.ca) := KA.out.cell 16
  have q0 : WB.cell? ⟨w.heap.size + 1, 0, none⟩ = some (.int .u8 d.kd) := KB.out.cell 0
  have q1 : WB.cell? ⟨w.heap.size + 1, 1, none⟩ = some (.int .i64 d.id) := KB.out.cell 1
  have q2 : WB.cell? ⟨w.heap.size + 1, 2, none⟩ = some (.int .i64 d.us) := KB.out.cell 2
  have q3 : WB.cell? ⟨w.heap.size + 1, 3, none⟩ = some (.int .i64 d.cl) := KB.out.cell 3
  have q4 : WB.cell? ⟨w.heap.size + 1, 4, none⟩ = some (.int .i64 d.a) := KB.out.cell 4
  have q5 : WB.cell? ⟨w.heap.size + 1, 5, none⟩ = some (.int .i64 d.b) := KB.out.cell 5
  have q6 : WB.cell? ⟨w.heap.size + 1, 6, none⟩ = some (.int .i64 d.c) := KB.out.cell 6
  have q7 : WB.cell? ⟨w.heap.size + 1, 7, none⟩ = some (.bool d.p) := KB.out.cell 7
  have q8 : WB.cell? ⟨w.heap.size + 1, 8, none⟩ = some (.bool d.q) := KB.out.cell 8
  have q9 : WB.cell? ⟨w.heap.size + 1, 9, none⟩ = some (.bool d.r) := KB.out.cell 9
  have q10 : WB.cell? ⟨w.heap.size + 1, 10, none⟩ = some (.bool d.tn) := KB.out.cell 10
  have q11 : WB.cell? ⟨w.heap.size + 1, 11, none⟩ = some (.int .i64 d.wa) := KB.out.cell 11
  have q12 : WB.cell? ⟨w.heap.size + 1, 12, none⟩ = some (.int .i64 d.pr) := KB.out.cell 12
  have q13 : WB.cell? ⟨w.heap.size + 1, 13, none⟩ = some (.bool d.he) := KB.out.cell 13
  have q14 : WB.cell? ⟨w.heap.size + 1, 14, none⟩ = some (.slice Z d.af.length cz) := KB.out.cell 14
  have q15 : WB.cell? ⟨w.heap.size + 1, 15, none⟩ = some (.int .u8 d.st) := KB.out.cell 15
  have q16 : WB.cell? ⟨w.heap.size + 1, 16, none⟩ = some (.int .i64 d.ca) := KB.out.cell 16
  have qb := eq_box HW.out.1 HW.out.2
  have qs := eq_span HW.out.1 HW.out.2
  have HJ := Lib.hid (rsameJob28 c d Y Z cy cz HW.out.1 HW.out.2 hl hm WB (HYZ.out.1.up HB.out) (HYZ.out.2.up HB.out))
  cases e0 : (c.kd == d.kd)
  · go_wp2_with fail
    go_ret
    exact ⟨by rw [HV.out]; simp only [e0, Bool.true_and, Bool.false_and]; rfl, HB.out⟩
  · go_wp2_with fail
    refine HJ.out.mono ?_
    rintro e wd ⟨rfl, hBd⟩
    have k5 := KA.out.below hBd KA.out.lt
    have k6 := KB.out.below hBd KB.out.lt
    have HBd := Lib.hid (below_up HB.out hBd)
    clear p0 q0 p1 q1 p2 q2 p3 q3 p4 q4 p5 q5 p6 q6 p7 q7 p8 q8 p9 q9 p10 q10 p11 q11 p12 q12 p13 q13 p14 q14 p15 q15 p16 q16
    have p17 : wd.cell? ⟨w.heap.size, 17, none⟩ = some (.int .i64 c.ci) := k5.cell 17
    have p18 : wd.cell? ⟨w.heap.size, 18, none⟩ = some (.int .i64 c.b0) := k5.cell 18
    have p19 : wd.cell? ⟨w.heap.size, 19, none⟩ = some (.int .i64 c.b1) := k5.cell 19
    have p20 : wd.cell? ⟨w.heap.size, 20, none⟩ = some (.int .i64 c.b2) := k5.cell 20
    have p21 : wd.cell? ⟨w.heap.size, 21, none⟩ = some (.int .i64 c.b3) := k5.cell 21
    have p22 : wd.cell? ⟨w.heap.size, 22, none⟩ = some (.int .i64 c.b4) := k5.cell 22
    have p23 : wd.cell? ⟨w.heap.size, 23, none⟩ = some (.int .i64 c.b5) := k5.cell 23
    have p24 : wd.cell? ⟨w.heap.size, 24, none⟩ = some (.int .i64 c.fr) := k5.cell 24
    have p25 : wd.cell? ⟨w.heap.size, 25, none⟩ = some (.int .i64 c.to) := k5.cell 25
    have p26 : wd.cell? ⟨w.heap.size, 26, none⟩ = some (.int .i64 c.n) := k5.cell 26
    have p27 : wd.cell? ⟨w.heap.size, 27, none⟩ = some (.bool c.we) := k5.cell 27
    have q17 : wd.cell? ⟨w.heap.size + 1, 17, none⟩ = some (.int .i64 d.ci) := k6.cell 17
    have q18 : wd.cell? ⟨w.heap.size + 1, 18, none⟩ = some (.int .i64 d.b0) := k6.cell 18
    have q19 : wd.cell? ⟨w.heap.size + 1, 19, none⟩ = some (.int .i64 d.b1) := k6.cell 19
    have q20 : wd.cell? ⟨w.heap.size + 1, 20, none⟩ = some (.int .i64 d.b2) := k6.cell 20
    have q21 : wd.cell? ⟨w.heap.size + 1, 21, none⟩ = some (.int .i64 d.b3) := k6.cell 21
    have q22 : wd.cell? ⟨w.heap.size + 1, 22, none⟩ = some (.int .i64 d.b4) := k6.cell 22
    have q23 : wd.cell? ⟨w.heap.size + 1, 23, none⟩ = some (.int .i64 d.b5) := k6.cell 23
    have q24 : wd.cell? ⟨w.heap.size + 1, 24, none⟩ = some (.int .i64 d.fr) := k6.cell 24
    have q25 : wd.cell? ⟨w.heap.size + 1, 25, none⟩ = some (.int .i64 d.to) := k6.cell 25
    have q26 : wd.cell? ⟨w.heap.size + 1, 26, none⟩ = some (.int .i64 d.n) := k6.cell 26
    have q27 : wd.cell? ⟨w.heap.size + 1, 27, none⟩ = some (.bool d.we) := k6.cell 27
    clear k5 k6 hBd HJ KA KB
    cases e1 : jobB c d
    · go_wp2_with fail
      go_ret
      exact ⟨by rw [HV.out]; simp only [e0, e1, Bool.true_and, Bool.false_and]; rfl, HBd.out⟩
    · cases e2 : (c.ci == d.ci)
      · go_wp2_with fail
        go_ret
        exact ⟨by rw [HV.out]; simp only [e0, e1, e2, Bool.true_and, Bool.false_and]; rfl, HBd.out⟩
      · cases e3 : boxB c d
        · go_wp2_with fail
          go_ret
          exact ⟨by rw [HV.out]; simp only [e0, e1, e2, e3, Bool.true_and, Bool.false_and]; rfl, HBd.out⟩
        · cases e4 : spanB c d
          · go_wp2_with fail
            go_ret
            exact ⟨by rw [HV.out]; simp only [e0, e1, e2, e3, e4, Bool.true_and, Bool.false_and]; rfl, HBd.out⟩
          · cases e5 : (c.n == d.n)
            · go_wp2_with fail
              go_ret
              exact ⟨by rw [HV.out]; simp only [e0, e1, e2, e3, e4, e5, Bool.true_and, Bool.false_and]; rfl, HBd.out⟩
            · go_wp2_with fail
              go_ret
              exact ⟨by rw [HV.out]; simp only [e0, e1, e2, e3, e4, e5, Bool.true_and]; rfl, HBd.out⟩
end Go.Proofs.Ytfdldbfjeamlcaa.RecF2
