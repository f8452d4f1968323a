/- Several texts joined: Layer 29's first examples. No conditions. -/
import Derived.BigQuiet
import Derived.Deep.QuietTactic
import Derived.Deep.DeepCutAuto
import Derived.Deep.RegionLaw
import Derived.Laws.Rows
import Derived.Test.YtfdldbfjeamlcaaT15
import Derived.Test.YtfdldbfjeamlcaaT17
import Derived.Deep.MidRow
import Derived.Lib.QuietBelow
import Derived.Lib.SliceRun
import Derived.Test.YtfdldbfjeamlcaaG10
import Derived.Test.YtfdldbfjeamlcaaG1
import Derived.Test.YtfdldbfjeamlcaaG6
import Derived.Test.YtfdldbfjeamlcaaG12
/-! Layer 29's first examples. No conditions. -/
namespace Go.Proofs.Ytfdldbfjeamlcaa.LogAlive
open Go.RowKit MarkMath Mem RecMem RecByte RecNum RecEach RecMath RecPort RecCommand RecCod RecVal RecSame RecRd RecRL0 RecWr0 RecRecC RecWOk RecOwn RecCmdJ RecRead RecAll RecAlive2 LogFour LogJoin LogWrap LogFrm LogAllV LogPlain
set_option linter.unusedVariables false
set_option linter.unusedSimpArgs false

abbrev rT : RV := ⟨0, SV.z, cTick⟩
theorem rT_bytes : recB rT = [0, 0, 0, 0, 0, 0, 0, 0, 7, 5, 0, 0, 0, 0, 0, 0, 0] := by rw [recB_cmd rfl]; exact tick_bytes
theorem rT_ok : okR rT := okR_of tick_wf (by decide) (by decide) (by decide)
theorem rT_mk : mk 0 [0, 0, 0, 0, 0, 0, 0, 0, 7, 5, 0, 0, 0, 0, 0, 0, 0] = 2469451442 := by decide +kernel
theorem rT_frame : wrapB rT = [17, 0, 0, 0, 178, 214, 48, 147, 0, 0, 0, 0, 0, 0, 0, 0, 7, 5, 0, 0, 0, 0, 0, 0, 0] := by unfold wrapB; rw [rT_bytes, rT_mk]; decide +kernel
/-- One frame and most of another. -/
theorem fr_one : fr (wrapB rT ++ (wrapB rT).take 24) 50 0 = [(25, rT)] := by
  have h := fr_wrap [] ((wrapB rT).take 24) rT_ok (by rw [rT_bytes]; decide) 49
  have h2 := fr_part (wrapB rT) (r := rT) (by rw [rT_bytes]; decide) (m := 24) (by rw [rT_frame]; decide) 48
  simp only [List.nil_append, List.length_nil, Nat.zero_add] at h
  rw [h, h2, rT_frame]
  rfl
abbrev bad25 : Bs := [17, 0, 0, 0, 178, 214, 48, 147, 0, 0, 1, 0, 0, 0, 0, 0, 7, 5, 0, 0, 0, 0, 0, 0, 0]
theorem fr_bad25 : fr bad25 26 0 = [(-1, RV.z)] := by
  have n0 : num4 (bad25.drop 0) = 17 := by decide +kernel
  refine fr_bad (by decide) (by rw [n0]; decide) (by rw [n0]; decide) fun h => ?_
  have h2 := h.2
  unfold frT at h2
  rw [n0] at h2
  exact absurd h2 (by decide +kernel)
theorem all_49 {B c : Nat} {Y : Option Addr} {T : Bs} (hT : T = wrapB rT) (w : World) (h : w.ownsRow B 5 1 (.slice Y 49 c) 49 (T.map (Value.int .u8) ++ (T.take 24).map (Value.int .u8))) :
    Calls Try.prog 39 #[.slice Y 49 c] w fun e w' => (∃ V c', e = .returned (.tuple #[.slice V 1 c', .int .i64 25, .int .i64 0])) ∧ Below w.heap.size w w' := by
  subst hT
  have hl : (wrapB rT ++ (wrapB rT).take 24).length = 49 := by rw [rT_frame]; rfl
  have hx : TxtAt w Y (wrapB rT ++ (wrapB rT).take 24) := txt_of (n := 49) (by have := Reads.of_own h; rw [List.map_append]; exact this)
  have ho : Oct (wrapB rT ++ (wrapB rT).take 24) := by rw [rT_frame]; unfold Oct; decide +kernel
  have hcap := RecWrite0.row_cap h
  have h := all_any Y c _ ho (by rw [hl]; exact hcap.1) hcap.2 (by rw [hl]; decide) w hx
  unfold AllPost at h
  rw [hl, fr_one] at h
  refine h.mono ?_
  rintro e w' ⟨⟨_, V, c', rfl, _⟩ | ⟨⟨p, hp, hn⟩, _⟩, hB⟩
  · exact ⟨⟨V, c', rfl⟩, hB⟩
  · simp at hp
    subst hp
    simp at hn
theorem all_25 {c g : Nat} (w : World) (hx : TxtAt w (some ⟨g, 0, none⟩) bad25) (h25 : 25 ≤ c) (hm : c ≤ maxLen) :
    Calls Try.prog 39 #[.slice (some ⟨g, 0, none⟩) 25 c] w fun e w' => e = .returned (.tuple #[.slice none 0 0, .int .i64 0, .int .i64 290]) ∧ Below w.heap.size w w' := by
  have ho : Oct bad25 := by unfold Oct; decide +kernel
  have h := all_any (some ⟨g, 0, none⟩) c bad25 ho h25 hm (by decide) w hx
  unfold AllPost at h
  rw [show bad25.length = 25 from rfl, fr_bad25] at h
  refine h.mono ?_
  rintro e w' ⟨⟨hn, _⟩ | ⟨_, rfl⟩, hB⟩
  · exact absurd (by decide) (hn (-1, RV.z) (by simp))
  · exact ⟨rfl, hB⟩
theorem txt_turned {w : World} {g : Nat} {B c : Nat} (h : Fresh B w g [17, 0, 0, 0, 178, 214, 48, 147, 0, 0, 0, 0, 0, 0, 0, 0, 7, 5, 0, 0, 0, 0, 0, 0, 0] c) : TxtAt (w.setCell ⟨g, 10, none⟩ (.int .u8 1)) (some ⟨g, 0, none⟩) bad25 := fun i x hi => by
  refine ⟨g, 0, rfl, by simpa using h.lt, ?_⟩
  rw [Nat.zero_add]
  by_cases h10 : i = 10
  · subst h10
    have e : x = 1 := by simpa using hi.symm
    subst e
    exact World.cell?_setCell_same' _ _ _ (by rw [h.cell 10 _ rfl]; rfl)
  · rw [World.cell?_setCell_other _ _ _ _ (fun e => h10 (by injection e with _ e _; exact e.symm))]
    refine h.cell i x ?_
    match i, h10 with
    | 0, _ | 1, _ | 2, _ | 3, _ | 4, _ | 5, _ | 6, _ | 7, _ | 8, _ | 9, _ | 11, _ | 12, _ | 13, _ | 14, _ | 15, _ | 16, _ | 17, _ | 18, _ | 19, _ | 20, _ | 21, _ | 22, _ | 23, _ | 24, _ => exact hi
    | 10, h => exact absurd rfl h
    | k + 25, _ => simp at hi
set_option maxRecDepth 100000 in
set_option maxHeartbeats 2000000 in
theorem ltick (w : World) : Calls Try.prog 73 #[] w fun e w' => e = .returned (.agg (recA cTick none 0)) ∧ Below w.heap.size w w' := by
  have x5 := box_full (W := w) 51 #[.int .i64 0, .int .i64 0, .int .i64 0, .int .i64 0, .int .i64 0, .int .i64 0, .int .i64 0, .int .i64 0, .slice none 0 0, .int .i64 0, .int .i64 0, .slice none 0 0, .slice none 0 0, .slice none 0 0, .slice none 0 0, .slice none 0 0, .slice none 0 0, .int .u8 0, .int .i64 0, .int .i64 0, .int .i64 0, .int .i64 0, .int .i64 0, .int .i64 0, .bool false, .bool false, .bool false, .bool false, .int .i64 0, .int .i64 0, .bool false, .slice none 0 0, .int .u8 0, .int .i64 0, .int .i64 0, .int .i64 0, .int .i64 0, .int .i64 0, .int .i64 0, .int .i64 0, .int .i64 0, .int .i64 0, .int .i64 0, .int .i64 0, .bool false] (vs := (recA cTick none 0).toList) rfl
  go_enter Try.func73, Try.ntmps73
  go_wp2_with (first | (refine wpList_store_mid rfl 51 _ _ rfl w.heap.size 0 (recA cTick none 0) rfl rfl (there_of (Blk.new w 51 #[.int .i64 0, .int .i64 0, .int .i64 0, .int .i64 0, .int .i64 0, .int .i64 0, .int .i64 0, .int .i64 0, .slice none 0 0, .int .i64 0, .int .i64 0, .slice none 0 0, .slice none 0 0, .slice none 0 0, .slice none 0 0, .slice none 0 0, .slice none 0 0, .int .u8 0, .int .i64 0, .int .i64 0, .int .i64 0, .int .i64 0, .int .i64 0, .int .i64 0, .bool false, .bool false, .bool false, .bool false, .int .i64 0, .int .i64 0, .bool false, .slice none 0 0, .int .u8 0, .int .i64 0, .int .i64 0, .int .i64 0, .int .i64 0, .int .i64 0, .int .i64 0, .int .i64 0, .int .i64 0, .int .i64 0, .int .i64 0, .int .i64 0, .bool false]) (Nat.le_of_ble_eq_true rfl)) (by kernel_rfl) (by kernel_rfl) ?_; generalize World.setCells _ _ _ _ = W5 at *; (try simp only [Act.put])))
  exact bodyPost_ret (v := .agg (recA cTick none 0)) (results_cell_row rfl _ _ w.heap.size 51 (recA cTick none 0) (0, 0) _ rfl x5.1 Try.underlying51 rfl (by kernel_rfl)) rfl ⟨rfl, x5.2⟩
set_option maxRecDepth 100000 in
set_option maxHeartbeats 2000000 in
theorem alive29 (w : World) : Calls Try.prog 42 #[] w fun e w' => e = .returned (.bool true) ∧ Below w.heap.size w w' := by
  go_enter Try.func42, Try.ntmps42
  go_wp2_with fail
  refine (ltick w).mono ?_
  rintro e w1 ⟨rfl, hB1⟩
  have HB1 := Lib.hid hB1
  have HW1 := Lib.hid hB1.size
  clear hB1
  go_wp2_with fail
  refine Calls.mono (show Calls Try.prog 37 #[.agg (recA cTick none 0)] w1 _ from wrap_v rT SA.z none 0 (facts_of tick_wf (by decide)) w1 ⟨StAt.z, IntsAt.nil, Nat.zero_le _⟩) ?_
  rintro e w2 ⟨⟨v, X, n, c, rfl, hV, _, h0⟩, hB2⟩
  have e0 : v = 0 := hV.ok.2 ⟨rT_ok, by rw [rT_bytes]; decide⟩
  subst e0
  obtain ⟨g, rfl, hn0, hF⟩ := h0 rfl
  have hn : n = 25 := by rw [hn0, rT_frame]; rfl
  clear hn0
  subst hn
  rw [rT_frame] at hF
  have HF := Lib.hid hF
  have HB2 := Lib.hid (below_up HB1.out hB2)
  clear hV h0 hF hB2 HB1
  have q0 : w2.cell? ⟨g, 0, none⟩ = some (.int .u8 17) := HF.out.cell 0 _ rfl
  have q1 : w2.cell? ⟨g, 1, none⟩ = some (.int .u8 0) := HF.out.cell 1 _ rfl
  have q2 : w2.cell? ⟨g, 2, none⟩ = some (.int .u8 0) := HF.out.cell 2 _ rfl
  have q3 : w2.cell? ⟨g, 3, none⟩ = some (.int .u8 0) := HF.out.cell 3 _ rfl
  have hc25 : 25 ≤ c := HF.out.cap
  have hcm : c ≤ 9223372036854775807 := by have := HF.out.top; simpa [maxLen] using this
  have HW2 := Lib.hid (And.intro HF.out.txt (And.intro HF.out.lt HB2.out))
  go_wp2_with fail
  have kq0 := cell_regrown q0
  have kq1 := cell_regrown q1
  have kq2 := cell_regrown q2
  have kq3 := cell_regrown q3
  refine wp_region_quiet_below (by kernel_rfl) (by kernel_rfl) ?_
  repeat (go_big_quiet_step (first | fail))
  refine wpQuiet_nil ?_
  intro _ hw'
  obtain ⟨⟨dq, osq⟩, hw''⟩ := hw'
  subst hw''
  have hBq := below_regrown w2 dq osq
  clear kq0 kq1 kq2 kq3 q0 q1 q2 q3
  generalize Sort.grow (redrawn w2 dq) osq = W3 at *
  have HF3 := Lib.hid (HF.out.up hBq)
  have HB3 := Lib.hid (below_up HB2.out hBq)
  clear hBq HF HB2 HW2
  go_upto_region 4 with fail
  obtain ⟨i0, hi0, hz0, hz1, hz2⟩ := info_parts RecByte.byte_info
  have HI0 := Lib.hid (And.intro hi0 (And.intro hz0 (And.intro hz1 hz2)))
  clear hi0 hz0 hz1 hz2
  obtain ⟨T, hT⟩ : ∃ T : Bs, T = [17, 0, 0, 0, 178, 214, 48, 147, 0, 0, 0, 0, 0, 0, 0, 0, 7, 5, 0, 0, 0, 0, 0, 0, 0] := ⟨_, rfl⟩
  have hTl : T.length = 25 := by rw [hT]; rfl
  have hcells : ∀ l : Bs, ∀ u ∈ l.map (Value.int .u8), u.oneCell' = true := fun l u hu => by
    obtain ⟨n, _, rfl⟩ := List.mem_map.1 hu
    rfl
  have hR3 : ∀ W : World, Below W3.heap.size W3 W → Reads W W3.heap.size 1 (some ⟨g, 0, none⟩) 25 (T.map (Value.int .u8)) ∧ Reads W W3.heap.size 1 (some ⟨g, 0, none⟩) 24 ((T.take 24).map (Value.int .u8)) := fun W hW => by
    have h0 : Reads W3 W3.heap.size 1 (some ⟨g, 0, none⟩) 25 (T.map (Value.int .u8)) := by have := txt_bytes HF3.out.txt; rw [hT]; exact this
    have h1 : Reads W3 W3.heap.size 1 (some ⟨g, 0, none⟩) 24 ((T.take 24).map (Value.int .u8)) := by have := txt_bytes (LogFrm.TxtAt.take HF3.out.txt 24); rw [hT]; exact this
    exact ⟨h0.below hW, h1.below hW⟩
  have HT := Lib.hid hT
  clear hT
  have HR3 := Lib.hid hR3
  clear hR3
  have hc24 : 24 ≤ c := by omega
  have hc0 : ¬ c = 0 := by omega
  have hci : (24 : Int) ≤ (c : Int) := by omega
  go_region_law (first
    | (refine step_append_any _ rfl (.tmp 42) (.tmp 43) _ rfl W3.heap.size 5 i0 (.int .u8 0) 1 1 Try.underlying37 HI0.out.1 HI0.out.2.1 HI0.out.2.2.1 HI0.out.2.2.2 rfl (by decide) (.slice (some ⟨W3.heap.size, 0, none⟩) 0 0) 0 [] (by simp [Act.eval, Act.put]) (World.ownsRow_made W3.drew #[] 0 (Nat.le_refl _) (Nat.zero_le _) (by simp)) W3.heap.size (some ⟨g, 0, none⟩) 25 c (T.map (Value.int .u8)) (by simp [Act.eval, Act.put]) ((HR3.out _ (below_alloc (Below.drew (Below.refl _ W3)))).1) (hcells T) (by simp only [maxLen]; omega) (by omega) (by simp) ?_; intro v7 w7 hown0 hg hat; have hown : w7.ownsRow W3.heap.size 5 1 v7 25 (T.map (Value.int .u8)) := (by simpa using hown0); clear hown0; obtain ⟨Y7, c7, rfl⟩ := own_slice hown; have H7 := Lib.hid (And.intro hown (And.intro hg ((below_alloc (Below.drew (Below.refl _ W3))).grown hg (by simp) (by intro k hk; cases hk; exact Nat.le_refl _)))); clear hown hg hat)
    | (refine step_append_any _ rfl (.tmp 44) (.tmp 46) _ rfl W3.heap.size 5 i0 (.int .u8 0) 1 1 Try.underlying37 HI0.out.1 HI0.out.2.1 HI0.out.2.2.1 HI0.out.2.2.2 rfl (by decide) _ 25 (T.map (Value.int .u8)) (by simp [Act.eval, Act.put]) H7.out.1 W3.heap.size (some ⟨g, 0, none⟩) 24 c ((T.take 24).map (Value.int .u8)) (by simp [Act.eval, Act.put]) ((HR3.out _ H7.out.2.2).2) (hcells _) (by simp only [maxLen]; omega) (by omega) H7.out.2.2.size ?_; intro v8 w8 hown hg hat; obtain ⟨Y8, c8, rfl⟩ := own_slice hown; have H8 := Lib.hid (And.intro (show w8.ownsRow W3.heap.size 5 1 (.slice Y8 49 c8) 49 (T.map (Value.int .u8) ++ (T.take 24).map (Value.int .u8)) from hown) (H7.out.2.2.grown hg (by have := H7.out.2.2.size; omega) (fun k hk => (H7.out.1.lt k hk).1))); clear hown hg hat)
    | (go_simp; refine (all_49 (HT.out.trans rT_frame.symm) w8 H8.out.1).mono ?_; rintro e w9 ⟨⟨V9, c9, rfl⟩, hB9⟩; have HB9 := Lib.hid (below_up H8.out.2 hB9); clear hB9))
  have HF9 := Lib.hid (HF3.out.up HB9.out)
  have HBZ := Lib.hid (below_up HB3.out HB9.out)
  have p10 : w9.cell? ⟨g, 10, none⟩ = some (.int .u8 0) := HF9.out.cell 10 _ rfl
  have z10 : w9.frozen? ⟨g, 10, none⟩ = false := HF9.out.free 10 (by omega)
  clear HB9 HB3 HF3 HR3 H7 H8
  go_wp2_with fail
  have hx := txt_turned HF9.out
  refine (all_25 _ hx hc25 HF9.out.top).mono ?_
  rintro e w10 ⟨rfl, hB10⟩
  have HBE := Lib.hid (below_up (HBZ.out.setCell (p := ⟨g, 10, none⟩) (Nat.le_trans HW1.out HF9.out.le) _) hB10)
  clear hB10 p10 z10 hx
  go_wp2_with fail
  go_ret
  exact ⟨rfl, HBE.out⟩
end Go.Proofs.Ytfdldbfjeamlcaa.LogAlive
/-! tidehallref28: lists of numbers, jobs compared. -/
namespace Go.Proofs.Ytfdldbfjeamlcaa.RecF1
open Go.RowKit RecGuard Mem RecMem RecByte RecNum RecEach RecMath RecCommand RecCmdJ RecEq RecKeys RecEqA RecJobs RecJobsA RecVal RecEqual RecEqual2 RecEqJ RecCfgs RecSame RecOwn RecSameA
set_option linter.unusedVariables false
set_option linter.unusedSimpArgs false

set_option maxRecDepth 100000 in
set_option maxHeartbeats 4000000 in
theorem rints28 (X Y : Option Addr) (c d : Nat) (l m : List Int) (hl : l.length ≤ 9223372036854775807) (hm : m.length ≤ 9223372036854775807) (w : World) (hX : IntsAt w X l) (hY : IntsAt w Y m) :
    Calls Try.prog 91 #[.slice X l.length c, .slice Y m.length d] w fun e w' => e = .returned (.bool (decide (l = m))) ∧ Below w.heap.size w w' := by
  obtain ⟨V, hV⟩ : ∃ V, V = decide (l = m) := ⟨_, rfl⟩
  rw [← hV]
  have HV := Lib.hid hV
  have HX := Lib.hid hX
  have HY := Lib.hid hY
  clear hV hX hY
  by_cases hn : l.length = m.length
  · have hn' : ((l.length : Int) != (m.length : Int)) = false := by simp [hn]
    have HN := Lib.hid hn
    have hle : (l.length : Int) ≤ (m.length : Int) := by omega
    clear hn
    go_enter Try.func91, Try.ntmps91
    go_wp2_with fail
    go_loopw [5] (fun i wr => ∃ k : Nat, k ≤ l.length ∧ i = .int .i64 k ∧ Hid (∀ (j : Nat) (x y : Int), j < k → l[j]? = some x → m[j]? = some y → x = y) ∧ Hid (Below w.heap.size w wr))
      (fun i _ => l.length - (intOf i).toNat)
    case atStart => exact ⟨0, Nat.zero_le _, rfl, (fun j x y h => by omega), Below.refl _ _⟩
    case round =>
      obtain ⟨k, hk, rfl, hP, hB⟩ := hrel
      by_cases hlt : k < l.length
      · have hg : l[k]? = some l[k] := List.getElem?_eq_getElem hlt
        generalize l[k] = x at hg
        have hkm : k < m.length := by have := HN.out; omega
        have hg2 : m[k]? = some m[k] := List.getElem?_eq_getElem hkm
        generalize m[k] = y at hg2
        have hki : (k : Int) < (l.length : Int) := by omega
        have hki2 : (k : Int) < (m.length : Int) := by omega
        have hki0 : (0 : Int) ≤ (k : Int) := by omega
        obtain ⟨b, o, rfl, hb, y0⟩ := IntsAt.up HX.out hB.out k x hg
        obtain ⟨b', o', rfl, hb', z0⟩ := IntsAt.up HY.out hB.out k y hg2
        have HG := Lib.hid (And.intro hg hg2)
        clear hg hg2
        by_cases he : x = y
        · have he' : (x != y) = false := by simp [he]
          have HE := Lib.hid he
          clear he
          go_wp2_with fail
          go_quiet (fail)
          go_wp2_with fail
          go_roundw
          case rel => exact ⟨k + 1, by omega, by go_num, (fun j u v hj hu hv => by
              rcases Nat.lt_or_ge j k with h | h
              · exact hP.out j u v h hu hv
              · obtain rfl : j = k := by omega
                rw [HG.out.1] at hu; rw [HG.out.2] at hv; cases hu; cases hv; exact HE.out), Mem.below_drewN hB.out _⟩
          case measure => simp [intOf]; omega
        · have he' : (x != y) = true := by simp [he]
          have ev : V = false := by rw [HV.out]; exact decide_eq_false (list_ne HG.out.1 HG.out.2 he)
          have EV := Lib.hid ev
          clear he ev
          go_wp2_with fail
          go_quiet (fail)
          go_wp2_with fail
          go_ret
          rw [EV.out]
          exact ⟨rfl, Mem.below_drewN hB.out _⟩
      · obtain rfl : k = l.length := by omega
        have ev : V = true := by rw [HV.out]; exact decide_eq_true (list_eq HN.out hP.out)
        have EV := Lib.hid ev
        clear ev
        go_wp2_with fail
        go_ret
        rw [EV.out]
        exact ⟨rfl, hB.out⟩
  · have hn' : ((l.length : Int) != (m.length : Int)) = true := by simp; omega
    have ev : V = false := by rw [HV.out]; exact decide_eq_false fun e => hn (by rw [e])
    have EV := Lib.hid ev
    clear hn ev
    go_enter Try.func91, Try.ntmps91
    go_wp2_with fail
    go_ret
    rw [EV.out]
    exact ⟨rfl, Below.refl _ _⟩
set_option maxRecDepth 100000 in
set_option maxHeartbeats 4000000 in
theorem rsameJob28 (c d : CV) (Y Z : Option Addr) (cy cz : Nat) (hc : CWf c) (hd : CWf d) (hl : c.af.length ≤ 9223372036854775807) (hm : d.af.length ≤ 9223372036854775807) (w : World) (hY : IntsAt w Y c.af) (hZ : IntsAt w Z d.af) :
    Calls Try.prog 58 #[.agg #[.int .i64 c.id, .int .i64 c.us, .int .i64 c.cl, .int .i64 c.a, .int .i64 c.b, .int .i64 c.c, .bool c.p, .bool c.q, .bool c.r, .bool c.tn, .int .i64 c.wa, .int .i64 c.pr, .bool c.he, .slice Y c.af.length cy, .int .u8 c.st, .int .i64 c.ca], .agg #[.int .i64 d.id, .int .i64 d.us, .int .i64 d.cl, .int .i64 d.a, .int .i64 d.b, .int .i64 d.c, .bool d.p, .bool d.q, .bool d.r, .bool d.tn, .int .i64 d.wa, .int .i64 d.pr, .bool d.he, .slice Z d.af.length cz, .int .u8 d.st, .int .i64 d.ca]] w fun e w' => e = .returned (.bool (jobB c d)) ∧ Below w.heap.size w w' := by
  have qw := eq_wants hc hd
  have HYZ := Lib.hid (And.intro hY hZ)
  clear hY hZ hc hd
  have KA := Lib.hid ((Blk.new w 28 #[.int .i64 c.id, .int .i64 c.us, .int .i64 c.cl, .int .i64 c.a, .int .i64 c.b, .int .i64 c.c, .bool c.p, .bool c.q, .bool c.r, .bool c.tn, .int .i64 c.wa, .int .i64 c.pr, .bool c.he, .slice Y c.af.length cy, .int .u8 c.st, .int .i64 c.ca]).alloc (.cells #[.int .i64 d.id, .int .i64 d.us, .int .i64 d.cl, .int .i64 d.a, .int .i64 d.b, .int .i64 d.c, .bool d.p, .bool d.q, .bool d.r, .bool d.tn, .int .i64 d.wa, .int .i64 d.pr, .bool d.he, .slice Z d.af.length cz, .int .u8 d.st, .int .i64 d.ca] 28))
  have KB := Lib.hid (blk1 w 28 #[.int .i64 d.id, .int .i64 d.us, .int .i64 d.cl, .int .i64 d.a, .int .i64 d.b, .int .i64 d.c, .bool d.p, .bool d.q, .bool d.r, .bool d.tn, .int .i64 d.wa, .int .i64 d.pr, .bool d.he, .slice Z d.af.length cz, .int .u8 d.st, .int .i64 d.ca] (o := .cells #[.int .i64 c.id, .int .i64 c.us, .int .i64 c.cl, .int .i64 c.a, .int .i64 c.b, .int .i64 c.c, .bool c.p, .bool c.q, .bool c.r, .bool c.tn, .int .i64 c.wa, .int .i64 c.pr, .bool c.he, .slice Y c.af.length cy, .int .u8 c.st, .int .i64 c.ca] 28))
  have HB := Lib.hid (below_alloc (o := .cells #[.int .i64 d.id, .int .i64 d.us, .int .i64 d.cl, .int .i64 d.a, .int .i64 d.b, .int .i64 d.c, .bool d.p, .bool d.q, .bool d.r, .bool d.tn, .int .i64 d.wa, .int .i64 d.pr, .bool d.he, .slice Z d.af.length cz, .int .u8 d.st, .int .i64 d.ca] 28) (below_alloc (o := .cells #[.int .i64 c.id, .int .i64 c.us, .int .i64 c.cl, .int .i64 c.a, .int .i64 c.b, .int .i64 c.c, .bool c.p, .bool c.q, .bool c.r, .bool c.tn, .int .i64 c.wa, .int .i64 c.pr, .bool c.he, .slice Y c.af.length cy, .int .u8 c.st, .int .i64 c.ca] 28) (Below.refl w.heap.size w)))
  go_enter Try.func58, Try.ntmps58
  cases e0 : (c.id == d.id)
  · go_wp2_with fail
    go_ret
    exact ⟨by rw [show jobB c d = false from by simp only [jobB, e0, Bool.true_and, Bool.false_and, Bool.and_false, Bool.and_true]]; rfl, HB.out⟩
  · cases e1 : (c.us == d.us)
    · go_wp2_with fail
      go_ret
      exact ⟨by rw [show jobB c d = false from by simp only [jobB, e0, e1, Bool.true_and, Bool.false_and, Bool.and_false, Bool.and_true]]; rfl, HB.out⟩
    · cases e2 : (c.cl == d.cl)
      · go_wp2_with fail
        go_ret
        exact ⟨by rw [show jobB c d = false from by simp only [jobB, e0, e1, e2, Bool.true_and, Bool.false_and, Bool.and_false, Bool.and_true]]; rfl, HB.out⟩
      · cases e3 : wantsB c d
        · go_wp2_with fail
          go_ret
          exact ⟨by rw [show jobB c d = false from by simp only [jobB, e0, e1, e2, e3, Bool.true_and, Bool.false_and, Bool.and_false, Bool.and_true]]; rfl, HB.out⟩
        · cases e4 : (c.wa == d.wa)
          · go_wp2_with fail
            go_ret
            exact ⟨by rw [show jobB c d = false from by simp only [jobB, e0, e1, e2, e3, e4, Bool.true_and, Bool.false_and, Bool.and_false, Bool.and_true]]; rfl, HB.out⟩
          · cases e5 : (c.pr == d.pr)
            · go_wp2_with fail
              go_ret
              exact ⟨by rw [show jobB c d = false from by simp only [jobB, e0, e1, e2, e3, e4, e5, Bool.true_and, Bool.false_and, Bool.and_false, Bool.and_true]]; rfl, HB.out⟩
            · cases e6 : (c.he == d.he)
              · go_wp2_with fail
                go_ret
                exact ⟨by rw [show jobB c d = false from by simp only [jobB, e0, e1, e2, e3, e4, e5, e6, Bool.true_and, Bool.false_and, Bool.and_false, Bool.and_true]]; rfl, HB.out⟩
              · go_wp2_with fail
                refine (rints28 Y Z cy cz c.af d.af hl hm _ (HYZ.out.1.up HB.out) (HYZ.out.2.up HB.out)).mono ?_
                rintro e w1 ⟨rfl, hB1⟩
                have KA1 := KA.out.below hB1 KA.out.lt
                have KB1 := KB.out.below hB1 KB.out.lt
                have HB1 := Lib.hid (below_up HB.out hB1)
                clear hB1
                have a14 : w1.cell? ⟨w.heap.size, 14, none⟩ = some (.int .u8 c.st) := KA1.cell 14
                have a15 : w1.cell? ⟨w.heap.size, 15, none⟩ = some (.int .i64 c.ca) := KA1.cell 15
                have b14 : w1.cell? ⟨w.heap.size + 1, 14, none⟩ = some (.int .u8 d.st) := KB1.cell 14
                have b15 : w1.cell? ⟨w.heap.size + 1, 15, none⟩ = some (.int .i64 d.ca) := KB1.cell 15
                clear KA1 KB1 KA KB HB
                cases e7 : decide (c.af = d.af)
                · go_wp2_with fail
                  go_ret
                  exact ⟨by rw [show jobB c d = false from by simp only [jobB, e0, e1, e2, e3, e4, e5, e6, e7, Bool.true_and, Bool.false_and, Bool.and_false, Bool.and_true]]; rfl, HB1.out⟩
                · cases e8 : (c.st == d.st)
                  · go_wp2_with fail
                    go_ret
                    exact ⟨by rw [show jobB c d = false from by simp only [jobB, e0, e1, e2, e3, e4, e5, e6, e7, e8, Bool.true_and, Bool.false_and, Bool.and_false, Bool.and_true]]; rfl, HB1.out⟩
                  · go_wp2_with fail
                    go_ret
                    exact ⟨by rw [show jobB c d = (c.ca == d.ca) from by simp only [jobB, e0, e1, e2, e3, e4, e5, e6, e7, e8, Bool.true_and, Bool.false_and, Bool.and_false, Bool.and_true]]; rfl, HB1.out⟩
theorem rsameJobV (x y : JV) (Y Z : Option Addr) (cy cz : Nat) (B : Bool) (hB : decide (x = y) = B) (hx : JWf x) (hy : JWf y) (hl : x.q.af.length ≤ 9223372036854775807) (hm : y.q.af.length ≤ 9223372036854775807) (w : World) (hY : IntsAt w Y x.q.af) (hZ : IntsAt w Z y.q.af) :
    Calls Try.prog 58 #[.agg (jL x Y cy).toArray, .agg (jL y Z cz).toArray] w fun e w' => e = .returned (.bool B) ∧ Below w.heap.size w w' := by
  have := rsameJob28 (cvOf x) (cvOf y) Y Z cy cz (cvOf_wf hx) (cvOf_wf hy) hl hm w hY hZ
  rw [jobB_eq, hB] at this
  exact this
end Go.Proofs.Ytfdldbfjeamlcaa.RecF1
/-! tidehallref28.Great answers. -/
namespace Go.Proofs.Ytfdldbfjeamlcaa.RecGreat
open Go.RowKit RecGuard Mem RecMem RecByte RecNum RecEach RecMath RecCommand RecCmdJ RecEq RecKeys RecEqA RecJobs RecJobsA RecVal RecEqual RecEqual2 RecEqJ RecCfgs RecSame RecOwn RecSameA RecF1
set_option linter.unusedVariables false
set_option linter.unusedSimpArgs false

/-- A truth, whichever. -/
def Says (e : Ending) : Prop := ∃ B, e = .returned (.bool B)
set_option maxRecDepth 100000 in
set_option maxHeartbeats 4000000 in
/-- The reference's Great answers something. -/
theorem rgreat28 (r : RV) (x : SA) (Y : Option Addr) (cy : Nat) (ht : RTop r) (w : World) (hx : StAt w r.s x) :
    Calls Try.prog 20 #[.agg #[.int .i64 r.g, .int .i64 r.s.d0, .int .i64 r.s.d1, .int .i64 r.s.d2, .int .i64 r.s.bo, .int .i64 r.s.fr, .int .i64 r.s.tr, .int .i64 r.s.ag, .slice x.C r.s.cs.length x.cc, .int .i64 r.s.nw, .int .i64 r.s.nx, .slice x.J r.s.js.length x.cj, .slice x.P r.s.ps.length x.cp, .slice x.K r.s.ks.length x.ck, .slice x.D r.s.dn.length x.cd, .slice x.S r.s.sh.length x.cs, .slice x.U r.s.cu.length x.cu, .int .u8 r.c.kd, .int .i64 r.c.id, .int .i64 r.c.us, .int .i64 r.c.cl, .int .i64 r.c.a, .int .i64 r.c.b, .int .i64 r.c.c, .bool r.c.p, .bool r.c.q, .bool r.c.r, .bool r.c.tn, .int .i64 r.c.wa, .int .i64 r.c.pr, .bool r.c.he, .slice Y r.c.af.length cy, .int .u8 r.c.st, .int .i64 r.c.ca, .int .i64 r.c.ci, .int .i64 r.c.b0, .int .i64 r.c.b1, .int .i64 r.c.b2, .int .i64 r.c.b3, .int .i64 r.c.b4, .int .i64 r.c.b5, .int .i64 r.c.fr, .int .i64 r.c.to, .int .i64 r.c.n, .bool r.c.we]] w fun e w' => Says e ∧ Below w.heap.size w w' := by
  have HI := Lib.hid hx
  have HT := Lib.hid ht
  clear hx ht
  go_enter Try.func20, Try.ntmps20
  go_upto_region 1 with fail
  have KA := Lib.hid (Blk.new w 51 #[.int .i64 r.g, .int .i64 r.s.d0, .int .i64 r.s.d1, .int .i64 r.s.d2, .int .i64 r.s.bo, .int .i64 r.s.fr, .int .i64 r.s.tr, .int .i64 r.s.ag, .slice x.C r.s.cs.length x.cc, .int .i64 r.s.nw, .int .i64 r.s.nx, .slice x.J r.s.js.length x.cj, .slice x.P r.s.ps.length x.cp, .slice x.K r.s.ks.length x.ck, .slice x.D r.s.dn.length x.cd, .slice x.S r.s.sh.length x.cs, .slice x.U r.s.cu.length x.cu, .int .u8 r.c.kd, .int .i64 r.c.id, .int .i64 r.c.us, .int .i64 r.c.cl, .int .i64 r.c.a, .int .i64 r.c.b, .int .i64 r.c.c, .bool r.c.p, .bool r.c.q, .bool r.c.r, .bool r.c.tn, .int .i64 r.c.wa, .int .i64 r.c.pr, .bool r.c.he, .slice Y r.c.af.length cy, .int .u8 r.c.st, .int .i64 r.c.ca, .int .i64 r.c.ci, .int .i64 r.c.b0, .int .i64 r.c.b1, .int .i64 r.c.b2, .int .i64 r.c.b3, .int .i64 r.c.b4, .int .i64 r.c.b5, .int .i64 r.c.fr, .int .i64 r.c.to, .int .i64 r.c.n, .bool r.c.we])
  have HB := Lib.hid (below_alloc (o := .cells #[.int .i64 r.g, .int .i64 r.s.d0, .int .i64 r.s.d1, .int .i64 r.s.d2, .int .i64 r.s.bo, .int .i64 r.s.fr, .int .i64 r.s.tr, .int .i64 r.s.ag, .slice x.C r.s.cs.length x.cc, .int .i64 r.s.nw, .int .i64 r.s.nx, .slice x.J r.s.js.length x.cj, .slice x.P r.s.ps.length x.cp, .slice x.K r.s.ks.length x.ck, .slice x.D r.s.dn.length x.cd, .slice x.S r.s.sh.length x.cs, .slice x.U r.s.cu.length x.cu, .int .u8 r.c.kd, .int .i64 r.c.id, .int .i64 r.c.us, .int .i64 r.c.cl, .int .i64 r.c.a, .int .i64 r.c.b, .int .i64 r.c.c, .bool r.c.p, .bool r.c.q, .bool r.c.r, .bool r.c.tn, .int .i64 r.c.wa, .int .i64 r.c.pr, .bool r.c.he, .slice Y r.c.af.length cy, .int .u8 r.c.st, .int .i64 r.c.ca, .int .i64 r.c.ci, .int .i64 r.c.b0, .int .i64 r.c.b1, .int .i64 r.c.b2, .int .i64 r.c.b3, .int .i64 r.c.b4, .int .i64 r.c.b5, .int .i64 r.c.fr, .int .i64 r.c.to, .int .i64 r.c.n, .bool r.c.we] 51) (Below.refl w.heap.size w))
  generalize w.alloc (.cells #[.int .i64 r.g, .int .i64 r.s.d0, .int .i64 r.s.d1, .int .i64 r.s.d2, .int .i64 r.s.bo, .int .i64 r.s.fr, .int .i64 r.s.tr, .int .i64 r.s.ag, .slice x.C r.s.cs.length x.cc, .int .i64 r.s.nw, .int .i64 r.s.nx, .slice x.J r.s.js.length x.cj, .slice x.P r.s.ps.length x.cp, .slice x.K r.s.ks.length x.ck, .slice x.D r.s.dn.length x.cd, .slice x.S r.s.sh.length x.cs, .slice x.U r.s.cu.length x.cu, .int .u8 r.c.kd, .int .i64 r.c.id, .int .i64 r.c.us, .int .i64 r.c.cl, .int .i64 r.c.a, .int .i64 r.c.b, .int .i64 r.c.c, .bool r.c.p, .bool r.c.q, .bool r.c.r, .bool r.c.tn, .int .i64 r.c.wa, .int .i64 r.c.pr, .bool r.c.he, .slice Y r.c.af.length cy, .int .u8 r.c.st, .int .i64 r.c.ca, .int .i64 r.c.ci, .int .i64 r.c.b0, .int .i64 r.c.b1, .int .i64 r.c.b2, .int .i64 r.c.b3, .int .i64 r.c.b4, .int .i64 r.c.b5, .int .i64 r.c.fr, .int .i64 r.c.to, .int .i64 r.c.n, .bool r.c.we] 51) = W0 at *
  have R1 := Lib.hid (show W0.rangeAt w.heap.size 1 [.int .i64 r.s.d0, .int .i64 r.s.d1, .int .i64 r.s.d2, .int .i64 r.s.bo, .int .i64 r.s.fr, .int .i64 r.s.tr, .int .i64 r.s.ag, .slice x.C r.s.cs.length x.cc, .int .i64 r.s.nw, .int .i64 r.s.nx, .slice x.J r.s.js.length x.cj, .slice x.P r.s.ps.length x.cp, .slice x.K r.s.ks.length x.ck, .slice x.D r.s.dn.length x.cd, .slice x.S r.s.sh.length x.cs, .slice x.U r.s.cu.length x.cu] from range_part (n := 16) KA.out rfl)
  have x1 := box_full (W := W0) 49 #[.int .i64 0, .int .i64 0, .int .i64 0, .int .i64 0, .int .i64 0, .int .i64 0, .int .i64 0, .slice none 0 0, .int .i64 0, .int .i64 0, .slice none 0 0, .slice none 0 0, .slice none 0 0, .slice none 0 0, .slice none 0 0, .slice none 0 0] (vs := [.int .i64 r.s.d0, .int .i64 r.s.d1, .int .i64 r.s.d2, .int .i64 r.s.bo, .int .i64 r.s.fr, .int .i64 r.s.tr, .int .i64 r.s.ag, .slice x.C r.s.cs.length x.cc, .int .i64 r.s.nw, .int .i64 r.s.nx, .slice x.J r.s.js.length x.cj, .slice x.P r.s.ps.length x.cp, .slice x.K r.s.ks.length x.ck, .slice x.D r.s.dn.length x.cd, .slice x.S r.s.sh.length x.cs, .slice x.U r.s.cu.length x.cu]) rfl
  go_upto_region 2 with (first | (refine wpList_load_mid rfl 49 _ rfl _ _ rfl _ _ R1.out Try.underlying49 rfl (by kernel_rfl) ?_) | (refine wpList_store_mid rfl 49 _ _ rfl W0.heap.size 0 (List.toArray [.int .i64 r.s.d0, .int .i64 r.s.d1, .int .i64 r.s.d2, .int .i64 r.s.bo, .int .i64 r.s.fr, .int .i64 r.s.tr, .int .i64 r.s.ag, .slice x.C r.s.cs.length x.cc, .int .i64 r.s.nw, .int .i64 r.s.nx, .slice x.J r.s.js.length x.cj, .slice x.P r.s.ps.length x.cp, .slice x.K r.s.ks.length x.ck, .slice x.D r.s.dn.length x.cd, .slice x.S r.s.sh.length x.cs, .slice x.U r.s.cu.length x.cu]) rfl rfl (there_of (Blk.new W0 49 #[.int .i64 0, .int .i64 0, .int .i64 0, .int .i64 0, .int .i64 0, .int .i64 0, .int .i64 0, .slice none 0 0, .int .i64 0, .int .i64 0, .slice none 0 0, .slice none 0 0, .slice none 0 0, .slice none 0 0, .slice none 0 0, .slice none 0 0]) (Nat.le_of_ble_eq_true rfl)) (by kernel_rfl) (by kernel_rfl) ?_; simp only [List.toList_toArray]; generalize World.setCells _ _ _ _ = W1 at *; (try simp only [Act.put])))
  have HB2 := Lib.hid (below_up HB.out x1.2)
  have KA2 := Lib.hid (KA.out.below x1.2 KA.out.lt)
  obtain ⟨g3, hg3⟩ : ∃ n, n = W0.heap.size := ⟨_, rfl⟩
  rw [← hg3] at x1
  rw [← hg3]
  have K3 := Lib.hid x1.1
  clear x1 R1 KA HB hg3
  have c31 : W1.cell? ⟨w.heap.size, 31, none⟩ = some (.slice Y r.c.af.length cy) := KA2.out.cell 31
  have m7 : W1.cell? ⟨g3, 7, none⟩ = some (.slice x.C r.s.cs.length x.cc) := K3.out.cell 7
  have m10 : W1.cell? ⟨g3, 10, none⟩ = some (.slice x.J r.s.js.length x.cj) := K3.out.cell 10
  have m11 : W1.cell? ⟨g3, 11, none⟩ = some (.slice x.P r.s.ps.length x.cp) := K3.out.cell 11
  have m12 : W1.cell? ⟨g3, 12, none⟩ = some (.slice x.K r.s.ks.length x.ck) := K3.out.cell 12
  have m13 : W1.cell? ⟨g3, 13, none⟩ = some (.slice x.D r.s.dn.length x.cd) := K3.out.cell 13
  have m14 : W1.cell? ⟨g3, 14, none⟩ = some (.slice x.S r.s.sh.length x.cs) := K3.out.cell 14
  have m15 : W1.cell? ⟨g3, 15, none⟩ = some (.slice x.U r.s.cu.length x.cu) := K3.out.cell 15
  have HI1 := Lib.hid (HI.out.up HB2.out)
  go_wp2_with fail
  clear c31 m7 m11 m12 m13 m14 m15 KA2 m10
  have hub : r.s.js.length ≤ 9223372036854775807 := HT.out.J
  go_loopw [4, 5] (fun n i wr => ∃ (k : Nat) (u : Int), n = .int .i64 u ∧ k ≤ r.s.js.length ∧ k ≤ 2000 ∧ i = .int .i64 k ∧ Hid (Below W1.heap.size W1 wr))
    (fun n i _ => r.s.js.length - (intOf i).toNat)
  case atStart => exact ⟨0, _, rfl, Nat.zero_le _, Nat.zero_le _, rfl, Below.refl _ _⟩
  case round =>
    obtain ⟨k, u, rfl, hk, hk2, rfl, hB⟩ := hrel
    have m10 : wr.cell? ⟨g3, 10, none⟩ = some (.slice x.J r.s.js.length x.cj) := (K3.out.below hB.out K3.out.lt).cell 10
    have HF := Lib.hid (below_up HB2.out hB.out)
    by_cases hlt : k < r.s.js.length
    · have hki : (k : Int) < (r.s.js.length : Int) := by omega
      have hki0 : (0 : Int) ≤ (k : Int) := by omega
      by_cases h2 : k < 2000
      · have hk20 : (k : Int) < 2000 := by omega
        have hg : r.s.js[k]? = some r.s.js[k] := List.getElem?_eq_getElem hlt
        generalize r.s.js[k] = v at hg
        obtain ⟨b, o, cs, e91, hb, _, r1, Yv, cv, rfl, _, _⟩ := SlcAt.up jStays HI1.out.J hB.out k v hg
        rw [e91] at m10
        have c13 := r1 13 _ rfl
        have HG := Lib.hid hg
        clear hg e91 r1
        go_wp2_with fail
        go_roundw
        case rel => exact ⟨k + 1, _, rfl, by omega, by omega, by go_num, hB.out⟩
        case measure => simp [intOf]; omega
      · have hk20 : ¬ (k : Int) < 2000 := by omega
        go_wp2_with fail
        go_ret
        exact ⟨⟨_, rfl⟩, HF.out⟩
    · have hki : ¬ (k : Int) < (r.s.js.length : Int) := by omega
      go_wp2_with fail
      go_ret
      exact ⟨⟨_, rfl⟩, HF.out⟩
end Go.Proofs.Ytfdldbfjeamlcaa.RecGreat
/-! Slices of records. No conditions but those named. -/
namespace Go.Proofs.Ytfdldbfjeamlcaa.LogRows
open Go.RowKit Mem RecMem RecByte RecNum RecMath RecVal RecRd RecRL0 RecRRec RecRead RecAt RecAll LogFrm
set_option linter.unusedVariables false
set_option linter.unusedSimpArgs false

/-- How a record lies in its cells. -/
def rRep (w : World) (r : RV) (cs : List Value) : Prop := ∃ x Y cy, cs = rL r x Y cy ∧ RIs w r x Y cy
theorem rStays : Stays rRep := fun _ _ _ _ h hB => by
  obtain ⟨x, Y, cy, e, h⟩ := h
  exact ⟨x, Y, cy, e, h.up hB⟩
abbrev RsAt := SlcAt 45 rRep
theorem rs_of {w : World} {F : Nat} {l : List RV} {vs : List Value} (h : recsR.At w F l vs) : ∃ V c, vs = [.slice V l.length c] ∧ l.length ≤ c ∧ c ≤ maxLen ∧ RsAt w V l := slc_of_list rRep (fun r cs h => by
  obtain ⟨x, Y, cy, rfl, h1, h2, _, h3⟩ := rec_at h
  exact ⟨x, Y, cy, rfl, ⟨h1, h3, h2⟩⟩) h
theorem SlcAt.take {α : Type} {n : Nat} {rep : World → α → List Value → Prop} {w : World} {X : Option Addr} {l : List α} (h : SlcAt n rep w X l) (m : Nat) : SlcAt n rep w X (l.take m) := fun i x hi => by
  rw [List.getElem?_take] at hi
  split at hi
  · exact h i x hi
  · cases hi
end Go.Proofs.Ytfdldbfjeamlcaa.LogRows
/-! Frames one behind another, and with one byte turned, in plain Lean. No conditions but those named. -/
namespace Go.Proofs.Ytfdldbfjeamlcaa.LogCatP
open Go Go.RowKit MarkMath Mem RecMem RecByte RecNum RecMath RecCod RecVal RecSame RecWr0 RecRecC RecRead RecAll LogFour LogJoin LogWrap LogFrm LogPlain
set_option linter.unusedVariables false
set_option linter.unusedSimpArgs false

/-- A record that can be written. -/
def Fit (r : RV) : Prop := okR r ∧ (recB r).length ≤ 65536
def cat (rs : List RV) : Bs := (rs.map wrapB).flatten
theorem cat_nil : cat [] = [] := rfl
theorem cat_cons (r : RV) (rs : List RV) : cat (r :: rs) = wrapB r ++ cat rs := rfl
theorem cat_snoc (rs : List RV) (r : RV) : cat (rs ++ [r]) = cat rs ++ wrapB r := by simp [cat]
theorem cat_app (rs qs : List RV) : cat (rs ++ qs) = cat rs ++ cat qs := by simp [cat]
theorem wrap_oct {r : RV} (h : okR r) : Oct (wrapB r) := ((fourB_oct _).app (fourB_oct _)).app (recB_oct h)
theorem cat_oct : ∀ {rs : List RV}, (∀ r ∈ rs, Fit r) → Oct (cat rs)
  | [], _ => Oct.nil
  | r :: rs, h => (wrap_oct (h r (by simp)).1).app (cat_oct fun q hq => h q (by simp [hq]))
theorem cat_small : ∀ {rs : List RV}, (∀ r ∈ rs, Fit r) → (cat rs).length ≤ rs.length * 65544
  | [], _ => by simp [cat]
  | r :: rs, h => by
    have h1 := (h r (by simp)).2
    have h2 := cat_small fun q hq => h q (List.mem_cons_of_mem r hq)
    rw [cat_cons, List.length_append, wrapB_len, List.length_cons]
    omega
theorem cat_len8 : ∀ (rs : List RV), rs.length * 8 ≤ (cat rs).length
  | [] => by simp [cat]
  | r :: rs => by
    have := cat_len8 rs
    rw [cat_cons, List.length_append, wrapB_len, List.length_cons]
    omega
/-- The frames' ends, with their records. -/
def pairs (k : Nat) : List RV → List (Int × RV)
  | [] => []
  | r :: rs => (((k + (wrapB r).length : Nat) : Int), r) :: pairs (k + (wrapB r).length) rs
theorem pairs_snd : ∀ (rs : List RV) (k : Nat), (pairs k rs).map (·.2) = rs
  | [], _ => rfl
  | r :: rs, k => by simp [pairs, pairs_snd rs]
theorem pairs_len (rs : List RV) (k : Nat) : (pairs k rs).length = rs.length := by
  have := congrArg List.length (pairs_snd rs k)
  simpa using this
theorem pairs_pos : ∀ (rs : List RV) (k : Nat), ∀ p ∈ pairs k rs, ¬ p.1 < 0
  | [], _, p, hp => by simp [pairs] at hp
  | r :: rs, k, p, hp => by
    rcases List.mem_cons.1 hp with rfl | hp
    · simp; omega
    · exact pairs_pos rs _ p hp
theorem pairs_end : ∀ (rs : List RV) (k : Nat) (d : Int), d = k → ((pairs k rs).getLast?.map (·.1)).getD d = ((k + (cat rs).length : Nat) : Int)
  | [], k, d, e => by simp [pairs, cat, e]
  | r :: rs, k, d, e => by
    have h := pairs_end rs (k + (wrapB r).length) _ rfl
    rw [pairs, List.getLast?_cons, cat_cons, List.length_append, ← Nat.add_assoc, ← h]
    cases (pairs (k + (wrapB r).length) rs).getLast? <;> simp
/-- Whole frames, whatever is behind them. -/
theorem fr_pre (Q : Bs) : ∀ (rs : List RV) (P : Bs) (g : Nat), (∀ r ∈ rs, Fit r) → fr (P ++ (cat rs ++ Q)) (g + rs.length) P.length = pairs P.length rs ++ fr (P ++ (cat rs ++ Q)) g (P.length + (cat rs).length)
  | [], P, g, _ => by simp [pairs, cat]
  | r :: rs, P, g, h => by
    have e : P ++ (cat (r :: rs) ++ Q) = (P ++ wrapB r) ++ (cat rs ++ Q) := by rw [cat_cons]; simp
    have e2 : P ++ (cat (r :: rs) ++ Q) = P ++ (wrapB r ++ (cat rs ++ Q)) := by rw [cat_cons]; simp
    have h1 := fr_wrap P (cat rs ++ Q) (h r (by simp)).1 (h r (by simp)).2 (g + rs.length)
    have h2 := fr_pre Q rs (P ++ wrapB r) g fun q hq => h q (by simp [hq])
    rw [List.length_append] at h2
    rw [List.length_cons, ← Nat.add_assoc, e2, h1, ← e2, e, h2, pairs, List.cons_append, cat_cons, List.length_append, Nat.add_assoc]
theorem fr_stop {P Q : Bs} (h : ∀ f, fr (P ++ Q) (f + 1) P.length = []) {rs : List RV} (hP : P = cat rs) (hr : ∀ r ∈ rs, Fit r) : fr (P ++ Q) ((P ++ Q).length + 1) 0 = pairs 0 rs := by
  subst hP
  have hl := cat_len8 rs
  obtain ⟨g, hg⟩ : ∃ g, (cat rs ++ Q).length + 1 = g + 1 + rs.length := ⟨(cat rs ++ Q).length - rs.length, by rw [List.length_append]; omega⟩
  have := fr_pre Q rs [] (g + 1) hr
  rw [hg]
  simp only [List.nil_append, List.length_nil, Nat.zero_add] at this
  rw [this, h g, List.append_nil]
/-- Frames alone. -/
theorem fr_all {rs : List RV} (hr : ∀ r ∈ rs, Fit r) : fr (cat rs) ((cat rs).length + 1) 0 = pairs 0 rs := by
  have := fr_stop (P := cat rs) (Q := []) (fun f => fr_end (by simp)) rfl hr
  simpa using this
/-- Frames, and the beginning of one more. -/
theorem fr_more {rs : List RV} (hr : ∀ r ∈ rs, Fit r) {r : RV} (h : Fit r) {m : Nat} (hm : m < (wrapB r).length) : fr (cat rs ++ (wrapB r).take m) ((cat rs ++ (wrapB r).take m).length + 1) 0 = pairs 0 rs :=
  fr_stop (fun f => fr_part _ h.2 hm f) rfl hr

/-! A byte that is turned. -/
theorem num4_set {n : Int} (h0 : 0 ≤ n) (h1 : n < 4294967296) {j : Nat} (hj : j < 4) {y : Int} (hy : 0 ≤ y ∧ y < 256) (hne : y ≠ (fourB n)[j]'hj) (u : Bs) : num4 ((fourB n).set j y ++ u) ≠ n := by
  have e : num4 (fourB n ++ u) = n := num4_four h0 h1 u
  match j, hj with
  | 0, _ | 1, _ | 2, _ | 3, _ =>
    simp [fourB] at hne
    simp [fourB, num4, numb]
    omega
theorem fr_turned (P Q : Bs) {r : RV} (h : Fit r) {j : Nat} (h4 : 4 ≤ j) (hj : j < (wrapB r).length) {y : Int} (hy : 0 ≤ y ∧ y < 256) (hne : y ≠ (wrapB r)[j]) (f : Nat) :
    fr (P ++ ((wrapB r).set j y ++ Q)) (f + 1) P.length = [(-1, RV.z)] := by
  have hm := mk_in (t := recB r)
  have hl := h.2
  -- the three parts of the turned frame
  obtain ⟨M, B, hM, hB, hw, hbad⟩ : ∃ M B : Bs, M.length = 4 ∧ B.length = (recB r).length ∧ (wrapB r).set j y = fourB ((recB r).length : Int) ++ (M ++ B) ∧ ∀ u, mk 0 B ≠ num4 (M ++ u) := by
    have hwr : wrapB r = fourB ((recB r).length : Int) ++ (fourB (mk 0 (recB r)) ++ recB r) := by unfold wrapB; simp
    by_cases h8 : j < 8
    · refine ⟨(fourB (mk 0 (recB r))).set (j - 4) y, recB r, by simp [fourB], rfl, ?_, fun u => ?_⟩
      · rw [hwr, List.set_append_right _ _ (by simp [fourB]; omega), List.set_append_left _ _ (by simp [fourB]; omega)]
        rfl
      · refine fun e => num4_set hm.1 (by omega) (j := j - 4) (by omega) hy ?_ u e.symm
        have e : (fourB (mk 0 (recB r)))[j - 4]'(by simp [fourB]; omega) = (wrapB r)[j] := by
          simp only [hwr]
          rw [List.getElem_append_right (by simp [fourB]; omega), List.getElem_append_left (by simp [fourB]; omega)]
          rfl
        exact fun hh => hne (hh.trans e)
    · have hjl : j - 8 < (recB r).length := by rw [wrapB_len] at hj; omega
      have hel : (recB r)[j - 8] = (wrapB r)[j] := by
        simp only [hwr]
        rw [List.getElem_append_right (by simp [fourB]; omega), List.getElem_append_right (by simp [fourB]; omega)]
        rfl
      refine ⟨fourB (mk 0 (recB r)), (recB r).set (j - 8) y, by simp [fourB], by simp, ?_, fun u => ?_⟩
      · rw [hwr, List.set_append_right _ _ (by simp [fourB]; omega), List.set_append_right _ _ (by simp [fourB]; omega)]
        rfl
      · rw [num4_four hm.1 (by omega)]
        intro e
        refine hne (((mk_set (recB r) (j - 8) y hjl (fun x hx => ?_) (by omega)).1 e).trans hel)
        have := recB_oct h.1 x hx
        omega
  have e0 : (P ++ ((wrapB r).set j y ++ Q)).drop P.length = fourB ((recB r).length : Int) ++ (M ++ (B ++ Q)) := by rw [List.drop_left, hw]; simp
  have n0 : num4 ((P ++ ((wrapB r).set j y ++ Q)).drop P.length) = ((recB r).length : Int) := by rw [e0]; exact num4_four (by omega) (by omega) _
  have n4 : num4 ((P ++ ((wrapB r).set j y ++ Q)).drop (P.length + 4)) = num4 (M ++ (B ++ Q)) := by
    rw [← List.drop_drop, e0, show 4 = (fourB ((recB r).length : Int)).length from rfl, List.drop_left]
  have n8 : frT (P ++ ((wrapB r).set j y ++ Q)) P.length = B := by
    unfold frT
    rw [n0, ← List.drop_drop, e0, ← List.append_assoc, show 8 = (fourB ((recB r).length : Int) ++ M).length by rw [List.length_append, hM]; rfl, List.drop_left, Int.toNat_natCast, ← hB, List.take_left]
  have hlen : (P ++ ((wrapB r).set j y ++ Q)).length = P.length + ((recB r).length + 8) + Q.length := by rw [List.length_append, List.length_append, List.length_set, wrapB_len]; omega
  refine fr_bad (by omega) (by rw [n0]; omega) (by rw [n0]; omega) fun hk => ?_
  have := hk.2
  rw [n8, n4] at this
  exact hbad _ this
/-- Frames of which one has a byte turned: they are told up to it, and it is told as broken. -/
theorem all_turned {rs qs : List RV} (hr : ∀ q ∈ rs, Fit q) {r : RV} (h : Fit r) {j : Nat} (h4 : 4 ≤ j) (hj : j < (wrapB r).length) {y : Int} (hy : 0 ≤ y ∧ y < 256) (hne : y ≠ (wrapB r)[j]) :
    let t := cat rs ++ ((wrapB r).set j y ++ cat qs)
    ∃ p ∈ fr t (t.length + 1) 0, p.1 < 0 := by
  intro t
  have hl := cat_len8 rs
  have ht : t.length = (cat rs).length + ((wrapB r).set j y ++ cat qs).length := List.length_append
  obtain ⟨g, hg⟩ : ∃ g, t.length + 1 = g + 1 + rs.length := ⟨t.length - rs.length, by omega⟩
  have := fr_pre ((wrapB r).set j y ++ cat qs) rs [] (g + 1) hr
  rw [hg]
  simp only [List.nil_append, List.length_nil, Nat.zero_add] at this
  rw [show fr t (g + 1 + rs.length) 0 = _ from this, fr_turned (cat rs) (cat qs) h h4 hj hy hne]
  exact ⟨(-1, RV.z), by simp, by decide⟩
/-- Where a place of the frames lies: in which frame. -/
theorem cat_place : ∀ {rs : List RV} {k : Nat}, k < (cat rs).length → ∃ pre r post, rs = pre ++ r :: post ∧ (cat pre).length ≤ k ∧ k < (cat pre).length + (wrapB r).length
  | [], k, h => by simp [cat] at h
  | r :: rs, k, h => by
    by_cases hk : k < (wrapB r).length
    · exact ⟨[], r, rs, rfl, by simp [cat], by simpa [cat] using hk⟩
    · obtain ⟨pre, q, post, e, h1, h2⟩ := cat_place (rs := rs) (k := k - (wrapB r).length) (by rw [cat_cons, List.length_append] at h; omega)
      refine ⟨r :: pre, q, post, by rw [e]; rfl, ?_, ?_⟩ <;> rw [cat_cons, List.length_append] <;> omega
theorem set_place {rs : List RV} {pre post : List RV} {r : RV} (e : rs = pre ++ r :: post) {k : Nat} (h1 : (cat pre).length ≤ k) (h2 : k < (cat pre).length + (wrapB r).length) (y : Int) :
    (cat rs).set k y = cat pre ++ ((wrapB r).set (k - (cat pre).length) y ++ cat post) := by
  rw [e, cat_app, cat_cons, List.set_append_right _ _ h1, List.set_append_left _ _ (by omega)]
theorem get_place {rs : List RV} {pre post : List RV} {r : RV} (e : rs = pre ++ r :: post) {k : Nat} (h1 : (cat pre).length ≤ k) (h2 : k < (cat pre).length + (wrapB r).length) (hk : k < (cat rs).length) :
    (cat rs)[k] = (wrapB r)[k - (cat pre).length]'(by omega) := by
  subst e
  simp only [cat_app, cat_cons]
  rw [List.getElem_append_right h1, List.getElem_append_left (by omega)]
/-- The stage's sentence: a byte that is turned outside of the frames' lengths is told as broken. -/
theorem turned_law {rs : List RV} (hr : ∀ q ∈ rs, Fit q) {k : Nat} (hk : k < (cat rs).length) (hout : ∀ pre r post, rs = pre ++ r :: post → ¬ ((cat pre).length ≤ k ∧ k < (cat pre).length + 4)) {y : Int} (hy : 0 ≤ y ∧ y < 256) (hne : y ≠ (cat rs)[k]) :
    ∃ p ∈ fr ((cat rs).set k y) ((cat rs).length + 1) 0, p.1 < 0 := by
  obtain ⟨pre, r, post, e, h1, h2⟩ := cat_place hk
  have ho := hout pre r post e
  have h := all_turned (rs := pre) (qs := post) (fun q hq => hr q (by rw [e]; simp [hq])) (r := r) (hr r (by rw [e]; simp)) (j := k - (cat pre).length) (by omega) (by omega) (y := y) hy (by rw [← get_place e h1 h2 hk]; exact hne)
  rw [← set_place e h1 h2 y] at h
  simpa using h
/-- Where the frames begin. -/
def begs (k : Nat) : List RV → List Int
  | [] => []
  | r :: rs => (k : Int) :: begs (k + (wrapB r).length) rs
theorem begs_len : ∀ (rs : List RV) (k : Nat), (begs k rs).length = rs.length
  | [], _ => rfl
  | r :: rs, k => by simp [begs, begs_len rs]
theorem begs_snoc : ∀ (rs : List RV) (r : RV) (k : Nat), begs k (rs ++ [r]) = begs k rs ++ [((k + (cat rs).length : Nat) : Int)]
  | [], r, k => by simp [begs, cat]
  | q :: rs, r, k => by
    rw [List.cons_append, begs, begs_snoc rs r, begs, List.cons_append, cat_cons, List.length_append, Nat.add_assoc]
theorem begs_at {rs pre post : List RV} {r : RV} (e : rs = pre ++ r :: post) : (begs 0 rs)[pre.length]? = some ((cat pre).length : Int) := by
  have h : ∀ (pre : List RV) (k : Nat), (begs k (pre ++ r :: post))[pre.length]? = some ((k + (cat pre).length : Nat) : Int) := by
    intro pre
    induction pre with
    | nil => intro k; simp [begs, cat]
    | cons q qs ih => intro k; rw [List.cons_append, begs, List.length_cons, List.getElem?_cons_succ, ih, cat_cons, List.length_append, Nat.add_assoc]
  rw [e, h, Nat.zero_add]
theorem begs_in : ∀ (rs : List RV) (k : Nat), ∀ q ∈ begs k rs, (k : Int) ≤ q ∧ q ≤ ((k + (cat rs).length : Nat) : Int)
  | [], k, q, h => by simp [begs] at h
  | r :: rs, k, q, h => by
    rw [cat_cons, List.length_append]
    rcases List.mem_cons.1 h with rfl | h
    · omega
    · have := begs_in rs (k + (wrapB r).length) q h
      omega
theorem xor_other {x y : Int} (hx : 0 ≤ x ∧ x < 256) (hy : 0 ≤ y ∧ y < 256) (h0 : y ≠ 0) : (0 : Int) ≤ ((x.toNat ^^^ y.toNat : Nat) : Int) ∧ ((x.toNat ^^^ y.toNat : Nat) : Int) < 256 ∧ ((x.toNat ^^^ y.toNat : Nat) : Int) ≠ x := by
  have h1 : x.toNat ^^^ y.toNat < 2 ^ 8 := Nat.xor_lt_two_pow (by omega) (by omega)
  refine ⟨by omega, by omega, fun e => h0 ?_⟩
  have e2 : x.toNat ^^^ y.toNat = x.toNat := by omega
  have e3 : x.toNat ^^^ (x.toNat ^^^ y.toNat) = x.toNat ^^^ x.toNat := by rw [e2]
  rw [← Nat.xor_assoc, Nat.xor_self, Nat.zero_xor] at e3
  omega
end Go.Proofs.Ytfdldbfjeamlcaa.LogCatP
/-! What is asked of records of a slice: how great they are, their frames. No conditions but those named. -/
namespace Go.Proofs.Ytfdldbfjeamlcaa.LogList
open Go Go.RowKit MarkMath Mem RecMem RecByte RecNum RecMath RecCod RecVal RecSame RecRd RecRecC RecRead RecAt RecAll RecGreat LogFour LogJoin LogWrap LogFrm LogRows LogCatP
set_option linter.unusedVariables false
set_option linter.unusedSimpArgs false

theorem rgreatR {w : World} {r : RV} {cs : List Value} (h : rRep w r cs) (F : RFacts r) : Calls Try.prog 20 #[.agg cs.toArray] w fun e w' => (∃ B, e = .returned (.bool B)) ∧ Below w.heap.size w w' := by
  obtain ⟨x, Y, cy, rfl, h⟩ := h
  exact (rgreat28 r x Y cy F.ht w h.st).mono fun e w' k => k
/-- What Wrap answers. -/
theorem wrapR {w : World} {r : RV} {cs : List Value} (h : rRep w r cs) (F : RFacts r) : Calls Try.prog 37 #[.agg cs.toArray] w fun e w' =>
    (∃ v X n c, e = .returned (.tuple #[.slice X n c, .int .i64 v]) ∧ (v ≠ 0 → ¬ Fit r) ∧ (v = 0 → Fit r ∧ n = (wrapB r).length ∧ ∃ g, X = some ⟨g, 0, none⟩ ∧ Fresh w.heap.size w' g (wrapB r) c)) ∧ Below w.heap.size w w' := by
  obtain ⟨x, Y, cy, rfl, h⟩ := h
  refine (wrap_v r x Y cy F w h).mono ?_
  rintro e w' ⟨⟨v, X, n, c, rfl, hV, h0, h1⟩, hB⟩
  refine ⟨⟨v, X, n, c, rfl, fun hv hf => hv (hV.ok.2 hf), fun hv => ?_⟩, hB⟩
  obtain ⟨g, e, hn, hF⟩ := h1 hv
  exact ⟨hV.ok.1 hv, hn, g, e, hF⟩
theorem cells_one (l : Bs) : ∀ u ∈ l.map (Value.int .u8), u.oneCell' = true := fun u hu => by
  obtain ⟨n, _, rfl⟩ := List.mem_map.1 hu
  rfl
theorem own_txt {w : World} {B : Nat} {Y : Option Addr} {n c : Nat} {t : Bs} (h : w.ownsRow B 5 1 (.slice Y n c) n (t.map (Value.int .u8))) : TxtAt w Y t := txt_of (n := n) (Reads.of_own h)
theorem own_up {w w' : World} {B size n : Nat} {e : TypeId} {v : Value} {xs : List Value} (h : w.ownsRow B e size v n xs) (hB : Below w.heap.size w w') : w'.ownsRow B e size v n xs := RecRL0.ownsRow_agree h fun g cur _ hh => hB.block g (Array.getElem?_eq_some_iff.1 hh).1
theorem txt_bytes_n {w : World} {X : Option Addr} {n : Nat} {t : Bs} (hn : n = t.length) (h : TxtAt w X t) : Reads w w.heap.size 1 X n (t.map (Value.int .u8)) := by subst hn; exact txt_bytes h
theorem own_len {w : World} {B : Nat} {Y : Option Addr} {n c : Nat} {t : Bs} (h : w.ownsRow B 5 1 (.slice Y n c) n (t.map (Value.int .u8))) : n = t.length := by
  have := h.1
  simp at this
  omega
end Go.Proofs.Ytfdldbfjeamlcaa.LogList
/-! The walk of LogTurned. No conditions but those named. -/
namespace Go.Proofs.Ytfdldbfjeamlcaa.LogTurnW
open Go Go.RowKit RecGuard MarkMath Mem RecMem RecByte RecNum RecMath RecCod RecVal RecSame RecWr0 RecRecC RecRd RecRead RecAt RecAll LogFour LogJoin LogWrap LogFrm LogAllV LogPlain LogAlive LogRows LogCatP LogList 
set_option linter.unusedVariables false
set_option linter.unusedSimpArgs false

theorem int_info : (Try.prog.info? 3).map (fun i => (i.zero, i.size, i.bytes)) = some (some (.int .i64 0), 1, 8) := by kernel_rfl
theorem ints_one (l : List Int) : ∀ u ∈ l.map (Value.int .i64), u.oneCell' = true := fun u hu => by
  obtain ⟨n, _, rfl⟩ := List.mem_map.1 hu
  rfl
/-- A row of one's own stays where a row of other things grows. -/
theorem own_other {w w' : World} {F n k n2 k2 : Nat} {e e2 : TypeId} {v v2 : Value} {xs ys : List Value} (h : w.ownsRow F e n v k xs) (h2 : w.ownsRow F e2 n2 v2 k2 ys) (he : e ≠ e2) (hg : w.grownBy w' v2.ownBlock) : w'.ownsRow F e n v k xs :=
  RecRL0.ownsRow_agree h fun g cur _ hh => hg.block g (Array.getElem?_eq_some_iff.1 hh).1 fun e1 => by
    obtain ⟨_, _, c2, hc⟩ := RecRL0.own_ge h2 e1.symm
    rw [hh] at hc
    injection hc with hc
    injection hc with _ hc
    exact he hc
theorem own_some {w : World} {F n c : Nat} {e : TypeId} {V : Option Addr} {xs : List Value} (h : w.ownsRow F e 1 (.slice V n c) n xs) (hn : 0 < n) : ∃ g, V = some ⟨g, 0, none⟩ := by
  rcases h.2 with ⟨_, e2⟩ | ⟨g, cap, cur, e1, _⟩
  · omega
  · injection e1 with e1
    exact ⟨g, e1⟩
theorem turn_txt {w : World} {F g n c m : Nat} {t : Bs} (h : w.ownsRow F 5 1 (.slice (some ⟨g, 0, none⟩) n c) n (t.map (Value.int .u8))) (hm : m < t.length) :
    (∃ x, t[m]? = some x ∧ w.cell? ⟨g, m, none⟩ = some (.int .u8 x)) ∧ w.frozen? ⟨g, m, none⟩ = false ∧ F ≤ g ∧ ∀ z, TxtAt (w.setCell ⟨g, m, none⟩ (.int .u8 z)) (some ⟨g, 0, none⟩) (t.set m z) := by
  have hT := own_txt h
  have hc : ∀ i x, t[i]? = some x → g < w.heap.size ∧ w.cell? ⟨g, i, none⟩ = some (.int .u8 x) := fun i x hi => by
    obtain ⟨tb, o, e, h1, h2⟩ := hT i x hi
    cases e
    rw [Nat.zero_add] at h2
    exact ⟨h1, h2⟩
  have hx : t[m]? = some t[m] := List.getElem?_eq_getElem hm
  rcases h.2 with ⟨_, e2⟩ | ⟨g', cap, cur, e1, e2, e3, _⟩
  · have := own_len h; omega
  injection e1 with e1 _ _
  injection e1 with e1
  injection e1 with e1 _ _
  subst e1
  have hb : Blk w g 5 cur := e3
  refine ⟨⟨_, hx, (hc m _ hx).2⟩, hb.frozen m, e2, fun z i u hi => ⟨g, 0, rfl, by rw [World.size_setCell]; exact hb.lt, ?_⟩⟩
  rw [Nat.zero_add]
  rw [List.getElem?_set] at hi
  split at hi
  · rename_i e
    subst e
    cases hi
    exact World.cell?_setCell_same' _ _ _ (by rw [(hc _ _ hx).2]; rfl)
  · rename_i e
    rw [World.cell?_setCell_other _ _ _ _ (fun e2 => e (by cases e2; rfl))]
    exact (hc i u hi).2
theorem txt_fresh {w w' : World} {g o : Nat} {t : Bs} {row : Option Nat} (h : TxtAt w (some ⟨g, o, none⟩) t) (hg : w.grownBy w' row) (hr : ∀ j, row = some j → j ≠ g) : TxtAt w' (some ⟨g, o, none⟩) t := fun i x hi => by
  obtain ⟨tb, q, e, h1, h2⟩ := h i x hi
  cases e
  exact ⟨g, o, rfl, Nat.lt_of_lt_of_le h1 hg.size, by rw [World.cell?_of_block (hg.block g h1 (fun e => hr g e.symm rfl))]; exact h2⟩
set_option maxRecDepth 100000 in
set_option maxHeartbeats 4000000 in
theorem walkTurned (w : World) (X : Option Addr) (cx : Nat) (l : List RV) (hcx : l.length ≤ cx) (hmx : cx ≤ maxLen) (hfl : ∀ r ∈ l, RFacts r) (hX : RsAt w X l) (a : Int) (wa : (Lit.int .u16 a).wf = true) (y : Int) (wy : (Lit.int .u8 y).wf = true) :
    Calls Try.prog 12 #[.slice X l.length cx, .int .u16 a, .int .u8 y] w fun e w' => e = .returned (.bool true) ∧ Below w.heap.size w w' := by
  have hl : l.length ≤ 9223372036854775807 := by simp only [maxLen] at hmx; omega
  have ha0 : 0 ≤ a ∧ a < 65536 := by
    have := wa
    simp [Lit.wf, IntKind.min, IntKind.max, IntKind.signed, IntKind.bits] at this
    omega
  have hy0 : 0 ≤ y ∧ y < 256 := RecWOk.u8_in wy
  have HX := Lib.hid hX
  have HF := Lib.hid hfl
  have HA := Lib.hid ha0
  have HY := Lib.hid hy0
  clear hX hfl wa wy ha0 hy0 hcx hmx
  by_cases h20 : (20 : Int) < (l.length : Int)
  · have h20' : decide ((20 : Int) < (l.length : Int)) = true := decide_eq_true h20
    clear h20
    go_enter Try.func12, Try.ntmps12
    go_wp2_with fail
    refine (alive29 w).mono ?_
    rintro e w1 ⟨rfl, hB1⟩
    have HB1 := Lib.hid hB1
    clear hB1
    go_wp2_with fail
    go_ret
    exact ⟨rfl, HB1.out⟩
  have h20' : decide ((20 : Int) < (l.length : Int)) = false := decide_eq_false h20
  have HL20 := Lib.hid (show l.length ≤ 20 by omega)
  clear h20 hl
  by_cases hy : y = 0
  · have hy' : (y == 0) = true := by simpa using hy
    clear hy
    go_enter Try.func12, Try.ntmps12
    go_wp2_with fail
    refine (alive29 w).mono ?_
    rintro e w1 ⟨rfl, hB1⟩
    have HB1 := Lib.hid hB1
    clear hB1
    go_wp2_with fail
    go_ret
    exact ⟨rfl, HB1.out⟩
  have hy' : (y == 0) = false := by simpa using hy
  have HYN := Lib.hid hy
  clear hy
  go_enter Try.func12, Try.ntmps12
  go_wp2_with fail
  refine (alive29 w).mono ?_
  rintro e w2 ⟨rfl, hB2⟩
  have HB2 := Lib.hid hB2
  have HX2 := Lib.hid (SlcAt.up rStays HX.out hB2)
  clear hB2 HX
  obtain ⟨i0, hi0, hz0, hz1, hz2⟩ := info_parts RecByte.byte_info
  have HI0 := Lib.hid (And.intro hi0 (And.intro hz0 (And.intro hz1 hz2)))
  clear hi0 hz0 hz1 hz2
  obtain ⟨j0, hj0, hk0, hk1, hk2⟩ := info_parts int_info
  have HJ0 := Lib.hid (And.intro hj0 (And.intro hk0 (And.intro hk1 hk2)))
  clear hj0 hk0 hk1 hk2
  go_wp2_with fail
  have hub : l.length ≤ 20 := HL20.out
  go_loopw [8, 9, 10, 11, 12] (fun al be i bv ev wr => ∃ (k : Nat) (V : Option Addr) (N cV : Nat) (U : Option Addr) (cU : Nat), k ≤ l.length ∧ i = .int .i64 k ∧ al = .slice V N cV ∧ be = .slice U k cU ∧ Hid (wr.ownsRow w2.heap.size 5 1 (.slice V N cV) N ((cat (l.take k)).map (Value.int .u8))) ∧ Hid (wr.ownsRow w2.heap.size 3 1 (.slice U k cU) k ((begs 0 (l.take k)).map (Value.int .i64))) ∧ Hid (∀ r ∈ l.take k, Fit r) ∧ Hid (Below w2.heap.size w2 wr))
    (fun al be i bv ev _ => l.length - (intOf i).toNat)
  case atStart => exact ⟨0, none, 0, 0, none, 0, Nat.zero_le _, rfl, rfl, rfl, World.ownsRow_nil _ _ _ _, World.ownsRow_nil _ _ _ _, (fun r hr => by simp at hr), Below.refl _ _⟩
  case round =>
    obtain ⟨k, V, N, cV, U, cU, hk, rfl, rfl, rfl, hO, hU, hFit, hB⟩ := hrel
    by_cases hlt : k < l.length
    · have hg : l[k]? = some l[k] := List.getElem?_eq_getElem hlt
      have hrf : RFacts l[k] := HF.out _ (List.getElem_mem hlt)
      have htk : l.take (k + 1) = l.take k ++ [l[k]] := List.take_succ_eq_append_getElem hlt
      generalize l[k] = r at hg hrf htk
      have hki : (k : Int) < (l.length : Int) := by omega
      have hki0 : (0 : Int) ≤ (k : Int) := by omega
      obtain ⟨b, o, cs, rfl, hb, hc1, r1, e1⟩ := SlcAt.up rStays HX2.out hB.out k r hg
      have hz : (Try.prog.info? 51).map (·.size) = some cs.length := by rw [hc1]; kernel_rfl
      have HR := Lib.hid r1
      have HE := Lib.hid (And.intro e1 (And.intro hrf htk))
      have HXb := Lib.hid hb
      clear hg hrf htk hb hc1 r1 e1
      go_wp2_with (first | (refine wpList_load_mid rfl 51 _ rfl _ _ rfl _ _ HR.out Try.underlying51 rfl hz ?_))
      refine (rgreatR HE.out.1 HE.out.2.1).mono ?_
      rintro e w3 ⟨⟨B3, rfl⟩, hB3⟩
      have HB3 := Lib.hid (below_up hB.out hB3)
      have HE3 := Lib.hid (rStays _ _ _ _ HE.out.1 hB3)
      have HO3 := Lib.hid (own_up hO.out hB3)
      have HU3 := Lib.hid (own_up hU.out hB3)
      have HUB := Lib.hid (show ∀ j, (Value.slice U k cU).ownBlock = some j → j < w3.heap.size from fun j hj => (RecRL0.own_ge HU3.out hj).2.1)
      have HR3 := Lib.hid (show w3.rangeAt b (o + k * 45) cs from range_below HR.out hB3)
      clear hB3 HR hO hU
      have HR := Lib.hid HR3.out
      clear HR3
      cases B3 with
      | true =>
        go_wp2_with fail
        go_ret
        exact ⟨rfl, below_up HB2.out HB3.out⟩
      | false =>
        go_wp2_with (first | (refine wpList_load_mid rfl 51 _ rfl _ _ rfl _ _ HR.out Try.underlying51 rfl hz ?_))
        refine (wrapR HE3.out HE.out.2.1).mono ?_
        rintro e w4 ⟨⟨v, X4, n4, c4, rfl, hbad, hgood⟩, hB4⟩
        have HB4 := Lib.hid (below_up HB3.out hB4)
        have HO4 := Lib.hid (own_up HO3.out hB4)
        have HU4 := Lib.hid (own_up HU3.out hB4)
        clear hB4 HO3 HU3 HE3 HR
        by_cases hv : v = 0
        · obtain ⟨hf, hn4, g4, hX4, hF4⟩ := hgood hv
          subst hv
          have HF4 := Lib.hid (And.intro hf (And.intro hn4 (show TxtAt w4 X4 (wrapB r) by rw [hX4]; exact hF4.txt)))
          have HG4 := Lib.hid (show X4 = some ⟨g4, 0, none⟩ ∧ w3.heap.size ≤ g4 from ⟨hX4, hF4.le⟩)
          have HFk := Lib.hid (show ∀ q ∈ l.take (k + 1), Fit q from fun q hq => by
            rw [HE.out.2.2] at hq
            rcases List.mem_append.1 hq with h | h
            · exact hFit.out q h
            · simp at h; subst h; exact hf)
          have HLN := Lib.hid (own_len HO4.out)
          have hsz : N ≤ 20 * 65544 := by
            have h1 := HLN.out
            have h2 := cat_small hFit.out
            have h3 : (l.take k).length ≤ 20 := by rw [List.length_take]; have := HL20.out; omega
            omega
          have hsz2 : n4 ≤ 65544 := by rw [hn4, wrapB_len]; have := hf.2; omega
          have hbase : w2.heap.size ≤ (w4.alloc (.cells #[.int .i64 N] 3)).heap.size := by have := HB4.out.size; simp; omega
          have hk20 : k ≤ 20 := by omega
          clear hbad hgood hf hn4 hX4 hF4 hFit
          go_wp2_with (first | (at_builtin; refine wpList_append_any _ rfl (.tmp 52) (.tmp 55) _ rfl w2.heap.size 3 j0 (.int .i64 0) 1 8 Try.underlying26 HJ0.out.1 HJ0.out.2.1 HJ0.out.2.2.1 HJ0.out.2.2.2 rfl (by decide) _ _ _ rfl (own_up HU4.out (below_alloc (Below.refl _ w4))) (w4.heap.size + 1) (some ⟨w4.heap.size, 0, none⟩) 1 1 [.int .i64 N] rfl (RecRL0.reads_box w4 3 [.int .i64 N]) (fun u hu => by simp at hu; subst hu; rfl) (by simp only [maxLen]; omega) (by omega) hbase ?_; intro v5 w5 hown hg hat; obtain ⟨U5, c5, rfl⟩ := RecRL0.own_form2 hown; have H5 := Lib.hid (And.intro (show w5.ownsRow w2.heap.size 3 1 (.slice U5 (k + 1) c5) (k + 1) ((begs 0 (l.take (k + 1))).map (Value.int .i64)) by rw [HE.out.2.2, begs_snoc, List.map_append, Nat.zero_add, ← HLN.out]; exact hown) (And.intro (own_other (own_up HO4.out (below_alloc (Below.refl _ w4))) (own_up HU4.out (below_alloc (Below.refl _ w4))) (by decide) hg) (And.intro ((HB4.out.alloc HB4.out.size (.cells #[.int .i64 N] 3)).grown hg hbase (fun j hj => ((own_up HU4.out (below_alloc (o := .cells #[.int .i64 N] 3) (Below.refl _ w4))).lt j hj).1)) (show TxtAt w5 X4 (wrapB r) from by have h := HF4.out.2.2; rw [HG4.out.1] at h ⊢; exact txt_fresh (TxtAt.up h (below_alloc (Below.refl _ w4))) hg (fun j hj => by have := HUB.out j hj; have := HG4.out.2; omega))))); clear hown hg hat) | (at_builtin; refine wpList_append_any _ rfl (.tmp 57) (.tmp 58) _ rfl w2.heap.size 5 i0 (.int .u8 0) 1 1 Try.underlying37 HI0.out.1 HI0.out.2.1 HI0.out.2.2.1 HI0.out.2.2.2 rfl (by decide) _ _ _ rfl H5.out.2.1 w5.heap.size X4 n4 c4 ((wrapB r).map (Value.int .u8)) rfl (txt_bytes_n HF4.out.2.1 H5.out.2.2.2) (cells_one _) (by simp only [maxLen]; omega) (by omega) H5.out.2.2.1.size ?_; intro v7 w7 hown hg hat; obtain ⟨V7, c7, rfl⟩ := own_slice hown; have H7 := Lib.hid (And.intro hown (And.intro hg (And.intro (own_other H5.out.1 H5.out.2.1 (by decide) hg) (H5.out.2.2.1.grown hg H5.out.2.2.1.size (fun j hj => (H5.out.2.1.lt j hj).1))))); clear hown hg hat))
          go_roundw
          case rel =>
            refine ⟨k + 1, V7, N + n4, c7, U5, c5, by omega, by go_num, rfl, rfl, ?_, ?_, HFk.out, ?_⟩
            · have := H7.out.1
              rw [HE.out.2.2, cat_snoc, List.map_append]
              exact this
            · exact H7.out.2.2.1
            · exact H7.out.2.2.2
          case measure => simp [intOf]; omega
        · have hv' : (v != 0) = true := by simpa using hv
          clear hv hbad hgood
          go_wp2_with fail
          go_ret
          exact ⟨rfl, below_up HB2.out HB4.out⟩
    · obtain rfl : k = l.length := by omega
      rw [List.take_length] at hO hU hFit
      have HLN := Lib.hid (own_len hO.out)
      have hsz : N ≤ 20 * 65544 := by
        have h2 := cat_small hFit.out
        have h1 := HLN.out
        have h3 := HL20.out
        omega
      have HSZ := Lib.hid hsz
      have HBw := Lib.hid (below_up HB2.out hB.out)
      clear hub hlt hk HX2
      by_cases hN : N = 0
      · have hl0 : l.length = 0 := by have := cat_len8 l; have := HLN.out; omega
        obtain rfl : l = [] := List.eq_nil_of_length_eq_zero hl0
        subst hN
        clear hl0 HLN hO hU hFit HL20 h20'
        go_wp2_with fail
        go_ret
        exact ⟨rfl, HBw.out⟩
      · have hni : ((N : Int) == 0) = false := by simp; omega
        have hnz : ¬ (N : Int) = 0 := by omega
        obtain ⟨m, hm⟩ := Int.eq_ofNat_of_zero_le (show 0 ≤ Int.tmod a (N : Int) from Int.tmod_nonneg _ HA.out.1)
        have hm1 : m < N := by
          have := Int.tmod_lt_of_pos a (show (0 : Int) < (N : Int) by omega)
          omega
        obtain ⟨g, rfl⟩ := own_some hO.out (by omega)
        obtain ⟨⟨x, hx, hcx⟩, hfz, hgF, hT⟩ := turn_txt hO.out (show m < (cat l).length by have := HLN.out; omega)
        have hx0 : 0 ≤ x ∧ x < 256 := cat_oct hFit.out x (List.mem_of_getElem? hx)
        obtain ⟨z, hz⟩ : ∃ z, z = ((x.toNat ^^^ y.toNat : Nat) : Int) := ⟨_, rfl⟩
        have hz0 := xor_other hx0 HY.out HYN.out
        have hxo : bits .xor .u8 x y = z := by rw [hz]; exact Go.u8_xor x y hx0.1 hx0.2 HY.out.1 HY.out.2
        rw [← hz] at hz0
        have HZ := Lib.hid (And.intro hz0 (And.intro hx (And.intro hgF (hT z))))
        have HM1 := Lib.hid hm1
        have hcm : (m : Int) < (N : Int) := by omega
        have ha1 := HA.out.1
        have ha2 := HA.out.2
        have HXO := Lib.hid hxo
        have HFZ := Lib.hid (And.intro hcx hfz)
        clear hz hz0 hx0 hx hgF hT hN hxo hcx hfz hsz hm1
        go_wp2_with fail
        have hub : l.length ≤ 20 := HL20.out
        go_loopw [14] (fun i wq => ∃ (j : Nat), j ≤ l.length ∧ i = .int .i64 j ∧ Hid (∀ (i : Nat) (q : Int), i < j → (begs 0 l)[i]? = some q → ¬ (q ≤ m ∧ (m : Int) < q + 4)) ∧ wq = wr)
          (fun i _ => l.length - (intOf i).toNat)
        case atStart => exact ⟨0, Nat.zero_le _, rfl, (fun i q h => by omega), rfl⟩
        case round =>
          obtain ⟨j, hj, rfl, hP, rfl⟩ := hrel
          by_cases hlt : j < l.length
          · have hbl : j < (begs 0 l).length := by rw [begs_len]; exact hlt
            have hg : (begs 0 l)[j]? = some (begs 0 l)[j] := List.getElem?_eq_getElem hbl
            have hq0 := begs_in l 0 _ (List.getElem_mem hbl)
            generalize (begs 0 l)[j] = q at hg hq0
            obtain ⟨bu, ou, hU1, hb, hcell⟩ := (Reads.of_own hU.out).flat (by omega)
            subst hU1
            have hcq := hcell j (.int .i64 q) (by rw [List.getElem?_map, hg]; rfl)
            have hq1 : 0 ≤ q := by omega
            have hq2 : q ≤ 1310880 := by have := HLN.out; have := HSZ.out; omega
            have hji : (j : Int) < (l.length : Int) := by omega
            have hj0 : (0 : Int) ≤ (j : Int) := by omega
            have HG := Lib.hid hg
            clear hg hq0 hbl hb hcell
            by_cases c1 : q ≤ (m : Int)
            · by_cases c2 : (m : Int) < q + 4
              · go_wp2_with fail
                go_ret
                exact ⟨rfl, HBw.out⟩
              · go_wp2_with fail
                go_roundw
                case rel => exact ⟨j + 1, by omega, by go_num, (fun i u hi hu => by
                  rcases Nat.lt_or_ge i j with h | h
                  · exact hP.out i u h hu
                  · obtain rfl : i = j := by omega
                    rw [HG.out] at hu; cases hu; omega), trivial⟩
                case measure => simp [intOf]; omega
            · go_wp2_with fail
              go_roundw
              case rel => exact ⟨j + 1, by omega, by go_num, (fun i u hi hu => by
                rcases Nat.lt_or_ge i j with h | h
                · exact hP.out i u h hu
                · obtain rfl : i = j := by omega
                  rw [HG.out] at hu; cases hu; omega), trivial⟩
              case measure => simp [intOf]; omega
          · obtain rfl : j = l.length := by omega
            have HQ := Lib.hid (show ∃ p ∈ fr ((cat l).set m z) ((cat l).length + 1) 0, p.1 < 0 from turned_law hFit.out (k := m) (by have := HLN.out; have := HM1.out; omega) (fun pre r post e hc => hP.out pre.length _ (by rw [e]; simp) (begs_at e) (by omega)) (y := z) ⟨HZ.out.1.1, HZ.out.1.2.1⟩ (fun e => HZ.out.1.2.2 (by
              have h := HZ.out.2.1
              rw [List.getElem?_eq_getElem (by have := HLN.out; have := HM1.out; omega)] at h
              injection h with h
              rw [← h]; exact e)))
            have HO9 := Lib.hid (show Oct ((cat l).set m z) from fun u hu => by
              rcases List.mem_or_eq_of_mem_set hu with h | h
              · exact cat_oct hFit.out u h
              · rw [h]; exact ⟨HZ.out.1.1, HZ.out.1.2.1⟩)
            have hcx := HFZ.out.1
            have hfz := HFZ.out.2
            have hxo := HXO.out
            clear hub hlt hj hP
            go_wp2_with fail
            have hC := all_any (some ⟨g, 0, none⟩) cV ((cat l).set m z) HO9.out (by rw [List.length_set, ← HLN.out]; exact (RecWrite0.row_cap hO.out).1) (RecWrite0.row_cap hO.out).2 (by rw [List.length_set]; have := HLN.out; have := HSZ.out; omega) _ HZ.out.2.2.2
            rw [show ((cat l).set m z).length = N from by rw [List.length_set]; exact HLN.out.symm] at hC
            refine hC.mono ?_
            rintro e w9 ⟨h9, hB9⟩
            have HB9 := Lib.hid (below_up (HBw.out.setCell (p := ⟨g, m, none⟩) (by have := HZ.out.2.2.1; have := HB2.out.size; show w.heap.size ≤ g; omega) _) hB9)
            rcases h9 with ⟨hn, _⟩ | ⟨_, rfl⟩
            · obtain ⟨p, hp, hlt⟩ := HQ.out
              rw [show (cat l).length = ((cat l).set m z).length from (List.length_set).symm] at hp
              exact absurd hlt (hn p hp)
            · clear hC hB9 hcx hfz hxo
              go_wp2_with fail
              go_ret
              exact ⟨rfl, HB9.out⟩
end Go.Proofs.Ytfdldbfjeamlcaa.LogTurnW
