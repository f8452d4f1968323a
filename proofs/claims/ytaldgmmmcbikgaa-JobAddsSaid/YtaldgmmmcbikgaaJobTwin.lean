/- slices.Clone of tables and of numbers; job.Twin. -/
import Derived.BigQuiet
import Derived.Deep.QuietTactic
import Derived.Lib.SliceRun
import Derived.Test.YtaldgmmmcbikgaaJobMem
import Derived.Test.YtaldgmmmcbikgaaJobIndex
namespace Go.Proofs.Ytaldgmmmcbikgaa.JobTwin
open Go.RowKit Mem PosMath PartMath TurnMath JobMath JobMem
set_option linter.unusedVariables false
set_option linter.unusedSimpArgs false

theorem job_info : (Try.prog.info? 33).map (fun i => (i.zero, i.size, i.bytes)) = some (some (.agg #[.int .i64 0, .int .i64 0, .int .i64 0, .int .i64 0, .int .i64 0, .int .i64 0, .bool false, .bool false, .bool false, .bool false, .int .i64 0, .int .i64 0, .bool false, .slice none 0 0, .int .u8 0, .int .i64 0]), 16, 120) := by kernel_rfl
theorem int_info : (Try.prog.info? 3).map (fun i => (i.zero, i.size, i.bytes)) = some (some (.int .i64 0), 1, 8) := by kernel_rfl
set_option maxRecDepth 100000 in
set_option maxHeartbeats 4000000 in
theorem iclone (X : Option Addr) (cap : Nat) (l : List Int) (hl : l.length ≤ 1000) (w : World) (hX : IntsAt w X l) :
    Calls Try.prog 28 #[.slice X l.length cap] w fun e w' => ∃ X' c', e = .returned (.slice X' l.length c') ∧ (∀ g0, g0 < w.heap.size → IntsOwn w' w.heap.size g0 X' l) ∧ Below w.heap.size w w' := by
  have u : ∀ w, Sem.run Try.prog (underlying 31) w = .ok (TypeDesc.slice 3) w := run_underlying Try.underlying31
  have q : ∀ (w : World) (a : Option Addr) (n c n' c' : Nat), (binOp .eql 31 (.slice a n c) (.slice none n' c')).run Try.prog w = .ok (.bool a.isNone) w := fun w a n c n' c' => Lib.run_eql_slice_nil w _ _ a n c n' c' Try.underlying31
  cases X with
  | none =>
    obtain rfl : l = [] := by
      cases l with
      | nil => rfl
      | cons x t =>
        obtain ⟨_, _, h⟩ := hX 0 x rfl
        cases h.1
    clear hX
    go_enter Try.func28, Try.ntmps28
    go_wp2_with fail
    go_ret
    exact ⟨none, 0, rfl, (fun g0 hg i v h => by simp at h), Below.refl _ _⟩
  | some a =>
    have hr := ints_reads hX
    have h1 : ∀ u ∈ l.map (Value.int .i64), u.oneCell' = true := fun u hu => by
      obtain ⟨n, _, rfl⟩ := List.mem_map.1 hu
      rfl
    obtain ⟨i0, hi0, hz0, hz1, hz2⟩ := info_parts int_info
    have HR := Lib.hid (And.intro (hr.alloc (Nat.le_refl _) (.cells #[] 3)) (And.intro h1 (And.intro hi0 (And.intro hz0 (And.intro hz1 hz2)))))
    have HX := Lib.hid hX
    clear hr h1 hi0 hz0 hz1 hz2 hX
    go_enter Try.func28, Try.ntmps28
    go_wp2_with (at_builtin; refine wpList_append_any _ rfl (.tmp 5) (.tmp 6) _ rfl w.heap.size 3 i0 (.int .i64 0) 1 8 Try.underlying31 HR.out.2.2.1 HR.out.2.2.2.1 HR.out.2.2.2.2.1 HR.out.2.2.2.2.2 rfl (by decide) _ _ _ rfl (World.ownsRow_made w #[] 0 (Nat.le_refl _) (Nat.zero_le _) (by simp)) w.heap.size (some a) l.length cap (l.map (Value.int .i64)) rfl HR.out.1 HR.out.2.1 (by simp only [maxLen]; omega) (by omega) (by simp) ?_; intro v1 w1 hown hg hat; have HO := Lib.hid (And.intro hown hg); clear hown hg hat)
    go_ret
    have hB1 : Below w.heap.size w w1 := (below_alloc (Below.refl _ w)).grown HO.out.2 (by simp) (by intro k hk; cases hk; exact Nat.le_refl _)
    have ho : w1.ownsRow w.heap.size 3 1 v1 l.length (l.map (Value.int .i64)) := by have := HO.out.1; simpa using this
    have hx : ∃ Y c, v1 = .slice Y l.length c ∧ ∀ g0, g0 < w.heap.size → IntsOwn w1 w.heap.size g0 Y l := by
      rcases ho.2 with ⟨rfl, e0⟩ | ⟨g, cap', cur, rfl, _⟩
      · obtain rfl : l = [] := List.eq_nil_of_length_eq_zero e0
        exact ⟨none, 0, rfl, fun g0 _ i v h => by simp at h⟩
      · refine ⟨_, cap', rfl, fun g0 hg0 => ?_⟩
        obtain ⟨Y, c, e, h⟩ := ints_of_own hg0 rfl ho
        cases e
        exact h
    obtain ⟨Y, c, rfl, h⟩ := hx
    exact ⟨Y, c, rfl, h, hB1⟩
set_option maxRecDepth 100000 in
set_option maxHeartbeats 4000000 in
theorem jcloneC (X : Option Addr) (cap : Nat) (l : List JV) (hl : l.length ≤ 1000) (w : World) (hX : JobsAt w X l) :
    Calls Try.prog 27 #[.slice X l.length cap] w fun e w' => ∃ X' c', e = .returned (.slice X' l.length c') ∧ (Mid w' w.heap.size X' l 0) ∧ Below w.heap.size w w' ∧ l.length ≤ c' := by
  have u : ∀ w, Sem.run Try.prog (underlying 27) w = .ok (TypeDesc.slice 33) w := run_underlying Try.underlying27
  have q : ∀ (w : World) (a : Option Addr) (n c n' c' : Nat), (binOp .eql 27 (.slice a n c) (.slice none n' c')).run Try.prog w = .ok (.bool a.isNone) w := fun w a n c n' c' => Lib.run_eql_slice_nil w _ _ a n c n' c' Try.underlying27
  cases X with
  | none =>
    obtain rfl : l = [] := by
      cases l with
      | nil => rfl
      | cons x t =>
        obtain ⟨_, _, h⟩ := hX 0 x rfl
        obtain ⟨_, _, e, _⟩ := h
        cases e
    clear hX
    go_enter Try.func27, Try.ntmps27
    go_wp2_with fail
    go_ret
    exact ⟨none, 0, rfl, (fun i j h => by simp at h), Below.refl _ _, Nat.le_refl _⟩
  | some a =>
    have hb : ∃ b o, a = ⟨b, o, none⟩ ∨ l = [] := by
      cases l with
      | nil => exact ⟨0, 0, .inr rfl⟩
      | cons x t =>
        obtain ⟨b, o, _, _, e, _⟩ := hX 0 x rfl
        exact ⟨b, o, .inl (by simpa using e)⟩
    have hpre : ∃ news, Reads w w.heap.size 16 (some a) l.length news ∧ (∀ u ∈ news, u.oneCell' = true) ∧ ∀ (w' : World) (v : Value), Below w.heap.size w w' → w'.ownsRow w.heap.size 33 16 v l.length news → ∃ X c, v = .slice X l.length c ∧ Mid w' w.heap.size X l 0 := by
      obtain ⟨b, o, rfl | rfl⟩ := hb
      · obtain ⟨h1, h2, _⟩ := raw_reads hX
        exact ⟨_, h1, h2, fun w' v hB ho => mid_of_own hB rfl hX rfl ho⟩
      · refine ⟨[], ⟨rfl, fun h => by simp at h⟩, (fun u hu => by cases hu), fun w' v hB ho => ?_⟩
        rcases ho.2 with ⟨rfl, _⟩ | ⟨g, cap, cur, rfl, _⟩
        · exact ⟨none, 0, rfl, fun i j h => by simp at h⟩
        · exact ⟨_, cap, rfl, fun i j h => by simp at h⟩
    obtain ⟨news, hr, h1, hfin⟩ := hpre
    obtain ⟨i0, hi0, hz0, hz1, hz2⟩ := info_parts job_info
    have HR := Lib.hid (And.intro (hr.alloc (Nat.le_refl _) (.cells #[] 33)) (And.intro h1 (And.intro hi0 (And.intro hz0 (And.intro hz1 hz2)))))
    have HF := Lib.hid hfin
    clear hr h1 hi0 hz0 hz1 hz2 hX hb hfin
    go_enter Try.func27, Try.ntmps27
    go_wp2_with (at_builtin; refine wpList_append_any _ rfl (.tmp 5) (.tmp 6) _ rfl w.heap.size 33 i0 (.agg #[.int .i64 0, .int .i64 0, .int .i64 0, .int .i64 0, .int .i64 0, .int .i64 0, .bool false, .bool false, .bool false, .bool false, .int .i64 0, .int .i64 0, .bool false, .slice none 0 0, .int .u8 0, .int .i64 0]) 16 120 Try.underlying27 HR.out.2.2.1 HR.out.2.2.2.1 HR.out.2.2.2.2.1 HR.out.2.2.2.2.2 rfl (by decide) _ _ _ rfl (World.ownsRow_made w #[] 0 (Nat.le_refl _) (Nat.zero_le _) (by simp)) w.heap.size (some a) l.length cap news rfl HR.out.1 HR.out.2.1 (by simp only [maxLen]; omega) (by omega) (by simp) ?_; intro v1 w1 hown hg hat; have HO := Lib.hid (And.intro hown hg); clear hown hg hat)
    go_ret
    have hB1 : Below w.heap.size w w1 := (below_alloc (Below.refl _ w)).grown HO.out.2 (by simp) (by intro k hk; cases hk; exact Nat.le_refl _)
    have ho : w1.ownsRow w.heap.size 33 16 v1 l.length news := by have := HO.out.1; simpa using this
    obtain ⟨Y, c, rfl, h⟩ := HF.out w1 v1 hB1 ho
    have hcap : l.length ≤ c := by
      rcases ho.2 with ⟨e, e0⟩ | ⟨g, cap', cur, e, _, _, hc, _⟩
      · simp only [Value.slice.injEq] at e
        obtain ⟨_, e1, e2⟩ := e
        omega
      · simp only [Value.slice.injEq] at e
        obtain ⟨_, _, e2⟩ := e
        omega
    exact ⟨Y, c, rfl, h, hB1, hcap⟩
set_option maxRecDepth 100000 in
set_option maxHeartbeats 4000000 in
/-- job.Twin: a table's copy, in memory of its own. -/
theorem twinC (X : Option Addr) (cap : Nat) (l : List JV) (hl : l.length ≤ 1000) (hla : ∀ j ∈ l, j.af.length ≤ 1000) (w : World) (hX : JobsAt w X l) :
    Calls Try.prog 12 #[.slice X l.length cap] w fun e w' => ∃ X' c', e = .returned (.slice X' l.length c') ∧ JobsOwn w' w.heap.size X' l ∧ Below w.heap.size w w' ∧ l.length ≤ c' := by
  have HC := Lib.hid (jcloneC X cap l hl w hX)
  have HLA := Lib.hid hla
  clear hX hla
  go_enter Try.func12, Try.ntmps12
  go_wp2_with fail
  refine HC.out.mono ?_
  rintro e w1 ⟨X', c', rfl, hM, hB1, hc1⟩
  have HM := Lib.hid (And.intro hM hB1)
  clear hM hB1
  go_wp2_with fail
  go_loopw [8] (fun i wr => ∃ k : Nat, k ≤ l.length ∧ i = .int .i64 k ∧ Hid (Mid wr w.heap.size X' l k) ∧ Hid (Below w.heap.size w wr))
    (fun i _ => l.length - (intOf i).toNat)
  case atStart => exact ⟨0, Nat.zero_le _, rfl, HM.out.1, HM.out.2⟩
  case round =>
    obtain ⟨k, hk, rfl, hM, hB⟩ := hrel
    by_cases hlt : k < l.length
    · have hg : l[k]? = some l[k] := List.getElem?_eq_getElem hlt
      generalize l[k] = x at hg
      have hki : (k : Int) < (l.length : Int) := by omega
      have hki0 : (0 : Int) ≤ (k : Int) := by omega
      obtain ⟨g, Y, c, rfl, hgB, hgs, hJ, hF, _, hI⟩ := hM.out k x hg
      have y13 : wr.cell? ⟨g, k * 16 + 13, none⟩ = some (.slice Y x.af.length c) := hJ.2.2.2.2.2.2.2.2.2.2.2.2.2.1
      have f13 : wr.frozen? ⟨g, k * 16 + 13, none⟩ = false := hF 13 (by omega)
      have HCI := Lib.hid (iclone Y c x.af (HLA.out x (List.mem_of_getElem? hg)) wr (hI (Nat.le_refl _)).ints)
      have HG := Lib.hid (And.intro hg (And.intro hgB hgs))
      clear hg hJ hF hI hgB hgs
      go_wp2_with fail
      refine HCI.out.mono ?_
      rintro e w2 ⟨Y', c2, rfl, hO, hB2⟩
      have z13 := keep_cell y13 hB2
      have fz13 := frozen_keep f13 (cell_lt y13) hB2
      have HM2 := Lib.hid (Mid.up hM.out hB2)
      have HO2 := Lib.hid (((hO g HG.out.2.2).less hB.out.size))
      have HB2 := Lib.hid (below_up hB.out hB2)
      clear hO hB2 y13 f13 HCI
      go_wp2_with fail
      go_roundw
      case rel => exact ⟨k + 1, by omega, by go_num, Mid.step HM2.out HG.out.1 HG.out.2.1 HO2.out, HB2.out.setCell HG.out.2.1 _⟩
      case measure => simp [intOf]; omega
    · obtain rfl : k = l.length := by omega
      go_wp2_with fail
      go_ret
      exact ⟨X', c', rfl, hM.out, hB.out, hc1⟩
theorem twin_any (X : Option Addr) (cap : Nat) (l : List JV) (hl : l.length ≤ 1000) (hla : ∀ j ∈ l, j.af.length ≤ 1000) (w : World) (hX : JobsAt w X l) :
    Calls Try.prog 12 #[.slice X l.length cap] w fun e w' => ∃ X' c', e = .returned (.slice X' l.length c') ∧ JobsOwn w' w.heap.size X' l ∧ Below w.heap.size w w' :=
  (twinC X cap l hl hla w hX).mono fun _ _ ⟨X', c', h1, h2, h3, _⟩ => ⟨X', c', h1, h2, h3⟩
end Go.Proofs.Ytaldgmmmcbikgaa.JobTwin
