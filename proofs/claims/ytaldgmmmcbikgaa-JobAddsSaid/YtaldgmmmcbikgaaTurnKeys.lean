/- maps.Keys at a map of wants, and its iterator: each key once, in some order. No conditions but those named. -/
import Derived.Outline
import Derived.RangeFuncKeeps
import Derived.RangeFuncMany
import Derived.Test.YtaldgmmmcbikgaaTurnMap
namespace Go.Proofs.Ytaldgmmmcbikgaa.TurnKeys
open Go.RowKit Go.Shelf Mem SeqKit TurnMath TurnMap Go.ChangeMaps
attribute [local go_sem] Oper.semAt_some
set_option linter.unusedVariables false
set_option linter.unusedSimpArgs false

theorem keys_in (F : Fence) (n : Nat) (hf : F.fn 80) (hro : F.round = none) (b : Nat) (w : World) :
    CallsIn F n Try.prog 80 #[.map (some b)] w fun e w' => e = .returned (.func (.func 87) #[] #[.pointer (some ⟨w.heap.size, 0, none⟩)]) ∧ w' = w.alloc (.cells #[.map (some b)] 102) := by
  refine callsIn_of_wp Try.func80 rfl hf ?_ hro
  simp only [Try.ntmps80, List.size_toArray, List.length_cons, List.length_nil, Nat.reduceAdd, Nat.reduceSub, Array.replicate_succ, Array.replicate_zero, List.push_toArray, List.append_toArray, List.nil_append, List.cons_append]
  gi_wp2
  go_ret
  exact ⟨rfl, rfl⟩

/-- What has come, of the entries' stamps that have been handed out. -/
def Came (es : Array MapEntry) (seen : Array Nat) (ss : List WV) : Prop := ss.Nodup ∧ ∀ x, x ∈ ss ↔ ∃ e ∈ es.toList, e.key = .agg x.arr ∧ seen.contains e.born = true
theorem Came.step {es : Array MapEntry} {seen : Array Nat} {ss ks : List WV} (h : Came es seen ss) (hk : es.toList.map (·.key) = ks.map (fun x => Value.agg x.arr)) (hnd : ks.Nodup) (hb : (es.toList.map (·.born)).Nodup)
    {e : MapEntry} (he : e ∈ (leftOf es seen).toList) {x : WV} (hx : e.key = .agg x.arr) : Came es (seen.push e.born) (ss ++ [x]) := by
  obtain ⟨hm, hs⟩ := mem_left he
  have inj : ∀ e1 ∈ es.toList, ∀ e2 ∈ es.toList, e1.key = e2.key → e1 = e2 := by
    intro e1 h1 e2 h2 hk2
    have hn : (es.toList.map (·.key)).Nodup := by
      rw [hk]
      exact List.pairwise_map.2 (hnd.imp fun hne e => hne (arr_inj e))
    exact Classical.byContradiction fun hne => by
      have hp := List.pairwise_map.1 hn
      rcases List.mem_iff_getElem.1 h1 with ⟨i, hi, rfl⟩
      rcases List.mem_iff_getElem.1 h2 with ⟨j, hj, rfl⟩
      have hij : i ≠ j := fun e => hne (by subst e; rfl)
      rcases Nat.lt_or_gt_of_ne hij with h | h
      · exact (List.pairwise_iff_getElem.1 hp i j hi hj h) hk2
      · exact (List.pairwise_iff_getElem.1 hp j i hj hi h) hk2.symm
  have hx' : x ∉ ss := fun hin => by
    obtain ⟨e2, h2, k2, s2⟩ := (h.2 x).1 hin
    have := inj e2 h2 e hm (k2.trans hx.symm)
    subst this
    rw [hs] at s2
    cases s2
  refine ⟨?_, fun y => ?_⟩
  · rw [List.nodup_append]
    refine ⟨h.1, by simp, ?_⟩
    intro a ha c hc e
    simp at hc
    subst hc
    subst e
    exact hx' ha
  · rw [List.mem_append, List.mem_singleton, h.2 y]
    constructor
    · rintro (⟨e2, h2, k2, s2⟩ | rfl)
      · exact ⟨e2, h2, k2, by rw [contains_push, s2, Bool.true_or]⟩
      · exact ⟨e, hm, hx, by rw [contains_push]; simp⟩
    · rintro ⟨e2, h2, k2, s2⟩
      rw [contains_push] at s2
      by_cases h3 : seen.contains e2.born = true
      · exact .inl ⟨e2, h2, k2, h3⟩
      · have h4 : e2.born = e.born := by
          simp only [Bool.not_eq_true] at h3
          rw [h3] at s2
          simpa using s2
        right
        have hf1 := find_born e es.toList hb hm
        have hf2 := find_born e2 es.toList hb h2
        rw [h4, hf1] at hf2
        cases hf2
        rw [hx] at k2
        exact (arr_inj k2).symm
theorem perm_of {l m : List WV} (hl : l.Nodup) (hm : m.Nodup) (h : ∀ x, x ∈ l ↔ x ∈ m) : l.Perm m := (List.perm_ext_iff_of_nodup hl hm).2 h
theorem Came.perm {es : Array MapEntry} {seen : Array Nat} {ss ks : List WV} (h : Came es seen ss) (hk : es.toList.map (·.key) = ks.map (fun x => Value.agg x.arr)) (hnd : ks.Nodup) (h0 : (leftOf es seen).size = 0) : ss.Perm ks := by
  refine perm_of h.1 hnd fun x => ?_
  rw [h.2 x]
  constructor
  · rintro ⟨e, he, k, _⟩
    have : e.key ∈ es.toList.map (·.key) := List.mem_map.2 ⟨e, he, rfl⟩
    rw [hk, k] at this
    obtain ⟨y, hy, e2⟩ := List.mem_map.1 this
    rw [arr_inj e2] at hy
    exact hy
  · intro hx
    have : Value.agg x.arr ∈ es.toList.map (·.key) := by rw [hk]; exact List.mem_map.2 ⟨x, hx, rfl⟩
    obtain ⟨e, he, k⟩ := List.mem_map.1 this
    refine ⟨e, he, k, ?_⟩
    cases hc : seen.contains e.born with
    | true => rfl
    | false =>
      have hmem : e ∈ (leftOf es seen) := Array.mem_filter.2 ⟨Array.mem_toList_iff.1 he, by rw [hc]; rfl⟩
      have : (leftOf es seen) = #[] := Array.eq_empty_of_size_eq_zero h0
      rw [this] at hmem
      simp at hmem
theorem heap_setBlock {w : World} {b : Nat} {o o' : Obj} (h : w.heap[b]? = some o') : (setBlock w b o).heap[b]? = some o := by
  have := (Array.getElem?_eq_some_iff.1 h).1
  simp [setBlock, Array.getElem?_setIfInBounds, this]
theorem heap_setBlock_ne {w : World} {b c : Nat} {o : Obj} (h : b ≠ c) : (setBlock w b o).heap[c]? = w.heap[c]? := by
  simp [setBlock, Array.getElem?_setIfInBounds, h]
theorem grown_setBlock {w w1 : World} {r : Nat} {o : Obj} (h : w1 = w ∨ w1 = w.drew) : w.grownBy (setBlock w1 r o) (some r) := by
  rcases h with rfl | rfl
  · exact ⟨rfl, rfl, rfl, by simp [setBlock], fun k _ hk => heap_setBlock_ne (fun e => hk (by rw [e]))⟩
  · exact ⟨rfl, rfl, rfl, by simp [setBlock], fun k _ hk => heap_setBlock_ne (fun e => hk (by rw [e]))⟩

set_option maxRecDepth 100000 in
set_option maxHeartbeats 2000000 in
/-- The iterator of maps.Keys: each key once, in some order, for every loop body. -/
theorem keys1_in (F : Fence) (n : Nat) (hf : F.fn 87) (hro : F.round = none) (hn : 1 ≤ n) (l Bm b : Nat) (ks : List WV)
    (J Jx : List WV → World → Prop)
    (hY : ∀ pre x W, J pre W → pre.length < ks.length → YieldAt F (n - 1) Try.prog l #[.agg x.arr] W fun e W' =>
      (e = .returned (.bool true) ∧ J (pre ++ [x]) W' ∧ KeepsWalks W W') ∨ (e = .returned (.bool false) ∧ Jx (pre ++ [x]) W'))
    (W : World) (hJ : AbidesFrom W.heap.size J) (hm : W.cell? ⟨Bm, 0, none⟩ = some (.map (some b))) (hM : MapOf W b ks) (h0 : J [] W) :
    CallsIn F n Try.prog 87 #[.func (.yield l) #[] #[], .pointer (some ⟨Bm, 0, none⟩)] W fun e W' => (∃ v, e = .returned v) ∧
      ((∃ ys, ys.Perm ks ∧ J ys W') ∨ (∃ pre, True ∧ Jx pre W')) := by
  refine callsIn_of_wp Try.func87 rfl hf ?_ hro
  simp only [Try.ntmps87, List.size_toArray, List.length_cons, List.length_nil, Nat.reduceAdd, Nat.reduceSub, Array.replicate_succ, Array.replicate_zero, List.push_toArray, List.append_toArray, List.nil_append, List.cons_append]
  obtain ⟨es, clock, hb, hk, hv, hbn, hc, hnd, hok⟩ := hM
  have HY := Lib.hid hY
  have HA := Lib.hid hJ
  have HF := Lib.hid (And.intro hk (And.intro hbn (And.intro hc (And.intro hnd hok))))
  have H0 := Lib.hid h0
  have hblt : b < W.heap.size := (Array.getElem?_eq_some_iff.1 hb).1
  have hlen : es.size = ks.length := by
    have := congrArg List.length hk
    simpa using this
  have hrange : (Instr.range 102 (.map (some b))).run Try.prog W = .ok (.pointer (some ⟨W.heap.size, 0, none⟩)) (W.alloc (.mapIter (some b) clock #[] clock)) := run_range_map W _ _ _ b es clock Try.underlying102 hb
  have HB := Lib.hid hb
  clear hY hJ hk hbn hc hnd hok h0 hv hb
  gi_wp2
  gi_loopw [3] (fun _ wr => ∃ (seen : Array Nat) (c0 : Nat) (ss : List WV), wr.heap[W.heap.size]? = some (.mapIter (some b) clock seen c0) ∧ clock ≤ c0 ∧ wr.heap[b]? = some (.map es clock) ∧ Came es seen ss ∧ J ss wr ∧ ss.length + (leftOf es seen).size ≤ ks.length)
    (fun _ wr => (leftOf es (wr.iterSeen W.heap.size)).size)
  case atStart =>
    refine ⟨#[], clock, [], heap_alloc_new W _, Nat.le_refl _, (heap_alloc_old W _ _ hblt).trans HB.out, ⟨List.nodup_nil, fun x => ?_⟩, HA.out [] W _ none H0.out (World.grownBy_alloc W _ none) (fun r e => by cases e), ?_⟩
    · constructor
      · intro h; cases h
      · rintro ⟨e, _, _, h⟩; simp at h
    · simp only [List.length_nil, Nat.zero_add]
      rw [← hlen]
      exact Array.size_filter_le ..
  case round =>
    obtain ⟨seen, c0, ss, hr, hsc, hb, hC, hJs, hcnt⟩ := hrel
    have hrb : W.heap.size ≠ b := by omega
    have hmeas : wr.iterSeen W.heap.size = seen := by unfold World.iterSeen; rw [hr]
    rcases run_next_at (P := Try.prog) wr 0 W.heap.size b clock c0 seen es clock hr hb (fun x hx => HF.out.2.2.1 x hx) hsc with ⟨hl0, hrun⟩ | ⟨e, he, w1, hw1, hrun⟩
    · have HC := Lib.hid (hC.perm HF.out.1 HF.out.2.2.2.1 hl0)
      have HJ := Lib.hid hJs
      clear hC hJs hr hb hl0
      gi_wp2
      go_end0
      exact ⟨⟨_, rfl⟩, .inl ⟨ss, HC.out, HJ.out⟩⟩
    · have hsh := left_shrinks es seen e he
      have hem := (mem_left he).1
      obtain ⟨x, hx, hkx⟩ : ∃ x, x ∈ ks ∧ e.key = .agg x.arr := by
        have : e.key ∈ es.toList.map (·.key) := List.mem_map.2 ⟨e, hem, rfl⟩
        rw [HF.out.1] at this
        obtain ⟨y, hy, e2⟩ := List.mem_map.1 this
        exact ⟨y, hy, e2.symm⟩
      have hC2 := hC.step HF.out.1 HF.out.2.2.2.1 HF.out.2.1 he hkx
      have hg := grown_setBlock (r := W.heap.size) (o := .mapIter (some b) clock (seen.push e.born) clock) hw1
      have hJ2 := HA.out ss wr _ (some W.heap.size) hJs hg (fun r e => by cases e; exact ⟨Nat.le_refl _, _, hr, rfl⟩)
      have hr1 : w1.heap[W.heap.size]? = some (.mapIter (some b) clock seen c0) := by rcases hw1 with rfl | rfl <;> exact hr
      have hb1 : w1.heap[b]? = some (.map es clock) := by rcases hw1 with rfl | rfl <;> exact hb
      have hr2 := heap_setBlock (o := .mapIter (some b) clock (seen.push e.born) clock) hr1
      have hb2 := (heap_setBlock_ne (o := .mapIter (some b) clock (seen.push e.born) clock) hrb).trans hb1
      generalize setBlock w1 W.heap.size (.mapIter (some b) clock (seen.push e.born) clock) = w2 at *
      have hent := run_entry_at (P := Try.prog) w2 W.heap.size b clock seen es clock e hr2 hb2 hem HF.out.2.1
      rw [hkx] at hrun hent
      have hlw : W.heap.size < w2.heap.size := (Array.getElem?_eq_some_iff.1 hr2).1
      have hJ3 := HA.out ss w2 (w2.alloc (.cells x.arr WT)) none hJ2 (World.grownBy_alloc w2 _ none) (fun r e => by cases e)
      obtain ⟨fn, tmps, assign, body, hy, hR⟩ := HY.out ss x _ hJ3 (by omega)
      have HR := Lib.hid hR
      have HC2 := Lib.hid hC2
      have HRB := Lib.hid (And.intro hr2 hb2)
      have HM := Lib.hid hmeas
      clear hR hC2 hr2 hb2 hC hJs hJ2 hJ3 hr hb hr1 hb1 hg hw1 he hem hmeas hkx
      unfold WV.arr at *
      gi_wp2
      refine HR.out.mono ?_
      rintro e' W3 (⟨rfl, hJ4, hk3⟩ | ⟨rfl, hJx3⟩)
      · have hr3 := hk3.same W.heap.size _ ((heap_alloc_old w2 (.cells x.arr WT) _ hlw).trans HRB.out.1) rfl
        have hb3 := hk3.same b _ ((heap_alloc_old w2 (.cells x.arr WT) _ (by omega)).trans HRB.out.2) rfl
        have HJ4 := Lib.hid (And.intro hJ4 (And.intro hr3 hb3))
        clear hJ4 hk3 hr3 hb3
        gi_wp2
        go_roundw
        case rel => exact ⟨_, clock, ss ++ [x], HJ4.out.2.1, Nat.le_refl _, HJ4.out.2.2, HC2.out, HJ4.out.1, by simp; omega⟩
        case measure =>
          have : W3.iterSeen W.heap.size = seen.push e.born := by unfold World.iterSeen; rw [HJ4.out.2.1]
          rw [this, HM.out]
          exact hsh
      · have HJ4 := Lib.hid hJx3
        clear hJx3
        gi_wp2
        refine bodyPost_ret (results_none rfl _ _ _) rfl ?_
        exact ⟨⟨_, rfl⟩, .inr ⟨_, trivial, HJ4.out⟩⟩
end Go.Proofs.Ytaldgmmmcbikgaa.TurnKeys
