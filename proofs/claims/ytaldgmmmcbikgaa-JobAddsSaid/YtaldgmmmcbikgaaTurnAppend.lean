/- slices.AppendSeq(nil, maps.Keys(m)), slices.Collect: a slice of the call's own that holds each key once, in some order. No conditions but those named. -/
import Derived.RangeFuncNested
import Derived.Maps.RangeWalk
import Derived.RangeFuncLeaves
import Derived.Test.YtaldgmmmcbikgaaTurnKeys
namespace Go.Proofs.Ytaldgmmmcbikgaa.TurnAppend
open Go.RowKit Go.Shelf Mem SeqKit TurnMath TurnMap TurnKeys Go.ChangeMaps
attribute [local go_sem] Oper.semAt_some
set_option linter.unusedVariables false
set_option linter.unusedSimpArgs false

abbrev ST : TypeId := 94
abbrev zeroW : Value := .agg #[.int .i64 0, .int .i64 0, .int .i64 0, .bool false, .bool false, .bool false, .bool false]
theorem w_info : (Try.prog.info? WT).map (fun i => (i.zero, i.size, i.bytes)) = some (some zeroW, 7, 32) := by kernel_rfl
def cellsL (l : List WV) : List Value := l.flatMap WV.cells
theorem cellsL_snoc (l : List WV) (x : WV) : cellsL (l ++ [x]) = cellsL l ++ x.cells := by simp [cellsL]
theorem ne_ST : ST ≠ WT := by decide
theorem cell_one (W : World) (x : WV) : ∀ j u, x.cells[j]? = some u → (W.alloc (.cells x.arr WT)).cell? ((⟨W.heap.size, 0, none⟩ : Addr).add j) = some u := fun j u hu => by
  rw [add_flat, Nat.zero_add]
  rw [(Blk.new W WT x.arr).cell j]
  simpa [WV.arr, WV.cells] using hu
theorem one_cell (x : WV) : ∀ u ∈ x.cells, u.oneCell' = true := fun u hu => by
  simp only [WV.cells, List.mem_cons, List.not_mem_nil, or_false] at hu
  rcases hu with h | h | h | h | h | h | h <;> rw [h] <;> rfl

theorem keys_stops (F : Fence) (n : Nat) (hf : F.fn 87) (hro : F.round = none) (hn : 1 ≤ n) (Bm b : Nat) (ks : List WV) (w : World) (hBm : Bm < w.heap.size) (hm : w.cell? ⟨Bm, 0, none⟩ = some (.map (some b))) (hM : MapOf w b ks) :
    SeqStopsK F n Try.prog 87 #[.pointer (some ⟨Bm, 0, none⟩)] (fun x : WV => #[Value.agg x.arr]) KeepsWalks (fun ys => ys.Perm ks) (fun _ => True) ks.length w := fun l J Jx W hW hJ _ hY h0 =>
  keys1_in F n hf hro hn l Bm b ks J Jx hY W hJ ((hW.cell (p := ⟨Bm, 0, none⟩) hBm).trans hm) (hM.same (hW.block b hM.lt)) h0

set_option maxRecDepth 100000 in
set_option maxHeartbeats 4000000 in
theorem appendSeq_any (Bm b : Nat) (ks : List WV) (w : World) (hBm : Bm < w.heap.size) (hm : w.cell? ⟨Bm, 0, none⟩ = some (.map (some b))) (hM : MapOf w b ks) (h6 : ks.length ≤ 6) :
    Calls Try.prog 91 #[.slice none 0 0, .func (.func 87) #[] #[.pointer (some ⟨Bm, 0, none⟩)]] w fun e w' =>
      ∃ (v : Value) (ys : List WV), e = .returned v ∧ ys.Perm ks ∧ w'.ownsRow w.heap.size WT 7 v ys.length (cellsL ys) ∧ Below w.heap.size w w' := by
  refine (callsIn_wide (n := 5)).1 ?_
  refine callsIn_of_wp_marks Try.func91 rfl trivial ?_ rfl
  simp only [Try.ntmps91, List.size_toArray, List.length_cons, List.length_nil, Nat.reduceAdd, Nat.reduceSub, Array.replicate_succ, Array.replicate_zero, List.push_toArray, List.append_toArray, List.nil_append, List.cons_append]
  obtain ⟨i0, hi0, hz0, hz1, hz2⟩ := info_parts w_info
  have HM := Lib.hid (And.intro hm hM)
  have HI := Lib.hid (And.intro hi0 (And.intro hz0 (And.intro hz1 hz2)))
  clear hm hM hi0 hz0 hz1 hz2
  gi_wp2
  have bS := Boxed.new w ST (.slice none 0 0)
  have hB0 : Below w.heap.size w (w.alloc (.cells #[.slice none 0 0] ST)) := (Below.refl _ w).alloc (Nat.le_refl _) _
  have hM0 : MapOf (w.alloc (.cells #[.slice none 0 0] ST)) b ks := HM.out.2.same (hB0.block b HM.out.2.lt)
  have hm0 : (w.alloc (.cells #[.slice none 0 0] ST)).cell? ⟨Bm, 0, none⟩ = some (.map (some b)) := (hB0.cell (p := ⟨Bm, 0, none⟩) hBm).trans HM.out.1
  have hs0 : (w.alloc (.cells #[.slice none 0 0] ST)).heap.size = w.heap.size + 1 := by simp
  refine wpIn_rangeFunc_ownH rfl (by omega) (gf := 87) (lb := #[.pointer (some ⟨Bm, 0, none⟩)]) rfl trivial (enters_of Try.func87 (by kernel_rfl) rfl)
    (keys_stops Fence.wide 4 trivial rfl (by omega) Bm b ks _ (Nat.lt_of_lt_of_le hBm hB0.size) hm0 hM0) walksK_t walksK_b (Below.refl _ _) (fun _ => rfl)
    (fun pre W => (∃ v, Boxed W w.heap.size ST v ∧ W.ownsRow w.heap.size WT 7 v pre.length (cellsL pre) ∧ True) ∧ Below w.heap.size w W)
    (fun _ _ _ => False)
    (OwnFrom.and (Own.from (holdsRow_own w.heap.size w.heap.size ST WT 7 List.length cellsL (fun _ _ => True)) _) (ownFrom_below (Nat.le_refl _) hB0.size))
    (fun _ _ _ _ _ hs _ _ => hs)
    ⟨⟨_, bS, ⟨rfl, .inl ⟨rfl, rfl⟩⟩, trivial⟩, hB0⟩
    (fun x a' W => ∃ eb, w.heap.size < eb ∧ Blk W eb WT x.arr ∧ a' = { tmps := #[.slice none 0 0, .func (.func 87) #[] #[.pointer (some ⟨Bm, 0, none⟩)], .pointer (some ⟨w.heap.size, 0, none⟩), undef, .slice none 0 0, .pointer (some ⟨eb, 0, none⟩), .func (.func 87) #[] #[.pointer (some ⟨Bm, 0, none⟩)], .agg x.arr, undef, undef, undef, undef, undef], defers := [] })
    (fun x a' _ X Y row hs hg hr => by
      obtain ⟨eb, h1, h2, h3⟩ := hs
      refine ⟨eb, h1, h2.grown hg (fun e' => ?_), h3⟩
      obtain ⟨_, o, ho, hc⟩ := hr eb e'.symm
      rw [show X.heap[eb]? = _ from h2] at ho; cases ho; cases hc)
    ?assign ?body ?done ?stop
  case assign =>
    rintro l pre x W K ⟨⟨v, bS1, hrow, _⟩, hB1⟩ hK
    have HK := Lib.hid hK
    have H1 := Lib.hid (And.intro bS1 (And.intro hrow hB1))
    have hlt : w.heap.size < W.heap.size := bS1.lt
    clear hK bS1 hrow hB1
    unfold WV.arr
    gi_wp2
    exact HK.out _ _ ((KeepsOthers.alloc _ _).from _) (KeepsWalks.alloc _ _) ⟨⟨v, H1.out.1.alloc _, H1.out.2.1.alloc _, trivial⟩, H1.out.2.2.alloc H1.out.2.2.size _⟩ ⟨W.heap.size, hlt, Blk.new W WT _, rfl⟩
  case body =>
    rintro l pre x a' W hl ⟨r, hr⟩ ⟨⟨v, bS1, hrow, _⟩, hB1⟩ ⟨eb, heb, bX, rfl⟩ hlt
    have cB := bS1.cell
    have fB := bS1.frozen
    have x0 : W.cell? ⟨eb, 0, none⟩ = some (.int .i64 x.a) := bX.cell 0
    have x1 : W.cell? ⟨eb, 1, none⟩ = some (.int .i64 x.b) := bX.cell 1
    have x2 : W.cell? ⟨eb, 2, none⟩ = some (.int .i64 x.c) := bX.cell 2
    have x3 : W.cell? ⟨eb, 3, none⟩ = some (.bool x.p) := bX.cell 3
    have x4 : W.cell? ⟨eb, 4, none⟩ = some (.bool x.q) := bX.cell 4
    have x5 : W.cell? ⟨eb, 5, none⟩ = some (.bool x.r) := bX.cell 5
    have x6 : W.cell? ⟨eb, 6, none⟩ = some (.bool x.tn) := bX.cell 6
    have hsW := hB1.size
    have H1 := Lib.hid (And.intro bS1 (And.intro hrow hB1))
    clear bS1 hrow hB1 bX hr
    gi_wp2_with (first
      | (gi_at_builtin
         refine wpListIn_append_own _ rfl _ _ ST rfl w.heap.size WT i0 zeroW 7 32 Try.underlying94 HI.out.1 HI.out.2.1 HI.out.2.2.1 HI.out.2.2.2 rfl (by decide) _ _ _ rfl (H1.out.2.1.alloc _) ⟨W.heap.size, 0, none⟩ 1 1 x.cells rfl rfl (cell_one W x) (one_cell x) (by unfold maxLen; omega) (by omega) (by simp; omega) ?_
         intro v' w3 hown' hg3 _
         obtain ⟨g', cap', rfl⟩ := ownsRow_succ hown'
         obtain ⟨a1, a2, a3, a4, a5⟩ := H1.out.1.appended ne_ST H1.out.2.1 hsW (Nat.le_refl _) hown' hg3
         have ca := a1.cell
         have fa := a1.frozen
         have HA := Lib.hid (And.intro a2 (And.intro a3 (And.intro a4 a5)))
         clear a1 a2 a3 a4 a5 hown' hg3
         go_frame)
      | gi_in)
    refine ⟨HA.out.2.2.1.from _, HA.out.2.2.1.walks, ⟨⟨_, HA.out.1, ?_, trivial⟩, H1.out.2.2.trans HA.out.2.2.2⟩⟩
    rw [List.length_append, cellsL_snoc]
    exact HA.out.2.1
  case done =>
    rintro D ys W hD hS ⟨⟨v, bS1, hrow, _⟩, hB1⟩ hK
    have cB := bS1.cell
    have H1 := Lib.hid (And.intro hrow hB1)
    have HS := Lib.hid hS
    clear bS1 hrow hB1 hS
    gi_wp2
    refine ⟨by simp, .inl ⟨_, _, rfl, run_takeDeferred hK, ?_⟩⟩
    refine ⟨_, results_tmp rfl _ _ _, v, ys, rfl, HS.out, ownsRow_putObj H1.out.1 _ hK rfl, ?_⟩
    exact H1.out.2.trans (belowK_b (w := w) (Nat.le_refl _) W D _ _ (by simp at hD; omega) hK rfl rfl)
  case stop =>
    rintro D c pre W _ _ h _
    exact h.elim

theorem collect_any (Bm b : Nat) (ks : List WV) (w : World) (hBm : Bm < w.heap.size) (hm : w.cell? ⟨Bm, 0, none⟩ = some (.map (some b))) (hM : MapOf w b ks) (h6 : ks.length ≤ 6) :
    Calls Try.prog 85 #[.func (.func 87) #[] #[.pointer (some ⟨Bm, 0, none⟩)]] w fun e w' =>
      ∃ (v : Value) (ys : List WV), e = .returned v ∧ ys.Perm ks ∧ w'.ownsRow w.heap.size WT 7 v ys.length (cellsL ys) ∧ Below w.heap.size w w' := by
  have H := Lib.hid (appendSeq_any Bm b ks w hBm hm hM h6)
  clear hM hm
  go_enter Try.func85, Try.ntmps85
  go_wp2_with fail
  refine H.out.mono ?_
  rintro e w' ⟨v, ys, rfl, hp, hrow, hB⟩
  have HR := Lib.hid (And.intro hp (And.intro hrow hB))
  clear hp hrow hB
  go_wp2_with fail
  go_ret
  exact ⟨v, ys, rfl, HR.out⟩
end Go.Proofs.Ytaldgmmmcbikgaa.TurnAppend
