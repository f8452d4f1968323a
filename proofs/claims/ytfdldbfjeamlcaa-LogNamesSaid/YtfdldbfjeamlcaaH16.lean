/- Several texts joined: A region that draws its order and only reads, within a round of a range over a function: one walk in the text's order serves every order, as outside of a round. No conditions but those named. -/
import Derived.Sort.QuietIn
import Derived.StillTailTactics
import Derived.RangeFuncCalls
import Derived.Test.YtfdldbfjeamlcaaRows
import Derived.RangeFuncNested
import Derived.RangeFuncBound
import Derived.RangeFuncLeaves
import Derived.Shelf.Abstract
import Derived.Shelf.RegionOpen
import Derived.WalkKit
import Derived.OwnWalkIn
import Derived.TacticsInMore
import Derived.LoopNIn
import Derived.LoopIn
import Derived.Test.YtfdldbfjeamlcaaG1
import Derived.BigQuiet
import Derived.Deep.QuietTactic
import Derived.Lib.SliceRun
import Derived.Lib.OwnBridge
import Derived.Test.YtfdldbfjeamlcaaG4
import Derived.Deep.RegionLaw
import Derived.Lib.QuietBelow
/-! A region that draws its order and only reads, within a round of a range over a function: one walk in the text's order serves every order, as outside of a round. No conditions but those named. -/
namespace Go.Proofs.Ytfdldbfjeamlcaa.Round
set_option linter.unusedVariables false

theorem uponIn_round {F : Fence} {n : Nat} {P : Program} {o : Oper} {a : Act} {K : Act → World → Prop} {Q : Exit → Act → World → Prop} (l : Nat) {r : Result Next} (h : o.uponIn F n P a K Q r) : o.uponIn (F.inRound l) n P a K Q r := h
theorem wpOpIn_round {F : Fence} {n : Nat} {P : Program} {ops : Array Oper} {i : Nat} {a : Act} {w : World} {K K' : Act → World → Prop} {Q : Exit → Act → World → Prop} (l : Nat) (hro : F.round = none)
    (hd : ∀ (j : Nat) (o : Oper), ops[j]? = some o → ∀ c, o.op ≠ .defer c) (hK : ∀ a w, K a w → K' a w) (h : wpOpIn F n P ops Q i K a w) : wpOpIn (F.inRound l) n P ops Q i K' a w := by
  have h2 := wpOpIn_mono hK h
  unfold wpOpIn at h2 ⊢
  split
  · rename_i ho; simp only [ho] at h2; exact h2
  · rename_i o ho
    simp only [ho] at h2
    split
    · rename_i hw
      simp only [hw, if_true] at h2
      obtain ⟨ha, hu⟩ := h2
      refine ⟨ha, uponIn_round l ?_⟩
      have e1 : o.semAt F.round a.eval = execOp a.eval o := by rw [hro, Oper.semAt_none]
      have e2 : o.semAt (F.inRound l).round a.eval = execOp a.eval o := Oper.semAt_some l a.eval o (hd i o ho)
      rw [e1] at hu
      rw [e2]
      exact hu
    · rename_i hw; simp only [hw] at h2; exact h2
theorem wpAnyIn_round {F : Fence} {n : Nat} {P : Program} {md : Region.Mode} {ops : Array Oper} {Q : Exit → Act → World → Prop} (l : Nat) (hro : F.round = none)
    (hd : ∀ (j : Nat) (o : Oper), ops[j]? = some o → ∀ c, o.op ≠ .defer c) : ∀ (fuel : Nat) (listed : Array Bool) (a : Act) (w : World), wpAnyIn F n P md ops Q fuel listed a w → wpAnyIn (F.inRound l) n P md ops Q fuel listed a w
  | 0, _, _, _, h => h
  | fuel + 1, _, _, _, h => ⟨h.1, fun i hi => wpOpIn_round l hro hd (fun a w => wpAnyIn_round l hro hd fuel _ a w) (h.2 i hi)⟩

def noDeferB (ops : Array Oper) : Bool := ops.all fun o => match o.op with | .defer _ => false | _ => true
theorem noDefer_of {ops : Array Oper} (h : noDeferB ops = true) (j : Nat) (o : Oper) (ho : ops[j]? = some o) (c) : o.op ≠ .defer c := by
  unfold noDeferB at h
  rw [Array.all_eq_true'] at h
  have := h o (Array.mem_of_getElem? ho)
  intro e
  rw [e] at this
  cases this

theorem quiet_round {F : Fence} {n : Nat} {P : Program} {id : Nat} {Q : Exit → Act → World → Prop} {a : Act} {w : World} {l : List Oper} (lp : Nat) (hro : F.round = none) (hm : P.follows .mixedOrders = true) (hB : Region.lexB .any l.toArray = true) (hd : noDeferB l.toArray = true)
    (h : wpQuietIn F n P l.toArray (fun w' => ∃ n, w' = w.drewN n) (fun a' => ∀ w', (∃ n, w' = w.drewN n) → Q .normal a' w') l a) : (Code.region id l.toArray true).wpIn (F.inRound lp) n P Q a w := by
  simp only [Region.lexB, Bool.and_eq_true] at hB
  refine wpIn_region_any hm (wpAnyIn_round lp hro (noDefer_of hd) _ _ _ _ (wpAnyIn_of_quiet (C := fun w' => ∃ n, w' = w.drewN n) (Q := fun a' => ∀ w', (∃ n, w' = w.drewN n) → Q .normal a' w') hro (fun _ w' hw' h => h w' hw') _ _ _ _ ⟨1, rfl⟩ ?_))
  have := wpAnyQIn_lex (F := F) (n := n) (C := fun w' => ∃ n, w' = w.drewN n) (md := .any) hB.1 l.toArray.toList 0 (Array.replicate l.toArray.size false) a (by simp) (by simpa using hB.2) (by simpa using h)
  simpa using this

/-! From a region outside of any fence. -/
theorem uponIn_of_upon {n : Nat} {P : Program} {o : Oper} {a : Act} {K K' : Act → World → Prop} {Q : Exit → Act → World → Prop} (l : Nat) (hK : ∀ a w, K a w → K' a w) {r : Result Next} (h : o.upon P a K Q r) : o.uponIn (Fence.wide.inRound l) n P a K' Q r := by
  cases r with
  | ok x w' =>
    cases x with
    | value v => exact hK _ _ h
    | skip => exact hK _ _ h
    | defer d => exact hK _ _ h
    | enter f args =>
      refine ⟨fun hd => by simp [Fence.wide] at hd, CallsIn.inRound l (callsIn_wide.2 (Calls.mono h ?_))⟩
      intro e w'' he
      cases e with
      | returned v => exact hK _ _ he
      | panicked c => exact he
      | outgrown => exact he
    | row r args =>
      refine ⟨fun hd => by simp [Fence.wide] at hd, fun c cs _ => ?_⟩
      obtain ⟨v, w'', hr, hs⟩ := h c cs
      exact ⟨v, w'', hK _ _ hr, stepsIn_wide.2 hs⟩
    | _ => exact h.elim
  | halt x w' =>
    cases x with
    | panic v => exact h
    | _ => exact h.elim
theorem wpOpIn_of_wpOp {n : Nat} {P : Program} {ops : Array Oper} {i : Nat} {a : Act} {w : World} {K K' : Act → World → Prop} {Q : Exit → Act → World → Prop} (l : Nat) (hno : ¬ LetsOut Q)
    (hd : ∀ (j : Nat) (o : Oper), ops[j]? = some o → ∀ c, o.op ≠ .defer c) (hK : ∀ a w, K a w → K' a w) (h : wpOp P ops Q i K a w) : wpOpIn (Fence.wide.inRound l) n P ops Q i K' a w := by
  unfold wpOp at h
  unfold wpOpIn
  split
  · rename_i ho; simp only [ho] at h; exact hK _ _ h
  · rename_i o ho
    simp only [ho] at h
    split
    · rename_i hw
      simp only [hw, if_true] at h
      rcases h with h | h
      · refine ⟨fun _ _ => trivial, ?_⟩
        have e2 : o.semAt (Fence.wide.inRound l).round a.eval = execOp a.eval o := Oper.semAt_some l a.eval o (hd i o ho)
        rw [e2]
        exact uponIn_of_upon l hK h
      · exact absurd h.2 hno
    · rename_i hw; simp only [hw] at h; exact ⟨fun _ _ => trivial, hK _ _ h⟩
theorem wpAnyIn_of_wpAny {n : Nat} {P : Program} {md : Region.Mode} {ops : Array Oper} {Q : Exit → Act → World → Prop} (l : Nat) (hno : ¬ LetsOut Q)
    (hd : ∀ (j : Nat) (o : Oper), ops[j]? = some o → ∀ c, o.op ≠ .defer c) : ∀ (fuel : Nat) (listed : Array Bool) (a : Act) (w : World), wpAny P md ops Q fuel listed a w → wpAnyIn (Fence.wide.inRound l) n P md ops Q fuel listed a w
  | 0, _, _, _, h => h
  | fuel + 1, _, _, _, h => ⟨h.1, fun i hi => wpOpIn_of_wpOp l hno hd (fun a w => wpAnyIn_of_wpAny l hno hd fuel _ a w) (h.2 i hi)⟩

/-- Reads, then one operation more: in a round. -/
theorem still_round {n : Nat} {P : Program} {id : Nat} {Q : Exit → Act → World → Prop} {a : Act} {w : World} {l : List Oper} (lp : Nat) (k : Nat) (hno : ¬ LetsOut Q) (hm : P.follows .mixedOrders = true) (hB : Region.lexTailB .any l.toArray k = true) (hd : noDeferB l.toArray = true)
    (h : wpStill P l.toArray w.drew (fun a' => wpList P l.toArray Q (l.drop k) a' w.drew) (l.take k) a) : (Code.region id l.toArray true).wpIn (Fence.wide.inRound lp) n P Q a w := by
  simp only [Region.lexTailB, Bool.and_eq_true, decide_eq_true_eq] at hB
  obtain ⟨⟨⟨⟨hsel, hn⟩, hs⟩, hc⟩, hlex⟩ := hB
  have hn' : k < l.length := by simpa using hn
  have htl : (l.take k).length = k := by simp; omega
  have hdl : (l.drop k).length = l.toArray.size - k := by simp
  have inv0 : HeadInv .any l.toArray k (Array.replicate l.toArray.size false) :=
    ⟨by simp, fun j oj _ hl => (by rw [getD_replicate_false] at hl; cases hl), fun t _ ht => getD_in (by simpa using ht) (getD_replicate_false _ _)⟩
  have H := wpAnyL_lex (md := .any) (g := l.toArray.size - k) hsel hs hc hn (l.take k) 0 _ a (fun j hj => by
    have hj' : j < k := by rw [htl] at hj; exact hj
    simp [hj']) (by simpa using htl) inv0 (by rw [htl]; exact hlex) h
  refine wpIn_region_any hm (wpAnyIn_of_wpAny lp hno (noDefer_of hd) _ _ _ _ ?_)
  have := wpAny_of_head (Q' := Q) (g := l.toArray.size - k) (fun listed a' hL => by
    have := wpAny_of_seq (md := .any) (Q' := Q) (l.drop k) k listed a' { w with drawn := w.drawn + 1 } (fun j => by simp [List.getElem?_drop]) (by rw [hdl]; exact hL.1) hL.2
    rwa [hdl] at this) _ _ _ H
  rw [htl, show k + (l.toArray.size - k) = l.toArray.size by omega] at this
  exact this

/-- Reads, then one operation more: outside of a round, the draw folded. -/
theorem still_tail {P : Program} {id : Nat} {Q : Exit → Act → World → Prop} {a : Act} {w : World} {l : List Oper} (k : Nat) (hm : P.follows .mixedOrders = true) (hB : Region.lexTailB .any l.toArray k = true)
    (h : wpStill P l.toArray w.drew (fun a' => wpList P l.toArray Q (l.drop k) a' w.drew) (l.take k) a) : (Code.region id l.toArray true).wp P Q a w := wp_region_still_tail k hm hB h
end Go.Proofs.Ytfdldbfjeamlcaa.Round
/-! Small words for a caller of an iterator: a new box's cell, kept over new blocks. No conditions but those named. -/
namespace Go.Proofs.Ytfdldbfjeamlcaa.SeqKit
open Go.RowKit Go.Shelf Mem
set_option linter.unusedVariables false

theorem box_new (W : World) (v : Value) (t : TypeId) : (W.alloc (.cells #[v] t)).cell? ⟨W.heap.size, 0, none⟩ = some v ∧ (W.alloc (.cells #[v] t)).frozen? ⟨W.heap.size, 0, none⟩ = false :=
  ⟨(Blk.new W t #[v]).cell 0, (Blk.new W t #[v]).frozen 0⟩
theorem frozen_over {W : World} {a : Addr} {v : Value} (o : Obj) (h : W.cell? a = some v) (hf : W.frozen? a = false) : (W.alloc o).frozen? a = false := by
  have hlt : a.block < W.heap.size := by
    rcases Nat.lt_or_ge a.block W.heap.size with h1 | h1
    · exact h1
    · simp [World.cell?, Array.getElem?_eq_none h1] at h
  rw [← hf]; exact ((Below.refl a.block.succ W).alloc (by omega) o).frozen (p := a) (by omega)
end Go.Proofs.Ytfdldbfjeamlcaa.SeqKit
/-! bytes.Clone, bytes.Equal, log.Check, log.Twin, log.Same. -/
namespace Go.Proofs.Ytfdldbfjeamlcaa.LogProg
open Go.RowKit Mem LogMath
set_option linter.unusedVariables false
set_option linter.unusedSimpArgs false

theorem byte_info : (Try.prog.info? 5).map (fun i => (i.zero, i.size, i.bytes)) = some (some (.int .u8 0), 1, 1) := by kernel_rfl
theorem one_cells (t : List Int) : ∀ u ∈ t.map (Value.int .u8), u.oneCell' = true := fun u hu => by
  obtain ⟨n, _, rfl⟩ := List.mem_map.1 hu
  rfl
set_option maxRecDepth 100000 in
set_option maxHeartbeats 4000000 in
/-- bytes.Clone. -/
theorem bclone (X : Option Addr) (cap : Nat) (t : List Int) (hl : t.length ≤ 140737488355328) (w : World) (hX : TAt w X t) :
    Calls Try.prog 64 #[.slice X t.length cap] w fun e w' => ∃ X' c', e = .returned (.slice X' t.length c') ∧ TOwn w' w.heap.size (.slice X' t.length c') t ∧ Below w.heap.size w w' := by
  have u : ∀ w, Sem.run Try.prog (underlying 37) w = .ok (TypeDesc.slice 5) w := run_underlying Try.underlying37
  have q : ∀ (w : World) (a : Option Addr) (n c n' c' : Nat), (binOp .eql 37 (.slice a n c) (.slice none n' c')).run Try.prog w = .ok (.bool a.isNone) w := fun w a n c n' c' => Lib.run_eql_slice_nil w _ _ a n c n' c' Try.underlying37
  cases X with
  | none =>
    obtain rfl : t = [] := by
      cases t with
      | nil => rfl
      | cons x t =>
        obtain ⟨_, _, h, _⟩ := hX 0 x rfl
        cases h
    clear hX
    go_enter Try.func64, Try.ntmps64
    go_wp2_with fail
    go_ret
    exact ⟨none, 0, rfl, World.ownsRow_nil _ _ _ _, Below.refl _ _⟩
  | some a =>
    have hr := hX.reads
    obtain ⟨i0, hi0, hz0, hz1, hz2⟩ := info_parts byte_info
    have HR := Lib.hid (And.intro (hr.alloc (Nat.le_refl _) (.cells #[] 5)) (And.intro (one_cells t) (And.intro hi0 (And.intro hz0 (And.intro hz1 hz2)))))
    clear hr hi0 hz0 hz1 hz2 hX
    go_enter Try.func64, Try.ntmps64
    go_wp2_with (at_builtin; refine wpList_append_any _ rfl (.tmp 5) (.tmp 6) _ rfl w.heap.size 5 i0 (.int .u8 0) 1 1 Try.underlying37 HR.out.2.2.1 HR.out.2.2.2.1 HR.out.2.2.2.2.1 HR.out.2.2.2.2.2 rfl (by decide) _ _ _ rfl (World.ownsRow_made w #[] 0 (Nat.le_refl _) (Nat.zero_le _) (by simp)) w.heap.size (some a) t.length cap (t.map (Value.int .u8)) rfl HR.out.1 HR.out.2.1 (by simp only [maxLen]; omega) (by omega) (by simp) ?_; intro v1 w1 hown hg hat; have HO := Lib.hid (And.intro hown hg); clear hown hg hat)
    go_ret
    have hB1 : Below w.heap.size w w1 := (below_alloc (Below.refl _ w)).grown HO.out.2 (by simp) (by intro k hk; cases hk; exact Nat.le_refl _)
    have ho : w1.ownsRow w.heap.size 5 1 v1 t.length (t.map (Value.int .u8)) := by have := HO.out.1; simpa using this
    have hx : ∃ Y c, v1 = .slice Y t.length c := by
      rcases ho.2 with ⟨rfl, e0⟩ | ⟨g, cap', cur, rfl, _⟩
      · exact ⟨none, 0, by rw [e0]⟩
      · exact ⟨_, cap', rfl⟩
    obtain ⟨Y, c, rfl⟩ := hx
    exact ⟨Y, c, rfl, ho, hB1⟩
set_option maxHeartbeats 2000000 in
/-- bytes.Equal. -/
theorem bequal (X : Option Addr) (ca : Nat) (t : List Int) (Y : Option Addr) (cb : Nat) (u : List Int) (w : World) (hX : TAt w X t) (hY : TAt w Y u) :
    Calls Try.prog 65 #[.slice X t.length ca, .slice Y u.length cb] w fun e w' => e = .returned (.bool ((strOf t).toList == (strOf u).toList)) ∧ w' = w := by
  have k1 := run_strOf (c := ca) hX.reads
  have k2 := run_strOf (c := cb) hY.reads
  clear hX hY
  go_enter Try.func65, Try.ntmps65
  go_wp2_with fail
  go_ret
  exact ⟨rfl, rfl⟩
theorem check_ok {x y : AV} (h : mayL ⟨x, y⟩ = true) : checkL ⟨x, y⟩ = 0 := by unfold checkL; rw [h]; rfl
theorem check_bad {x y : AV} (h : mayL ⟨x, y⟩ = false) : checkL ⟨x, y⟩ = 8 := by unfold checkL; rw [h]; rfl
theorem mayL_a {x y : AV} (h : mayA x = false) : mayL ⟨x, y⟩ = false := by unfold mayL; rw [h]; rfl
theorem mayL_b {x y : AV} (h : mayA y = false) : mayL ⟨x, y⟩ = false := by unfold mayL; rw [h]; simp
theorem mayL_ok {x y : AV} (h : mayA x = true) (h2 : mayA y = true) : mayL ⟨x, y⟩ = true := by unfold mayL; rw [h, h2]; rfl
theorem mayA_1 {x : AV} (h : (262144 : Int) < x.t.length) : mayA x = false := by unfold mayA; rw [decide_eq_false (by omega)]; rfl
theorem mayA_2 {x : AV} (h : x.k < 0) : mayA x = false := by unfold mayA; rw [decide_eq_false (show ¬ 0 ≤ x.k by omega)]; simp
theorem mayA_3 {x : AV} (h : (x.t.length : Int) < x.k) : mayA x = false := by unfold mayA; rw [decide_eq_false (show ¬ x.k ≤ (x.t.length : Int) by omega)]; simp
theorem mayA_4 {x : AV} (h1 : ¬ (262144 : Int) < x.t.length) (h2 : ¬ x.k < 0) (h3 : ¬ (x.t.length : Int) < x.k) : mayA x = true := by unfold mayA; rw [decide_eq_true (by omega), decide_eq_true (by omega), decide_eq_true (by omega)]; rfl
set_option maxRecDepth 100000 in
set_option maxHeartbeats 4000000 in
/-- log.Check. -/
theorem lCheck (x y : AV) (X : Option Addr) (ca : Nat) (Y : Option Addr) (cb : Nat) (w : World) :
    Calls Try.prog 33 #[.agg #[.slice X x.t.length ca, .int .i64 x.k, .slice Y y.t.length cb, .int .i64 y.k]] w fun e w' => e = .returned (.int .i64 (checkL ⟨x, y⟩)) ∧ Below w.heap.size w w' := by
  have i0 : ∀ w, (Instr.index 68 (.agg #[.slice X x.t.length ca, .int .i64 x.k, .slice Y y.t.length cb, .int .i64 y.k]) (.int .i64 0)).run Try.prog w = .ok (.agg #[.slice X x.t.length ca, .int .i64 x.k]) w := fun _ => by kernel_rfl
  have i1 : ∀ w, (Instr.index 68 (.agg #[.slice X x.t.length ca, .int .i64 x.k, .slice Y y.t.length cb, .int .i64 y.k]) (.int .i64 1)).run Try.prog w = .ok (.agg #[.slice Y y.t.length cb, .int .i64 y.k]) w := fun _ => by kernel_rfl
  go_enter Try.func33, Try.ntmps33
  go_wp2_with fail
  go_loopw [4, 7] (fun v i wr => ∃ k : Nat, k ≤ 2 ∧ i = .int .i64 k ∧ Hid ((0 < k → mayA x = true) ∧ (1 < k → mayA y = true)) ∧ Hid (Below w.heap.size w wr))
    (fun _ i _ => 2 - (intOf i).toNat)
  case atStart => exact ⟨0, by omega, rfl, ⟨(fun h => by omega), (fun h => by omega)⟩, below_alloc (Below.refl _ _)⟩
  case round =>
    obtain ⟨k, hk, rfl, hp, hB⟩ := hrel
    match k, hk with
    | 0, _ =>
      by_cases h1 : (262144 : Int) < x.t.length
      · go_wp2_with fail
        go_ret
        exact ⟨by rw [check_bad (mayL_a (mayA_1 h1))]; rfl, below_alloc hB.out⟩
      · by_cases h2 : x.k < 0
        · go_wp2_with fail
          go_ret
          exact ⟨by rw [check_bad (mayL_a (mayA_2 h2))]; rfl, below_alloc hB.out⟩
        · by_cases h3 : (x.t.length : Int) < x.k
          · go_wp2_with fail
            go_ret
            exact ⟨by rw [check_bad (mayL_a (mayA_3 h3))]; rfl, below_alloc hB.out⟩
          · go_wp2_with fail
            go_roundw
            case rel => exact ⟨1, by omega, rfl, ⟨(fun _ => mayA_4 h1 h2 h3), (fun h => by omega)⟩, below_alloc hB.out⟩
            case measure => simp [intOf]
    | 1, _ =>
      by_cases h1 : (262144 : Int) < y.t.length
      · go_wp2_with fail
        go_ret
        exact ⟨by rw [check_bad (mayL_b (mayA_1 h1))]; rfl, below_alloc hB.out⟩
      · by_cases h2 : y.k < 0
        · go_wp2_with fail
          go_ret
          exact ⟨by rw [check_bad (mayL_b (mayA_2 h2))]; rfl, below_alloc hB.out⟩
        · by_cases h3 : (y.t.length : Int) < y.k
          · go_wp2_with fail
            go_ret
            exact ⟨by rw [check_bad (mayL_b (mayA_3 h3))]; rfl, below_alloc hB.out⟩
          · go_wp2_with fail
            go_roundw
            case rel => exact ⟨2, by omega, rfl, ⟨(fun _ => hp.out.1 (by omega)), (fun _ => mayA_4 h1 h2 h3)⟩, below_alloc hB.out⟩
            case measure => simp [intOf]
    | 2, _ =>
      go_wp2_with fail
      go_ret
      exact ⟨by rw [check_ok (mayL_ok (hp.out.1 (by omega)) (hp.out.2 (by omega)))]; rfl, hB.out⟩
/-- Two areas are the same. -/
def sameA (x y : AV) : Bool := (x.k == y.k) && ((strOf x.t).toList == (strOf y.t).toList)
def sameL (l m : LV) : Bool := sameA l.a m.a && sameA l.b m.b
theorem sameA_self (x : AV) : sameA x x = true := by unfold sameA; simp
theorem sameL_self (l : LV) : sameL l l = true := by unfold sameL; rw [sameA_self, sameA_self]; rfl
set_option maxRecDepth 100000 in
set_option maxHeartbeats 4000000 in
/-- log.Same. -/
theorem lSame (x y : AV) (X : Option Addr) (ca : Nat) (Y : Option Addr) (cb : Nat) (x' y' : AV) (X' : Option Addr) (ca' : Nat) (Y' : Option Addr) (cb' : Nat) (w : World) (hX : TAt w X x.t) (hY : TAt w Y y.t) (hX' : TAt w X' x'.t) (hY' : TAt w Y' y'.t) :
    Calls Try.prog 36 #[.agg #[.slice X x.t.length ca, .int .i64 x.k, .slice Y y.t.length cb, .int .i64 y.k], .agg #[.slice X' x'.t.length ca', .int .i64 x'.k, .slice Y' y'.t.length cb', .int .i64 y'.k]] w fun e w' => e = .returned (.bool (sameL ⟨x, y⟩ ⟨x', y'⟩)) ∧ Below w.heap.size w w' := by
  have i0 : ∀ w, (Instr.index 68 (.agg #[.slice X x.t.length ca, .int .i64 x.k, .slice Y y.t.length cb, .int .i64 y.k]) (.int .i64 0)).run Try.prog w = .ok (.agg #[.slice X x.t.length ca, .int .i64 x.k]) w := fun _ => by kernel_rfl
  have i1 : ∀ w, (Instr.index 68 (.agg #[.slice X x.t.length ca, .int .i64 x.k, .slice Y y.t.length cb, .int .i64 y.k]) (.int .i64 1)).run Try.prog w = .ok (.agg #[.slice Y y.t.length cb, .int .i64 y.k]) w := fun _ => by kernel_rfl
  have HX := Lib.hid (And.intro (And.intro hX hY) (And.intro hX' hY'))
  clear hX hY hX' hY'
  go_enter Try.func36, Try.ntmps36
  go_wp2_with fail
  go_loopw [5, 6, 7, 10] (fun _ _ _ i wr => ∃ k : Nat, k ≤ 2 ∧ i = .int .i64 k ∧ Hid ((0 < k → sameA x x' = true) ∧ (1 < k → sameA y y' = true)) ∧ Hid (Below w.heap.size w wr) ∧ wr.cell? ⟨w.heap.size + 1, 0, none⟩ = some (.slice X' x'.t.length ca') ∧ wr.cell? ⟨w.heap.size + 1, 1, none⟩ = some (.int .i64 x'.k) ∧ wr.cell? ⟨w.heap.size + 1, 2, none⟩ = some (.slice Y' y'.t.length cb') ∧ wr.cell? ⟨w.heap.size + 1, 3, none⟩ = some (.int .i64 y'.k))
    (fun _ _ _ i _ => 2 - (intOf i).toNat)
  case atStart => exact ⟨0, by omega, rfl, ⟨(fun h => by omega), (fun h => by omega)⟩, below_alloc (below_alloc (Below.refl _ _)), box1 _ _ _ 0, box1 _ _ _ 1, box1 _ _ _ 2, box1 _ _ _ 3⟩
  case round =>
    obtain ⟨k, hk, rfl, hp, hB, y0, y1, y2, y3⟩ := hrel
    have hs0 : w.heap.size + 1 < wr.heap.size := cell_lt y0
    match k, hk with
    | 0, _ =>
      by_cases h1 : x.k = x'.k
      · have e1 : (x.k != x'.k) = false := by simpa using h1
        have H1 := Lib.hid h1
        clear h1
        go_wp2_with fail
        refine (bequal _ _ x.t _ _ x'.t _ ((HX.out.1.1.up hB.out).up (below_alloc (below_alloc (Below.refl _ _)))) ((HX.out.2.1.up hB.out).up (below_alloc (below_alloc (Below.refl _ _))))).mono ?_
        rintro e w' ⟨rfl, rfl⟩
        cases h2 : ((strOf x.t).toList == (strOf x'.t).toList)
        · go_wp2_with fail
          go_ret
          exact ⟨by rw [show sameL ⟨x, y⟩ ⟨x', y'⟩ = false from by unfold sameL; rw [show sameA x x' = false from by unfold sameA; rw [h2]; simp]; rfl]; rfl, below_alloc (below_alloc hB.out)⟩
        · go_wp2_with fail
          go_roundw
          case rel => exact ⟨1, by omega, rfl, ⟨(fun _ => by unfold sameA; rw [h2, H1.out]; simp), (fun h => by omega)⟩, below_alloc (below_alloc hB.out), cell_over _ (cell_over _ y0), cell_over _ (cell_over _ y1), cell_over _ (cell_over _ y2), cell_over _ (cell_over _ y3)⟩
          case measure => simp [intOf]
      · have e1 : (x.k != x'.k) = true := by simpa using h1
        have H1 := Lib.hid h1
        clear h1
        go_wp2_with fail
        go_ret
        exact ⟨by rw [show sameL ⟨x, y⟩ ⟨x', y'⟩ = false from by unfold sameL; rw [show sameA x x' = false from by unfold sameA; rw [show (x.k == x'.k) = false from by simpa using H1.out]; rfl]; rfl]; rfl, below_alloc (below_alloc hB.out)⟩
    | 1, _ =>
      by_cases h1 : y.k = y'.k
      · have e1 : (y.k != y'.k) = false := by simpa using h1
        have H1 := Lib.hid h1
        clear h1
        go_wp2_with fail
        refine (bequal _ _ y.t _ _ y'.t _ ((HX.out.1.2.up hB.out).up (below_alloc (below_alloc (Below.refl _ _)))) ((HX.out.2.2.up hB.out).up (below_alloc (below_alloc (Below.refl _ _))))).mono ?_
        rintro e w' ⟨rfl, rfl⟩
        cases h2 : ((strOf y.t).toList == (strOf y'.t).toList)
        · go_wp2_with fail
          go_ret
          exact ⟨by rw [show sameL ⟨x, y⟩ ⟨x', y'⟩ = false from by unfold sameL; rw [show sameA y y' = false from by unfold sameA; rw [h2]; simp]; simp]; rfl, below_alloc (below_alloc hB.out)⟩
        · go_wp2_with fail
          go_roundw
          case rel => exact ⟨2, by omega, rfl, ⟨(fun _ => hp.out.1 (by omega)), (fun _ => by unfold sameA; rw [h2, H1.out]; simp)⟩, below_alloc (below_alloc hB.out), cell_over _ (cell_over _ y0), cell_over _ (cell_over _ y1), cell_over _ (cell_over _ y2), cell_over _ (cell_over _ y3)⟩
          case measure => simp [intOf]
      · have e1 : (y.k != y'.k) = true := by simpa using h1
        have H1 := Lib.hid h1
        clear h1
        go_wp2_with fail
        go_ret
        exact ⟨by rw [show sameL ⟨x, y⟩ ⟨x', y'⟩ = false from by unfold sameL; rw [show sameA y y' = false from by unfold sameA; rw [show (y.k == y'.k) = false from by simpa using H1.out]; rfl]; simp]; rfl, below_alloc (below_alloc hB.out)⟩
    | 2, _ =>
      go_wp2_with fail
      go_ret
      exact ⟨by rw [show sameL ⟨x, y⟩ ⟨x', y'⟩ = true from by unfold sameL; rw [hp.out.1 (by omega), hp.out.2 (by omega)]; rfl]; rfl, hB.out⟩
/-- What Twin's box holds before its round k. -/
def TwRel (x y : AV) (X : Option Addr) (ca : Nat) (Y : Option Addr) (cb : Nat) (B g : Nat) (k : Nat) (w : World) : Prop :=
  (k = 0 ∧ Blk w g 70 #[.slice X x.t.length ca, .int .i64 x.k, .slice Y y.t.length cb, .int .i64 y.k]) ∨
  (k = 1 ∧ ∃ X' ca', TOwn w B (.slice X' x.t.length ca') x.t ∧ Blk w g 70 #[.slice X' x.t.length ca', .int .i64 x.k, .slice Y y.t.length cb, .int .i64 y.k]) ∨
  (k = 2 ∧ ∃ X' ca' Y' cb', TOwn w B (.slice X' x.t.length ca') x.t ∧ TOwn w B (.slice Y' y.t.length cb') y.t ∧ (∀ b, (Value.slice X' x.t.length ca').ownBlock = some b → (Value.slice Y' y.t.length cb').ownBlock ≠ some b) ∧ Blk w g 70 #[.slice X' x.t.length ca', .int .i64 x.k, .slice Y' y.t.length cb', .int .i64 y.k])
set_option maxRecDepth 100000 in
set_option maxHeartbeats 4000000 in
/-- log.Twin: a log's copy, in memory of its own. -/
theorem lTwin (x y : AV) (X : Option Addr) (ca : Nat) (Y : Option Addr) (cb : Nat) (hx : x.t.length ≤ 140737488355328) (hy : y.t.length ≤ 140737488355328) (w : World) (hX : TAt w X x.t) (hY : TAt w Y y.t) :
    Calls Try.prog 32 #[.agg #[.slice X x.t.length ca, .int .i64 x.k, .slice Y y.t.length cb, .int .i64 y.k]] w fun e w' => ∃ X' ca' Y' cb', e = .returned (.agg #[.slice X' x.t.length ca', .int .i64 x.k, .slice Y' y.t.length cb', .int .i64 y.k]) ∧ TOwn w' (w.heap.size) (.slice X' x.t.length ca') x.t ∧ TOwn w' (w.heap.size) (.slice Y' y.t.length cb') y.t ∧
      (∀ b, (Value.slice X' x.t.length ca').ownBlock = some b → (Value.slice Y' y.t.length cb').ownBlock ≠ some b) ∧ Below w.heap.size w w' := by
  have HX := Lib.hid (And.intro hX hY)
  clear hX hY
  go_enter Try.func32, Try.ntmps32
  go_wp2_with fail
  go_loopw [3, 4] (fun _ i wr => ∃ k : Nat, k ≤ 2 ∧ i = .int .i64 k ∧ Hid (TwRel x y X ca Y cb (w.heap.size + 1 + 1) w.heap.size k wr) ∧ Hid (Below w.heap.size w wr) ∧ Hid (Blk wr (w.heap.size + 1) 70 #[.slice none 0 0, .int .i64 0, .slice none 0 0, .int .i64 0]) ∧ w.heap.size + 1 < wr.heap.size)
    (fun _ i _ => 2 - (intOf i).toNat)
  case atStart => exact ⟨0, by omega, rfl, .inl ⟨rfl, (Blk.new _ _ _).alloc _⟩, below_alloc (below_alloc (Below.refl _ _)), blk1 _ _ _, by simp⟩
  case round =>
    obtain ⟨k, hk, rfl, hR, hB, yr, hsz⟩ := hrel
    have HRR := yr
    clear yr
    rcases hR.out with ⟨rfl, hK⟩ | ⟨rfl, X', ca', hO, hK⟩ | ⟨rfl, X', ca', Y', cb', hO, hO2, hne, hK⟩
    · have HK := Lib.hid hK
      have y0 : wr.cell? ⟨w.heap.size, 0, none⟩ = some (.slice X x.t.length ca) := HK.out.cell 0
      have y1 : wr.cell? ⟨w.heap.size, 1, none⟩ = some (.int .i64 x.k) := HK.out.cell 1
      have y2 : wr.cell? ⟨w.heap.size, 2, none⟩ = some (.slice Y y.t.length cb) := HK.out.cell 2
      have y3 : wr.cell? ⟨w.heap.size, 3, none⟩ = some (.int .i64 y.k) := HK.out.cell 3
      have hs0 : w.heap.size < wr.heap.size := cell_lt y0
      have HC := Lib.hid (bclone X ca x.t hx wr (HX.out.1.up hB.out))
      clear hK hR
      go_wp2_with fail
      refine HC.out.mono ?_
      rintro e w2 ⟨X', ca', rfl, hO2, hB2⟩
      have hK2 := HK.out.below hB2 HK.out.lt
      have z0 := hK2.cell 0
      have fz := hK2.frozen 0
      simp only [List.getElem?_toArray, List.getElem?_cons_zero, List.getElem?_cons_succ] at z0
      have H2 := Lib.hid (And.intro hO2 (And.intro hB2 hK2))
      clear hO2 hB2 hK2 y0 y1 y2 y3 HC
      go_wp2_with fail
      go_roundw
      case measure => simp [intOf]
      have hK3 : Blk (w2.setCell ⟨w.heap.size, 0, none⟩ (.slice X' x.t.length ca')) w.heap.size 70 #[.slice X' x.t.length ca', .int .i64 x.k, .slice Y y.t.length cb, .int .i64 y.k] := H2.out.2.2.set_ 0 _
      have hO3 := Go.RowKit.ownsRow_setCell_below H2.out.1 (a := ⟨w.heap.size, 0, none⟩) (by show w.heap.size < wr.heap.size; omega) (.slice X' x.t.length ca')
      have hB3 := (below_up hB.out H2.out.2.1).setCell (p := ⟨w.heap.size, 0, none⟩) (Nat.le_refl _) (.slice X' x.t.length ca')
      have hr3 := (HRR.out.below H2.out.2.1 HRR.out.lt).far (p := ⟨w.heap.size, 0, none⟩) (by simp) (.slice X' x.t.length ca')
      exact ⟨1, by omega, rfl, .inr (.inl ⟨rfl, X', ca', ownsRow_less hO3 (by omega), hK3⟩), hB3, hr3, by have := H2.out.2.1.size; simp; omega⟩
    · have HO := Lib.hid hO
      clear hO
      have HK := Lib.hid hK
      have y0 : wr.cell? ⟨w.heap.size, 0, none⟩ = some (.slice X' x.t.length ca') := HK.out.cell 0
      have y1 : wr.cell? ⟨w.heap.size, 1, none⟩ = some (.int .i64 x.k) := HK.out.cell 1
      have y2 : wr.cell? ⟨w.heap.size, 2, none⟩ = some (.slice Y y.t.length cb) := HK.out.cell 2
      have y3 : wr.cell? ⟨w.heap.size, 3, none⟩ = some (.int .i64 y.k) := HK.out.cell 3
      have hs0 : w.heap.size < wr.heap.size := cell_lt y0
      have HC := Lib.hid (bclone Y cb y.t hy wr (HX.out.2.up hB.out))
      clear hK hR
      go_wp2_with fail
      refine HC.out.mono ?_
      rintro e w2 ⟨Y', cb', rfl, hO2, hB2⟩
      have hK2 := HK.out.below hB2 HK.out.lt
      have z2 := hK2.cell 2
      have fz := hK2.frozen 2
      simp only [List.getElem?_toArray, List.getElem?_cons_zero, List.getElem?_cons_succ] at z2
      have H2 := Lib.hid (And.intro hO2 (And.intro hB2 hK2))
      clear hO2 hB2 hK2 y0 y1 y2 y3 HC
      go_wp2_with fail
      go_roundw
      case measure => simp [intOf]
      have hK3 : Blk (w2.setCell ⟨w.heap.size, 2, none⟩ (.slice Y' y.t.length cb')) w.heap.size 70 #[.slice X' x.t.length ca', .int .i64 x.k, .slice Y' y.t.length cb', .int .i64 y.k] := H2.out.2.2.set_ 2 _
      have hO3 := Go.RowKit.ownsRow_setCell_below H2.out.1 (a := ⟨w.heap.size, 2, none⟩) (by show w.heap.size < wr.heap.size; omega) (.slice Y' y.t.length cb')
      have hB3 := (below_up hB.out H2.out.2.1).setCell (p := ⟨w.heap.size, 2, none⟩) (Nat.le_refl _) (.slice Y' y.t.length cb')
      have hr3 := (HRR.out.below H2.out.2.1 HRR.out.lt).far (p := ⟨w.heap.size, 2, none⟩) (by simp) (.slice Y' y.t.length cb')
      have hO4 := Go.RowKit.ownsRow_setCell_below (ownsRow_up HO.out H2.out.2.1) (a := ⟨w.heap.size, 2, none⟩) (by show w.heap.size < w.heap.size + 1 + 1; omega) (.slice Y' y.t.length cb')
      exact ⟨2, by omega, rfl, .inr (.inr ⟨rfl, X', ca', Y', cb', ownsRow_less hO4 (by omega), ownsRow_less hO3 (by omega), (fun b h1 h2 => by have q1 := HO.out.lt b h1; have q2 := hO3.lt b h2; omega), hK3⟩), hB3, hr3, by have := H2.out.2.1.size; simp; omega⟩
    · have HK := Lib.hid hK
      have y0 : wr.cell? ⟨w.heap.size, 0, none⟩ = some (.slice X' x.t.length ca') := HK.out.cell 0
      have y1 : wr.cell? ⟨w.heap.size, 1, none⟩ = some (.int .i64 x.k) := HK.out.cell 1
      have y2 : wr.cell? ⟨w.heap.size, 2, none⟩ = some (.slice Y' y.t.length cb') := HK.out.cell 2
      have y3 : wr.cell? ⟨w.heap.size, 3, none⟩ = some (.int .i64 y.k) := HK.out.cell 3
      have HO := Lib.hid (And.intro hO (And.intro hO2 hne))
      have hs0 : w.heap.size < wr.heap.size := cell_lt y0
      clear hK hR hO hO2 hne
      have yb := HRR.out
      have yr0 := yb.cell 0
      have yr1 := yb.cell 1
      have yr2 := yb.cell 2
      have yr3 := yb.cell 3
      have yf0 := yb.frozen 0
      have yf1 := yb.frozen 1
      have yf2 := yb.frozen 2
      have yf3 := yb.frozen 3
      simp only [List.getElem?_toArray, List.getElem?_cons_zero, List.getElem?_cons_succ] at yr0 yr1 yr2 yr3
      clear yb
      go_wp2_with fail
      have hK4 := W4.blk HRR.out (.slice X' x.t.length ca') (.int .i64 x.k) (.slice Y' y.t.length cb') (.int .i64 y.k)
      have hB4 := W4.below (g := w.heap.size + 1) hB.out (by omega) (.slice X' x.t.length ca') (.int .i64 x.k) (.slice Y' y.t.length cb') (.int .i64 y.k)
      have hO4 := W4.own (g := w.heap.size + 1) HO.out.1 (own_ne HO.out.1 (by omega)) (.slice X' x.t.length ca') (.int .i64 x.k) (.slice Y' y.t.length cb') (.int .i64 y.k)
      have hP4 := W4.own (g := w.heap.size + 1) HO.out.2.1 (own_ne HO.out.2.1 (by omega)) (.slice X' x.t.length ca') (.int .i64 x.k) (.slice Y' y.t.length cb') (.int .i64 y.k)
      have hN4 := HO.out.2.2
      rw [show ((((wr.setCell ⟨w.heap.size + 1, 0, none⟩ (.slice X' x.t.length ca')).setCell ⟨w.heap.size + 1, 1, none⟩ (.int .i64 x.k)).setCell ⟨w.heap.size + 1, 2, none⟩ (.slice Y' y.t.length cb')).setCell ⟨w.heap.size + 1, 3, none⟩ (.int .i64 y.k)) = W4 wr (w.heap.size + 1) (.slice X' x.t.length ca') (.int .i64 x.k) (.slice Y' y.t.length cb') (.int .i64 y.k) from rfl]
      generalize W4 wr (w.heap.size + 1) (.slice X' x.t.length ca') (.int .i64 x.k) (.slice Y' y.t.length cb') (.int .i64 y.k) = w4 at *
      clear HRR hB HX HK HO yr0 yr1 yr2 yr3 yf0 yf1 yf2 yf3 y0 y1 y2 y3
      have c0 := hK4.cell 0
      have c1 := hK4.cell 1
      have c2 := hK4.cell 2
      have c3 := hK4.cell 3
      simp only [List.getElem?_toArray, List.getElem?_cons_zero, List.getElem?_cons_succ] at c0 c1 c2 c3
      exact bodyPost_ret (v := .agg #[.slice X' x.t.length ca', .int .i64 x.k, .slice Y' y.t.length cb', .int .i64 y.k]) (by simp [results, Try.results32, go_sem, c0, c1, c2, c3]) rfl ⟨X', ca', Y', cb', rfl, ownsRow_less hO4 (by omega), ownsRow_less hP4 (by omega), hN4, hB4⟩
end Go.Proofs.Ytfdldbfjeamlcaa.LogProg
/-! The reference: areas, logs, acts are checked; great logs. -/
namespace Go.Proofs.Ytfdldbfjeamlcaa.LogRef1
open Go.RowKit Mem LogMath LogProg
set_option linter.unusedVariables false
set_option linter.unusedSimpArgs false

set_option maxHeartbeats 2000000 in
theorem rArea (x : AV) (X : Option Addr) (ca : Nat) (w : World) :
    Calls Try.prog 95 #[.agg #[.slice X x.t.length ca, .int .i64 x.k]] w fun e w' => e = .returned (.bool (mayA x)) ∧ Below w.heap.size w w' := by
  have hm : mayA x = (decide ((x.t.length : Int) ≤ 262144) && (decide (0 ≤ x.k) && decide (x.k ≤ (x.t.length : Int)))) := rfl
  have HM := Lib.hid hm
  clear hm
  by_cases h1 : (x.t.length : Int) ≤ 262144
  · by_cases h2 : 0 ≤ x.k
    · by_cases h3 : x.k ≤ (x.t.length : Int)
      · go_enter Try.func95, Try.ntmps95
        go_wp2_with fail
        go_ret
        exact ⟨by rw [HM.out, decide_eq_true h1, decide_eq_true h2, decide_eq_true h3]; rfl, below_alloc (Below.refl _ _)⟩
      · go_enter Try.func95, Try.ntmps95
        go_wp2_with fail
        go_ret
        exact ⟨by rw [HM.out, decide_eq_true h1, decide_eq_true h2, decide_eq_false (show ¬ x.k ≤ (x.t.length : Int) by omega)]; rfl, below_alloc (Below.refl _ _)⟩
    · go_enter Try.func95, Try.ntmps95
      go_wp2_with fail
      go_ret
      exact ⟨by rw [HM.out, decide_eq_true h1, decide_eq_false (show ¬ 0 ≤ x.k by omega)]; rfl, below_alloc (Below.refl _ _)⟩
  · go_enter Try.func95, Try.ntmps95
    go_wp2_with fail
    go_ret
    exact ⟨by rw [HM.out, decide_eq_false (show ¬ (x.t.length : Int) ≤ 262144 by omega)]; rfl, below_alloc (Below.refl _ _)⟩
set_option maxHeartbeats 2000000 in
theorem rMay (x y : AV) (X : Option Addr) (ca : Nat) (Y : Option Addr) (cb : Nat) (w : World) :
    Calls Try.prog 60 #[.agg #[.slice X x.t.length ca, .int .i64 x.k, .slice Y y.t.length cb, .int .i64 y.k]] w fun e w' => e = .returned (.bool (mayL ⟨x, y⟩)) ∧ Below w.heap.size w w' := by
  cases hx : mayA x
  · go_enter Try.func60, Try.ntmps60
    go_wp2_with fail
    refine (rArea x X ca _).mono ?_
    rintro e w1 ⟨rfl, hB1⟩
    rw [hx]
    have HB := Lib.hid (below_up (below_alloc (Below.refl _ _)) hB1)
    clear hB1
    go_wp2_with fail
    go_ret
    exact ⟨by rw [mayL_a hx]; rfl, HB.out⟩
  · go_enter Try.func60, Try.ntmps60
    go_wp2_with fail
    refine (rArea x X ca _).mono ?_
    rintro e w1 ⟨rfl, hB1⟩
    rw [hx]
    have hb := (Blk.new w 70 #[.slice X x.t.length ca, .int .i64 x.k, .slice Y y.t.length cb, .int .i64 y.k]).below hB1 (by simp)
    have y0 : w1.cell? ⟨w.heap.size, 0, none⟩ = some (.slice X x.t.length ca) := hb.cell 0
    have y1 : w1.cell? ⟨w.heap.size, 1, none⟩ = some (.int .i64 x.k) := hb.cell 1
    have y2 : w1.cell? ⟨w.heap.size, 2, none⟩ = some (.slice Y y.t.length cb) := hb.cell 2
    have y3 : w1.cell? ⟨w.heap.size, 3, none⟩ = some (.int .i64 y.k) := hb.cell 3
    have HB := Lib.hid (below_up (below_alloc (Below.refl _ _)) hB1)
    clear hB1 hb
    go_wp2_with fail
    refine (rArea y Y cb _).mono ?_
    rintro e w2 ⟨rfl, hB2⟩
    have HB2 := Lib.hid (below_up HB.out hB2)
    clear hB2
    go_wp2_with fail
    go_ret
    exact ⟨by rw [show mayL ⟨x, y⟩ = mayA y from by unfold mayL; rw [hx]; rfl]; rfl, HB2.out⟩
set_option maxHeartbeats 2000000 in
theorem rCheck (x y : AV) (X : Option Addr) (ca : Nat) (Y : Option Addr) (cb : Nat) (w : World) :
    Calls Try.prog 34 #[.agg #[.slice X x.t.length ca, .int .i64 x.k, .slice Y y.t.length cb, .int .i64 y.k]] w fun e w' => e = .returned (.int .i64 (checkL ⟨x, y⟩)) ∧ Below w.heap.size w w' := by
  have hc : checkL ⟨x, y⟩ = if mayL ⟨x, y⟩ then 0 else 8 := rfl
  have HC := Lib.hid hc
  clear hc
  go_enter Try.func34, Try.ntmps34
  go_wp2_with fail
  refine (rMay x y X ca Y cb _).mono ?_
  rintro e w1 ⟨rfl, hB1⟩
  have HB := Lib.hid (below_up (below_alloc (Below.refl _ _)) hB1)
  clear hB1
  generalize mayL ⟨x, y⟩ = m at *
  cases m
  · go_wp2_with fail
    go_ret
    exact ⟨by rw [HC.out]; rfl, HB.out⟩
  · go_wp2_with fail
    go_ret
    exact ⟨by rw [HC.out]; rfl, HB.out⟩
def greatL (x y : AV) : Bool := decide ((300000 : Int) < x.t.length) || decide ((300000 : Int) < y.t.length)
set_option maxHeartbeats 2000000 in
theorem rGreat (x y : AV) (X : Option Addr) (ca : Nat) (Y : Option Addr) (cb : Nat) (w : World) :
    Calls Try.prog 26 #[.agg #[.slice X x.t.length ca, .int .i64 x.k, .slice Y y.t.length cb, .int .i64 y.k]] w fun e w' => e = .returned (.bool (greatL x y)) ∧ Below w.heap.size w w' := by
  have hg : greatL x y = (decide ((300000 : Int) < x.t.length) || decide ((300000 : Int) < y.t.length)) := rfl
  have HG := Lib.hid hg
  clear hg
  by_cases h1 : (300000 : Int) < x.t.length
  · go_enter Try.func26, Try.ntmps26
    go_wp2_with fail
    go_ret
    exact ⟨by rw [HG.out, decide_eq_true h1]; rfl, below_alloc (Below.refl _ _)⟩
  · by_cases h2 : (300000 : Int) < y.t.length
    · go_enter Try.func26, Try.ntmps26
      go_wp2_with fail
      go_ret
      exact ⟨by rw [HG.out, decide_eq_false (show ¬ (300000 : Int) < x.t.length by omega), decide_eq_true h2]; rfl, below_alloc (Below.refl _ _)⟩
    · go_enter Try.func26, Try.ntmps26
      go_wp2_with fail
      go_ret
      exact ⟨by rw [HG.out, decide_eq_false (show ¬ (300000 : Int) < x.t.length by omega), decide_eq_false (show ¬ (300000 : Int) < y.t.length by omega)]; rfl, below_alloc (Below.refl _ _)⟩
set_option maxHeartbeats 4000000 in
theorem rMayAct (kd ar : Int) (T : Option Addr) (ct : Nat) (tx : List Int) (w : World) :
    Calls Try.prog 61 #[.agg #[.int .u8 kd, .int .i64 ar, .slice T tx.length ct]] w fun e w' => e = .returned (.bool (mayAct kd ar tx)) ∧ Below w.heap.size w w' := by
  have hg : mayAct kd ar tx = ((decide (ar = 0) || decide (ar = 1)) && (decide (kd = 2) || ((decide (kd = 1) || decide (kd = 3)) && decide (tx.length = 0)))) := rfl
  have HG := Lib.hid hg
  clear hg
  by_cases a0 : ar = 0 ∨ ar = 1
  · have HG2 : Hid (mayAct kd ar tx = (decide (kd = 2) || ((decide (kd = 1) || decide (kd = 3)) && decide (tx.length = 0)))) := by
      have h := HG.out
      rw [show (decide (ar = 0) || decide (ar = 1)) = true from by rcases a0 with h | h <;> simp [h], Bool.true_and] at h
      exact h
    clear HG
    by_cases k2 : kd = 2
    · subst k2
      rcases a0 with rfl | rfl
      all_goals
        go_enter Try.func61, Try.ntmps61
        go_wp2_with fail
        go_ret
        exact ⟨by rw [HG2.out]; rfl, below_alloc (Below.refl _ _)⟩
    · have e2 : (kd == 2) = false := by simpa using k2
      by_cases k1 : kd = 1 ∨ kd = 3
      · by_cases h0 : tx.length = 0
        · have e0 : ((tx.length : Int) == 0) = true := by rw [beq_iff_eq]; omega
          rcases a0 with rfl | rfl <;> rcases k1 with rfl | rfl
          all_goals
            go_enter Try.func61, Try.ntmps61
            go_wp2_with fail
            go_ret
            exact ⟨by rw [HG2.out, decide_eq_true h0]; rfl, below_alloc (Below.refl _ _)⟩
        · have e0 : ((tx.length : Int) == 0) = false := by rw [beq_eq_false_iff_ne]; omega
          rcases a0 with rfl | rfl <;> rcases k1 with rfl | rfl
          all_goals
            go_enter Try.func61, Try.ntmps61
            go_wp2_with fail
            go_ret
            exact ⟨by rw [HG2.out, decide_eq_false h0]; rfl, below_alloc (Below.refl _ _)⟩
      · have e1 : (kd == 1) = false := by rw [beq_eq_false_iff_ne]; exact fun h => k1 (.inl h)
        have e3 : (kd == 3) = false := by rw [beq_eq_false_iff_ne]; exact fun h => k1 (.inr h)
        have HG3 : Hid (mayAct kd ar tx = false) := by
          have h := HG2.out
          rw [decide_eq_false k2, decide_eq_false (fun h => k1 (.inl h)), decide_eq_false (fun h => k1 (.inr h))] at h
          exact h
        clear HG2 k1 k2
        rcases a0 with rfl | rfl
        all_goals
          go_enter Try.func61, Try.ntmps61
          go_wp2_with fail
          go_ret
          exact ⟨by rw [HG3.out]; rfl, below_alloc (Below.refl _ _)⟩
  · have b0 : (ar != 0) = true := by simpa using fun h => a0 (.inl h)
    have b1 : (ar != 1) = true := by simpa using fun h => a0 (.inr h)
    have HG2 : Hid (mayAct kd ar tx = false) := by
      have h := HG.out
      rw [decide_eq_false (fun h => a0 (.inl h)), decide_eq_false (fun h => a0 (.inr h))] at h
      exact h
    clear HG a0
    go_enter Try.func61, Try.ntmps61
    go_wp2_with fail
    go_ret
    exact ⟨by rw [HG2.out]; rfl, below_alloc (Below.refl _ _)⟩
end Go.Proofs.Ytfdldbfjeamlcaa.LogRef1
/-! The reference: Same, Twin. -/
namespace Go.Proofs.Ytfdldbfjeamlcaa.LogRef2
open Go.RowKit Mem LogMath LogProg LogRef1
open Go.Sort (grow)
set_option linter.unusedVariables false
set_option linter.unusedSimpArgs false

set_option maxRecDepth 100000 in
set_option maxHeartbeats 4000000 in
/-- The reference's Same. -/
theorem rSame (x y : AV) (X : Option Addr) (ca : Nat) (Y : Option Addr) (cb : Nat) (x' y' : AV) (X' : Option Addr) (ca' : Nat) (Y' : Option Addr) (cb' : Nat) (w : World) (hX : TAt w X x.t) (hY : TAt w Y y.t) (hX' : TAt w X' x'.t) (hY' : TAt w Y' y'.t) :
    Calls Try.prog 35 #[.agg #[.slice X x.t.length ca, .int .i64 x.k, .slice Y y.t.length cb, .int .i64 y.k], .agg #[.slice X' x'.t.length ca', .int .i64 x'.k, .slice Y' y'.t.length cb', .int .i64 y'.k]] w fun e w' => e = .returned (.bool (sameL ⟨x, y⟩ ⟨x', y'⟩)) ∧ Below w.heap.size w w' := by
  have HX := Lib.hid (And.intro (And.intro hX hY) (And.intro hX' hY'))
  clear hX hY hX' hY'
  go_enter Try.func35, Try.ntmps35
  go_wp2_with fail
  go_loopw [5] (fun i wr => ∃ k : Nat, k ≤ 2 ∧ i = .int .i64 k ∧ Hid ((0 < k → sameA x x' = true) ∧ (1 < k → sameA y y' = true)) ∧ Hid (Below w.heap.size w wr) ∧ Hid (Blk wr w.heap.size 70 #[.slice X x.t.length ca, .int .i64 x.k, .slice Y y.t.length cb, .int .i64 y.k]) ∧ Hid (Blk wr (w.heap.size + 1) 70 #[.slice X' x'.t.length ca', .int .i64 x'.k, .slice Y' y'.t.length cb', .int .i64 y'.k]))
    (fun i _ => 2 - (intOf i).toNat)
  case atStart => exact ⟨0, by omega, rfl, ⟨(fun h => by omega), (fun h => by omega)⟩, below_alloc (below_alloc (Below.refl _ _)), (Blk.new _ _ _).alloc _, blk1 _ _ _⟩
  case round =>
    obtain ⟨k, hk, rfl, hp, hB, hA, hA'⟩ := hrel
    match k, hk with
    | 0, _ =>
      have p0 : wr.cell? ⟨w.heap.size, 0, none⟩ = some (.slice X x.t.length ca) := hA.out.cell 0
      have p1 : wr.cell? ⟨w.heap.size, 1, none⟩ = some (.int .i64 x.k) := hA.out.cell 1
      have p2 : wr.cell? ⟨w.heap.size + 1, 0, none⟩ = some (.slice X' x'.t.length ca') := hA'.out.cell 0
      have p3 : wr.cell? ⟨w.heap.size + 1, 1, none⟩ = some (.int .i64 x'.k) := hA'.out.cell 1
      have t1 := Lib.hid (TAt.up HX.out.1.1 hB.out)
      have t2 := Lib.hid (TAt.up HX.out.2.1 hB.out)
      by_cases h1 : x.k = x'.k
      · have e1 : (x.k != x'.k) = false := by simpa using h1
        have H1 := Lib.hid h1
        clear h1
        cases h2 : ((strOf x.t).toList == (strOf x'.t).toList)
        · have e2 : ((strOf x.t).toList != (strOf x'.t).toList) = true := by simp only [bne, h2]; rfl
          go_wp2_with fail
          have kq0 := cell_regrown p0
          have kq1 := cell_regrown p1
          have kq2 := cell_regrown p2
          have kq3 := cell_regrown p3
          have kv0 := fun (dq : _) (osq : _) => run_strOf (c := ca) (TAt.reads (TAt.up t1.out (below_regrown wr dq osq)))
          have kv1 := fun (dq : _) (osq : _) => run_strOf (c := ca') (TAt.reads (TAt.up t2.out (below_regrown wr dq osq)))
          refine wp_region_quiet_below (by kernel_rfl) (by kernel_rfl) ?_
          repeat (go_big_quiet_step (first | fail))
          refine wpQuiet_nil ?_
          intro _ hw'
          obtain ⟨⟨dq, osq⟩, hw''⟩ := hw'
          subst hw''
          have hBq := below_regrown wr dq osq
          clear kq0 kq1 kq2 kq3 kv0 kv1
          generalize grow (redrawn wr dq) osq = w2 at *
          have HB2 := Lib.hid (below_up hB.out hBq)
          have HA2 := Lib.hid (hA.out.below hBq hA.out.lt)
          have HA3 := Lib.hid (hA'.out.below hBq hA'.out.lt)
          clear hBq hB hA hA' p0 p1 p2 p3 t1 t2
          go_wp2_with fail
          go_ret
          exact ⟨by rw [show sameL ⟨x, y⟩ ⟨x', y'⟩ = false from by unfold sameL; rw [show sameA x x' = false from by unfold sameA; rw [h2]; simp]; rfl]; rfl, HB2.out⟩
        · have e2 : ((strOf x.t).toList != (strOf x'.t).toList) = false := by simp only [bne, h2]; rfl
          go_wp2_with fail
          have kq0 := cell_regrown p0
          have kq1 := cell_regrown p1
          have kq2 := cell_regrown p2
          have kq3 := cell_regrown p3
          have kv0 := fun (dq : _) (osq : _) => run_strOf (c := ca) (TAt.reads (TAt.up t1.out (below_regrown wr dq osq)))
          have kv1 := fun (dq : _) (osq : _) => run_strOf (c := ca') (TAt.reads (TAt.up t2.out (below_regrown wr dq osq)))
          refine wp_region_quiet_below (by kernel_rfl) (by kernel_rfl) ?_
          repeat (go_big_quiet_step (first | fail))
          refine wpQuiet_nil ?_
          intro _ hw'
          obtain ⟨⟨dq, osq⟩, hw''⟩ := hw'
          subst hw''
          have hBq := below_regrown wr dq osq
          clear kq0 kq1 kq2 kq3 kv0 kv1
          generalize grow (redrawn wr dq) osq = w2 at *
          have HB2 := Lib.hid (below_up hB.out hBq)
          have HA2 := Lib.hid (hA.out.below hBq hA.out.lt)
          have HA3 := Lib.hid (hA'.out.below hBq hA'.out.lt)
          clear hBq hB hA hA' p0 p1 p2 p3 t1 t2
          go_wp2_with fail
          go_roundw
          case rel => exact ⟨1, by omega, rfl, ⟨(fun _ => by unfold sameA; rw [h2, H1.out]; simp), (fun h => by omega)⟩, HB2.out, HA2.out, HA3.out⟩
          case measure => simp [intOf]
      · have e1 : (x.k != x'.k) = true := by simpa using h1
        have H1 := Lib.hid h1
        clear h1
        go_wp2_with fail
        have kq0 := cell_regrown p0
        have kq1 := cell_regrown p1
        have kq2 := cell_regrown p2
        have kq3 := cell_regrown p3
        refine wp_region_quiet_below (by kernel_rfl) (by kernel_rfl) ?_
        repeat (go_big_quiet_step (first | fail))
        refine wpQuiet_nil ?_
        intro _ hw'
        obtain ⟨⟨dq, osq⟩, hw''⟩ := hw'
        subst hw''
        have hBq := below_regrown wr dq osq
        clear kq0 kq1 kq2 kq3
        generalize grow (redrawn wr dq) osq = w2 at *
        have HB2 := Lib.hid (below_up hB.out hBq)
        have HA2 := Lib.hid (hA.out.below hBq hA.out.lt)
        have HA3 := Lib.hid (hA'.out.below hBq hA'.out.lt)
        clear hBq hB hA hA' p0 p1 p2 p3 t1 t2
        go_wp2_with fail
        go_ret
        exact ⟨by rw [show sameL ⟨x, y⟩ ⟨x', y'⟩ = false from by unfold sameL; rw [show sameA x x' = false from by unfold sameA; rw [show (x.k == x'.k) = false from by simpa using H1.out]; rfl]; rfl]; rfl, HB2.out⟩
    | 1, _ =>
      have p0 : wr.cell? ⟨w.heap.size, 2, none⟩ = some (.slice Y y.t.length cb) := hA.out.cell 2
      have p1 : wr.cell? ⟨w.heap.size, 3, none⟩ = some (.int .i64 y.k) := hA.out.cell 3
      have p2 : wr.cell? ⟨w.heap.size + 1, 2, none⟩ = some (.slice Y' y'.t.length cb') := hA'.out.cell 2
      have p3 : wr.cell? ⟨w.heap.size + 1, 3, none⟩ = some (.int .i64 y'.k) := hA'.out.cell 3
      have t1 := Lib.hid (TAt.up HX.out.1.2 hB.out)
      have t2 := Lib.hid (TAt.up HX.out.2.2 hB.out)
      by_cases h1 : y.k = y'.k
      · have e1 : (y.k != y'.k) = false := by simpa using h1
        have H1 := Lib.hid h1
        clear h1
        cases h2 : ((strOf y.t).toList == (strOf y'.t).toList)
        · have e2 : ((strOf y.t).toList != (strOf y'.t).toList) = true := by simp only [bne, h2]; rfl
          go_wp2_with fail
          have kq0 := cell_regrown p0
          have kq1 := cell_regrown p1
          have kq2 := cell_regrown p2
          have kq3 := cell_regrown p3
          have kv0 := fun (dq : _) (osq : _) => run_strOf (c := cb) (TAt.reads (TAt.up t1.out (below_regrown wr dq osq)))
          have kv1 := fun (dq : _) (osq : _) => run_strOf (c := cb') (TAt.reads (TAt.up t2.out (below_regrown wr dq osq)))
          refine wp_region_quiet_below (by kernel_rfl) (by kernel_rfl) ?_
          repeat (go_big_quiet_step (first | fail))
          refine wpQuiet_nil ?_
          intro _ hw'
          obtain ⟨⟨dq, osq⟩, hw''⟩ := hw'
          subst hw''
          have hBq := below_regrown wr dq osq
          clear kq0 kq1 kq2 kq3 kv0 kv1
          generalize grow (redrawn wr dq) osq = w2 at *
          have HB2 := Lib.hid (below_up hB.out hBq)
          have HA2 := Lib.hid (hA.out.below hBq hA.out.lt)
          have HA3 := Lib.hid (hA'.out.below hBq hA'.out.lt)
          clear hBq hB hA hA' p0 p1 p2 p3 t1 t2
          go_wp2_with fail
          go_ret
          exact ⟨by rw [show sameL ⟨x, y⟩ ⟨x', y'⟩ = false from by unfold sameL; rw [show sameA y y' = false from by unfold sameA; rw [h2]; simp]; simp]; rfl, HB2.out⟩
        · have e2 : ((strOf y.t).toList != (strOf y'.t).toList) = false := by simp only [bne, h2]; rfl
          go_wp2_with fail
          have kq0 := cell_regrown p0
          have kq1 := cell_regrown p1
          have kq2 := cell_regrown p2
          have kq3 := cell_regrown p3
          have kv0 := fun (dq : _) (osq : _) => run_strOf (c := cb) (TAt.reads (TAt.up t1.out (below_regrown wr dq osq)))
          have kv1 := fun (dq : _) (osq : _) => run_strOf (c := cb') (TAt.reads (TAt.up t2.out (below_regrown wr dq osq)))
          refine wp_region_quiet_below (by kernel_rfl) (by kernel_rfl) ?_
          repeat (go_big_quiet_step (first | fail))
          refine wpQuiet_nil ?_
          intro _ hw'
          obtain ⟨⟨dq, osq⟩, hw''⟩ := hw'
          subst hw''
          have hBq := below_regrown wr dq osq
          clear kq0 kq1 kq2 kq3 kv0 kv1
          generalize grow (redrawn wr dq) osq = w2 at *
          have HB2 := Lib.hid (below_up hB.out hBq)
          have HA2 := Lib.hid (hA.out.below hBq hA.out.lt)
          have HA3 := Lib.hid (hA'.out.below hBq hA'.out.lt)
          clear hBq hB hA hA' p0 p1 p2 p3 t1 t2
          go_wp2_with fail
          go_roundw
          case rel => exact ⟨2, by omega, rfl, ⟨(fun _ => hp.out.1 (by omega)), (fun _ => by unfold sameA; rw [h2, H1.out]; simp)⟩, HB2.out, HA2.out, HA3.out⟩
          case measure => simp [intOf]
      · have e1 : (y.k != y'.k) = true := by simpa using h1
        have H1 := Lib.hid h1
        clear h1
        go_wp2_with fail
        have kq0 := cell_regrown p0
        have kq1 := cell_regrown p1
        have kq2 := cell_regrown p2
        have kq3 := cell_regrown p3
        refine wp_region_quiet_below (by kernel_rfl) (by kernel_rfl) ?_
        repeat (go_big_quiet_step (first | fail))
        refine wpQuiet_nil ?_
        intro _ hw'
        obtain ⟨⟨dq, osq⟩, hw''⟩ := hw'
        subst hw''
        have hBq := below_regrown wr dq osq
        clear kq0 kq1 kq2 kq3
        generalize grow (redrawn wr dq) osq = w2 at *
        have HB2 := Lib.hid (below_up hB.out hBq)
        have HA2 := Lib.hid (hA.out.below hBq hA.out.lt)
        have HA3 := Lib.hid (hA'.out.below hBq hA'.out.lt)
        clear hBq hB hA hA' p0 p1 p2 p3 t1 t2
        go_wp2_with fail
        go_ret
        exact ⟨by rw [show sameL ⟨x, y⟩ ⟨x', y'⟩ = false from by unfold sameL; rw [show sameA y y' = false from by unfold sameA; rw [show (y.k == y'.k) = false from by simpa using H1.out]; rfl]; simp]; rfl, HB2.out⟩
    | 2, _ =>
      go_wp2_with fail
      go_ret
      exact ⟨by rw [show sameL ⟨x, y⟩ ⟨x', y'⟩ = true from by unfold sameL; rw [hp.out.1 (by omega), hp.out.2 (by omega)]; rfl]; rfl, hB.out⟩
/-- A row of bytes is a slice. -/
theorem own_slice {w : World} {B n : Nat} {v : Value} {xs : List Value} (h : w.ownsRow B 5 1 v n xs) : ∃ Y c, v = .slice Y n c := by
  rcases h.2 with ⟨rfl, e0⟩ | ⟨g, cap', cur, rfl, _⟩
  · exact ⟨none, 0, by rw [e0]⟩
  · exact ⟨_, cap', rfl⟩
/-- What the reference's Twin has made before its round k. -/
def RtRel (x y : AV) (B g : Nat) (k : Nat) (w : World) : Prop :=
  (k = 0 ∧ Blk w g 70 #[.slice none 0 0, .int .i64 0, .slice none 0 0, .int .i64 0]) ∨
  (k = 1 ∧ ∃ X' ca', TOwn w B (.slice X' x.t.length ca') x.t ∧ Blk w g 70 #[.slice X' x.t.length ca', .int .i64 x.k, .slice none 0 0, .int .i64 0]) ∨
  (k = 2 ∧ ∃ X' ca' Y' cb', TOwn w B (.slice X' x.t.length ca') x.t ∧ TOwn w B (.slice Y' y.t.length cb') y.t ∧ (∀ b, (Value.slice X' x.t.length ca').ownBlock = some b → (Value.slice Y' y.t.length cb').ownBlock ≠ some b) ∧ Blk w g 70 #[.slice X' x.t.length ca', .int .i64 x.k, .slice Y' y.t.length cb', .int .i64 y.k])
set_option maxRecDepth 100000 in
set_option maxHeartbeats 4000000 in
/-- The reference's Twin. -/
theorem rTwin (x y : AV) (X : Option Addr) (ca : Nat) (Y : Option Addr) (cb : Nat) (hx : x.t.length ≤ 140737488355328) (hy : y.t.length ≤ 140737488355328) (w : World) (hX : TAt w X x.t) (hY : TAt w Y y.t) :
    Calls Try.prog 27 #[.agg #[.slice X x.t.length ca, .int .i64 x.k, .slice Y y.t.length cb, .int .i64 y.k]] w fun e w' => ∃ X' ca' Y' cb', e = .returned (.agg #[.slice X' x.t.length ca', .int .i64 x.k, .slice Y' y.t.length cb', .int .i64 y.k]) ∧ TOwn w' (w.heap.size) (.slice X' x.t.length ca') x.t ∧ TOwn w' (w.heap.size) (.slice Y' y.t.length cb') y.t ∧
      (∀ b, (Value.slice X' x.t.length ca').ownBlock = some b → (Value.slice Y' y.t.length cb').ownBlock ≠ some b) ∧ Below w.heap.size w w' := by
  obtain ⟨i0, hi0, hz0, hz1, hz2⟩ := info_parts byte_info
  have HI := Lib.hid (And.intro hi0 (And.intro hz0 (And.intro hz1 hz2)))
  have HX := Lib.hid (And.intro hX hY)
  clear hX hY hi0 hz0 hz1 hz2
  go_enter Try.func27, Try.ntmps27
  go_wp2_with fail
  go_loopw [4] (fun i wr => ∃ k : Nat, k ≤ 2 ∧ i = .int .i64 k ∧ Hid (RtRel x y (w.heap.size + 1 + 1 + 1) (w.heap.size + 1 + 1) k wr) ∧ Hid (Below w.heap.size w wr) ∧ Hid (Blk wr w.heap.size 70 #[.slice X x.t.length ca, .int .i64 x.k, .slice Y y.t.length cb, .int .i64 y.k]) ∧ Hid (Blk wr (w.heap.size + 1) 70 #[.slice none 0 0, .int .i64 0, .slice none 0 0, .int .i64 0]))
    (fun i _ => 2 - (intOf i).toNat)
  case atStart => exact ⟨0, by omega, rfl, .inl ⟨rfl, blk2 _ _ _⟩, below_alloc (below_alloc (below_alloc (Below.refl _ _))), ((Blk.new _ _ _).alloc _).alloc _, (blk1 _ _ _).alloc _⟩
  case round =>
    obtain ⟨k, hk, rfl, hR, hB, hA, hZ⟩ := hrel
    rcases hR.out with ⟨rfl, hK⟩ | ⟨rfl, X', ca', hO, hK⟩ | ⟨rfl, X', ca', Y', cb', hO, hO2, hne, hK⟩
    · have HK := Lib.hid hK
      have p1 : wr.cell? ⟨w.heap.size, 1, none⟩ = some (.int .i64 x.k) := hA.out.cell 1
      have q1 : wr.cell? ⟨w.heap.size + 1 + 1, 1, none⟩ = some (.int .i64 0) := HK.out.cell 1
      have fz1 := HK.out.frozen 1
      have hs3 : w.heap.size + 1 + 1 < wr.heap.size := cell_lt q1
      clear hR hK
      go_wp2_with fail
      have hK2 : Blk (wr.setCell ⟨w.heap.size + 1 + 1, 1, none⟩ (.int .i64 x.k)) (w.heap.size + 1 + 1) 70 #[.slice none 0 0, .int .i64 x.k, .slice none 0 0, .int .i64 0] := HK.out.set_ 1 _
      have hA2 : Blk (wr.setCell ⟨w.heap.size + 1 + 1, 1, none⟩ (.int .i64 x.k)) w.heap.size 70 #[.slice X x.t.length ca, .int .i64 x.k, .slice Y y.t.length cb, .int .i64 y.k] := hA.out.far (by simp <;> omega) _
      have hZ2 : Blk (wr.setCell ⟨w.heap.size + 1 + 1, 1, none⟩ (.int .i64 x.k)) (w.heap.size + 1) 70 #[.slice none 0 0, .int .i64 0, .slice none 0 0, .int .i64 0] := hZ.out.far (by simp) _
      have hB2 := hB.out.setCell (p := ⟨w.heap.size + 1 + 1, 1, none⟩) (by show w.heap.size ≤ w.heap.size + 1 + 1; omega) (.int .i64 x.k)
      have hs2 : w.heap.size + 1 + 1 < (wr.setCell ⟨w.heap.size + 1 + 1, 1, none⟩ (.int .i64 x.k)).heap.size := by simpa using hs3
      clear p1 q1 fz1 hB hA hZ HK
      generalize wr.setCell ⟨w.heap.size + 1 + 1, 1, none⟩ (.int .i64 x.k) = w1 at *
      have p0 : w1.cell? ⟨w.heap.size, 0, none⟩ = some (.slice X x.t.length ca) := hA2.cell 0
      have q0 : w1.cell? ⟨w.heap.size + 1 + 1, 0, none⟩ = some (.slice none 0 0) := hK2.cell 0
      have fz0 := hK2.frozen 0
      have t1 := Lib.hid (TAt.up HX.out.1 hB2)
      have H2 := Lib.hid (And.intro hK2 (And.intro hA2 (And.intro hZ2 (And.intro hB2 hs2))))
      clear hK2 hA2 hZ2 hB2
      go_region_law (refine step_append_any _ rfl (.tmp 23) (.tmp 28) _ rfl (w.heap.size + 1 + 1 + 1) 5 i0 (.int .u8 0) 1 1 Try.underlying37 HI.out.1 HI.out.2.1 HI.out.2.2.1 HI.out.2.2.2 rfl (by decide) (.slice none 0 0) 0 [] (by simp [Act.eval, Act.put]) (World.ownsRow_nil _ _ _ _) w1.heap.size X x.t.length ca (x.t.map (Value.int .u8)) (by simp [Act.eval, Act.put]) (Reads.drew t1.out.reads) (one_cells x.t) (by simp only [maxLen]; omega) (by omega) (by show _ ≤ w1.heap.size; omega) ?_; intro v3 w3 hown hg hat; rw [Nat.zero_add, List.nil_append] at hown; obtain ⟨X', ca', rfl⟩ := own_slice hown; have hK3 := H2.out.1.drew.grown hg (by simp [Value.ownBlock]); have q3 : w3.cell? ⟨w.heap.size + 1 + 1, 0, none⟩ = some (.slice none 0 0) := hK3.cell 0; have f3 := hK3.frozen 0; have H3 := Lib.hid (And.intro hown (And.intro hg (And.intro hat hK3))); clear hown hg hat hK3 q0 fz0)
      all_goals
        go_wp2_with fail
        go_roundw
        case measure => simp [intOf]
        have hK4 : Blk (w3.setCell ⟨w.heap.size + 1 + 1, 0, none⟩ (.slice X' x.t.length ca')) (w.heap.size + 1 + 1) 70 #[.slice X' x.t.length ca', .int .i64 x.k, .slice none 0 0, .int .i64 0] := H3.out.2.2.2.set_ 0 _
        have hO4 := Go.RowKit.ownsRow_setCell_below H3.out.1 (a := ⟨w.heap.size + 1 + 1, 0, none⟩) (by show w.heap.size + 1 + 1 < w.heap.size + 1 + 1 + 1; omega) (.slice X' x.t.length ca')
        have hB4 := (H2.out.2.2.2.1.drew.grown H3.out.2.1 (by have := H2.out.2.2.2.1.size; simpa using this) (fun j hj => by simp [Value.ownBlock] at hj)).setCell (p := ⟨w.heap.size + 1 + 1, 0, none⟩) (by show w.heap.size ≤ w.heap.size + 1 + 1; omega) (.slice X' x.t.length ca')
        have hA4 := (H2.out.2.1.drew.grown H3.out.2.1 (by simp [Value.ownBlock])).far (p := ⟨w.heap.size + 1 + 1, 0, none⟩) (by simp <;> omega) (.slice X' x.t.length ca')
        have hZ4 := (H2.out.2.2.1.drew.grown H3.out.2.1 (by simp [Value.ownBlock])).far (p := ⟨w.heap.size + 1 + 1, 0, none⟩) (by simp) (.slice X' x.t.length ca')
        exact ⟨1, by omega, rfl, .inr (.inl ⟨rfl, X', ca', hO4, hK4⟩), hB4, hA4, hZ4⟩
    · have HO := Lib.hid hO
      clear hO
      have HK := Lib.hid hK
      have p1 : wr.cell? ⟨w.heap.size, 3, none⟩ = some (.int .i64 y.k) := hA.out.cell 3
      have q1 : wr.cell? ⟨w.heap.size + 1 + 1, 3, none⟩ = some (.int .i64 0) := HK.out.cell 3
      have fz1 := HK.out.frozen 3
      have hs3 : w.heap.size + 1 + 1 < wr.heap.size := cell_lt q1
      clear hR hK
      go_wp2_with fail
      have hK2 : Blk (wr.setCell ⟨w.heap.size + 1 + 1, 3, none⟩ (.int .i64 y.k)) (w.heap.size + 1 + 1) 70 #[.slice X' x.t.length ca', .int .i64 x.k, .slice none 0 0, .int .i64 y.k] := HK.out.set_ 3 _
      have hA2 : Blk (wr.setCell ⟨w.heap.size + 1 + 1, 3, none⟩ (.int .i64 y.k)) w.heap.size 70 #[.slice X x.t.length ca, .int .i64 x.k, .slice Y y.t.length cb, .int .i64 y.k] := hA.out.far (by simp <;> omega) _
      have hZ2 : Blk (wr.setCell ⟨w.heap.size + 1 + 1, 3, none⟩ (.int .i64 y.k)) (w.heap.size + 1) 70 #[.slice none 0 0, .int .i64 0, .slice none 0 0, .int .i64 0] := hZ.out.far (by simp) _
      have hB2 := hB.out.setCell (p := ⟨w.heap.size + 1 + 1, 3, none⟩) (by show w.heap.size ≤ w.heap.size + 1 + 1; omega) (.int .i64 y.k)
      have hs2 : w.heap.size + 1 + 1 < (wr.setCell ⟨w.heap.size + 1 + 1, 3, none⟩ (.int .i64 y.k)).heap.size := by simpa using hs3
      have hO2 : TOwn (wr.setCell ⟨w.heap.size + 1 + 1, 3, none⟩ (.int .i64 y.k)) (w.heap.size + 1 + 1 + 1) (.slice X' x.t.length ca') x.t := Go.RowKit.ownsRow_setCell_below HO.out (by show w.heap.size + 1 + 1 < w.heap.size + 1 + 1 + 1; omega) _
      clear p1 q1 fz1 hB hA hZ HK HO
      generalize wr.setCell ⟨w.heap.size + 1 + 1, 3, none⟩ (.int .i64 y.k) = w1 at *
      have p0 : w1.cell? ⟨w.heap.size, 2, none⟩ = some (.slice Y y.t.length cb) := hA2.cell 2
      have q0 : w1.cell? ⟨w.heap.size + 1 + 1, 2, none⟩ = some (.slice none 0 0) := hK2.cell 2
      have fz0 := hK2.frozen 2
      have t1 := Lib.hid (TAt.up HX.out.2 hB2)
      have H2 := Lib.hid (And.intro hK2 (And.intro hA2 (And.intro hZ2 (And.intro hB2 hs2))))
      have HO2 := Lib.hid hO2
      clear hK2 hA2 hZ2 hB2 hO2
      go_region_law (refine step_append_any _ rfl (.tmp 23) (.tmp 28) _ rfl (w.heap.size + 1 + 1 + 1) 5 i0 (.int .u8 0) 1 1 Try.underlying37 HI.out.1 HI.out.2.1 HI.out.2.2.1 HI.out.2.2.2 rfl (by decide) (.slice none 0 0) 0 [] (by simp [Act.eval, Act.put]) (World.ownsRow_nil _ _ _ _) w1.heap.size Y y.t.length cb (y.t.map (Value.int .u8)) (by simp [Act.eval, Act.put]) (Reads.drew t1.out.reads) (one_cells y.t) (by simp only [maxLen]; omega) (by omega) (by show _ ≤ w1.heap.size; omega) ?_; intro v3 w3 hown hg hat; rw [Nat.zero_add, List.nil_append] at hown; obtain ⟨Y', cb', rfl⟩ := own_slice hown; have hK3 := H2.out.1.drew.grown hg (by simp [Value.ownBlock]); have q3 : w3.cell? ⟨w.heap.size + 1 + 1, 2, none⟩ = some (.slice none 0 0) := hK3.cell 2; have f3 := hK3.frozen 2; have H3 := Lib.hid (And.intro hown (And.intro hg (And.intro hat hK3))); clear hown hg hat hK3 q0 fz0)
      all_goals
        go_wp2_with fail
        go_roundw
        case measure => simp [intOf]
        have hK4 : Blk (w3.setCell ⟨w.heap.size + 1 + 1, 2, none⟩ (.slice Y' y.t.length cb')) (w.heap.size + 1 + 1) 70 #[.slice X' x.t.length ca', .int .i64 x.k, .slice Y' y.t.length cb', .int .i64 y.k] := H3.out.2.2.2.set_ 2 _
        have hO4 := Go.RowKit.ownsRow_setCell_below H3.out.1 (a := ⟨w.heap.size + 1 + 1, 2, none⟩) (by show w.heap.size + 1 + 1 < w.heap.size + 1 + 1 + 1; omega) (.slice Y' y.t.length cb')
        have hB4 := (H2.out.2.2.2.1.drew.grown H3.out.2.1 (by have := H2.out.2.2.2.1.size; simpa using this) (fun j hj => by simp [Value.ownBlock] at hj)).setCell (p := ⟨w.heap.size + 1 + 1, 2, none⟩) (by show w.heap.size ≤ w.heap.size + 1 + 1; omega) (.slice Y' y.t.length cb')
        have hA4 := (H2.out.2.1.drew.grown H3.out.2.1 (by simp [Value.ownBlock])).far (p := ⟨w.heap.size + 1 + 1, 2, none⟩) (by simp <;> omega) (.slice Y' y.t.length cb')
        have hZ4 := (H2.out.2.2.1.drew.grown H3.out.2.1 (by simp [Value.ownBlock])).far (p := ⟨w.heap.size + 1 + 1, 2, none⟩) (by simp) (.slice Y' y.t.length cb')
        have hP4 := Go.RowKit.ownsRow_setCell_below (World.ownsRow.kept (w' := w3) HO2.out.drew H3.out.2.1 (by rcases h : (Value.slice X' x.t.length ca').ownBlock with _ | b; exact .inl rfl; exact .inr (by simp [Value.ownBlock]))) (a := ⟨w.heap.size + 1 + 1, 2, none⟩) (by show w.heap.size + 1 + 1 < w.heap.size + 1 + 1 + 1; omega) (.slice Y' y.t.length cb')
        exact ⟨2, by omega, rfl, .inr (.inr ⟨rfl, X', ca', Y', cb', hP4, hO4, (fun b h1 h2 => by
          have q1 := (HO2.out.lt b h1).2
          rcases H3.out.2.2.1 with h | h
          · rw [h2] at h; simp [Value.ownBlock] at h
          · rw [h2] at h; simp at h; omega), hK4⟩), hB4, hA4, hZ4⟩
    · have HK := Lib.hid hK
      have HO := Lib.hid (And.intro hO (And.intro hO2 hne))
      have y0 : wr.cell? ⟨w.heap.size + 1 + 1, 0, none⟩ = some (.slice X' x.t.length ca') := HK.out.cell 0
      have y1 : wr.cell? ⟨w.heap.size + 1 + 1, 1, none⟩ = some (.int .i64 x.k) := HK.out.cell 1
      have y2 : wr.cell? ⟨w.heap.size + 1 + 1, 2, none⟩ = some (.slice Y' y.t.length cb') := HK.out.cell 2
      have y3 : wr.cell? ⟨w.heap.size + 1 + 1, 3, none⟩ = some (.int .i64 y.k) := HK.out.cell 3
      have hs0 : w.heap.size + 1 + 1 < wr.heap.size := cell_lt y0
      have z0 : wr.cell? ⟨w.heap.size + 1, 0, none⟩ = some (.slice none 0 0) := hZ.out.cell 0
      have z1 : wr.cell? ⟨w.heap.size + 1, 1, none⟩ = some (.int .i64 0) := hZ.out.cell 1
      have z2 : wr.cell? ⟨w.heap.size + 1, 2, none⟩ = some (.slice none 0 0) := hZ.out.cell 2
      have z3 : wr.cell? ⟨w.heap.size + 1, 3, none⟩ = some (.int .i64 0) := hZ.out.cell 3
      have zf0 := hZ.out.frozen 0
      have zf1 := hZ.out.frozen 1
      have zf2 := hZ.out.frozen 2
      have zf3 := hZ.out.frozen 3
      clear hK hR hO hO2 hne
      go_wp2_with fail
      have hK4 := W4.blk hZ.out (.slice X' x.t.length ca') (.int .i64 x.k) (.slice Y' y.t.length cb') (.int .i64 y.k)
      have hB4 := W4.below (g := w.heap.size + 1) hB.out (by omega) (.slice X' x.t.length ca') (.int .i64 x.k) (.slice Y' y.t.length cb') (.int .i64 y.k)
      have hO4 := W4.own (g := w.heap.size + 1) HO.out.1 (own_ne HO.out.1 (by omega)) (.slice X' x.t.length ca') (.int .i64 x.k) (.slice Y' y.t.length cb') (.int .i64 y.k)
      have hP4 := W4.own (g := w.heap.size + 1) HO.out.2.1 (own_ne HO.out.2.1 (by omega)) (.slice X' x.t.length ca') (.int .i64 x.k) (.slice Y' y.t.length cb') (.int .i64 y.k)
      have hN4 := HO.out.2.2
      rw [show ((((wr.setCell ⟨w.heap.size + 1, 0, none⟩ (.slice X' x.t.length ca')).setCell ⟨w.heap.size + 1, 1, none⟩ (.int .i64 x.k)).setCell ⟨w.heap.size + 1, 2, none⟩ (.slice Y' y.t.length cb')).setCell ⟨w.heap.size + 1, 3, none⟩ (.int .i64 y.k)) = W4 wr (w.heap.size + 1) (.slice X' x.t.length ca') (.int .i64 x.k) (.slice Y' y.t.length cb') (.int .i64 y.k) from rfl]
      generalize W4 wr (w.heap.size + 1) (.slice X' x.t.length ca') (.int .i64 x.k) (.slice Y' y.t.length cb') (.int .i64 y.k) = w4 at *
      clear hZ hB HX hA HK HO z0 z1 z2 z3 zf0 zf1 zf2 zf3 y0 y1 y2 y3
      have c0 := hK4.cell 0
      have c1 := hK4.cell 1
      have c2 := hK4.cell 2
      have c3 := hK4.cell 3
      simp only [List.getElem?_toArray, List.getElem?_cons_zero, List.getElem?_cons_succ] at c0 c1 c2 c3
      exact bodyPost_ret (v := .agg #[.slice X' x.t.length ca', .int .i64 x.k, .slice Y' y.t.length cb', .int .i64 y.k]) (by simp [results, Try.results27, go_sem, c0, c1, c2, c3]) rfl ⟨X', ca', Y', cb', rfl, ownsRow_less hO4 (by omega), ownsRow_less hP4 (by omega), hN4, hB4⟩
end Go.Proofs.Ytfdldbfjeamlcaa.LogRef2
