/- Several texts joined: Many cells of one block stored into one after another; boxes; what stays. No conditions but those named. -/
import Derived.Deep.MidRow
import Derived.RangeFuncNested
import Derived.Test.YtaldgmmmcbikgaaMem
import Derived.Test.YtaldgmmmcbikgaaRows
import Derived.ControlIn
import Derived.RangeFuncSeq
import Derived.TacticsIn
import Derived.OwnWalkIn
/-! Many cells of one block stored into one after another; boxes; what stays. No conditions but those named. -/
namespace Go.Proofs.Ytaldgmmmcbikgaa.AddKit
open Go.RowKit Mem
set_option linter.unusedVariables false
set_option linter.unusedSimpArgs false

theorem below_s1 {w W : World} {g i : Nat} {v : Value} (hg : w.heap.size ≤ g) (h : Below w.heap.size w W) : Below w.heap.size w (W.setCell ⟨g, i, none⟩ v) := h.setCell (p := ⟨g, i, none⟩) hg v
theorem below_sets {w : World} {g : Nat} (hg : w.heap.size ≤ g) : ∀ {vs : List Value} {W : World} {i : Nat}, Below w.heap.size w W → Below w.heap.size w (World.setCells W g i vs)
  | [], _, _, h => h
  | _ :: _, _, _, h => by rw [World.setCells]; exact below_sets hg (below_s1 hg h)
theorem blk_sets_far {g g' : Nat} {t : TypeId} {cs : Array Value} (hg : g' ≠ g) : ∀ {vs : List Value} {W : World} {i : Nat}, Blk W g' t cs → Blk (World.setCells W g i vs) g' t cs
  | [], _, _, h => h
  | v :: _, _, i, h => by rw [World.setCells]; exact blk_sets_far hg (h.far (p := ⟨g, i, none⟩) hg v)
theorem take_set {l : List Value} {i : Nat} (v : Value) (hi : i < l.length) : (l.set i v).take (i + 1) = l.take i ++ [v] := by
  rw [List.take_add_one, List.getElem?_set_self hi]
  congr 1
  refine List.ext_getElem? fun k => ?_
  by_cases hk : k < i
  · rw [List.getElem?_take_of_lt hk, List.getElem?_take_of_lt hk, List.getElem?_set_ne (by omega)]
  · rw [List.getElem?_eq_none (by simp; omega), List.getElem?_eq_none (by simp; omega)]
theorem blk_sets {g : Nat} {t : TypeId} : ∀ {vs : List Value} {W : World} {i : Nat} {cs : Array Value}, Blk W g t cs → cs.size = i + vs.length → Blk (World.setCells W g i vs) g t (cs.toList.take i ++ vs).toArray
  | [], W, i, cs, h, hs => by
    have e : (cs.toList.take i ++ []).toArray = cs := by
      simp at hs
      rw [List.append_nil, List.take_of_length_le (by simp; omega)]
    rw [e]; exact h
  | v :: t, W, i, cs, h, hs => by
    have h1 := blk_sets (vs := t) (W := W.setCell ⟨g, i, none⟩ v) (i := i + 1) (h.set_ i v) (by simp at hs ⊢; omega)
    have e : (cs.setIfInBounds i v).toList.take (i + 1) ++ t = cs.toList.take i ++ v :: t := by
      rw [Array.toList_setIfInBounds, take_set v (by simp at hs ⊢; omega), List.append_assoc]
      rfl
    rw [e] at h1
    rw [World.setCells]
    exact h1
theorem blk_sets0 {g : Nat} {t : TypeId} {vs : List Value} {W : World} {cs : Array Value} (h : Blk W g t cs) (hs : cs.size = vs.length) : Blk (World.setCells W g 0 vs) g t vs.toArray := by
  have := blk_sets (vs := vs) (i := 0) h (by simpa using hs)
  simpa using this
theorem size_sets {g : Nat} : ∀ {vs : List Value} {W : World} {i : Nat}, (World.setCells W g i vs).heap.size = W.heap.size
  | [], _, _ => rfl
  | _ :: _, _, _ => by rw [World.setCells]; rw [size_sets, World.size_setCell]
theorem there0 {W : World} {g : Nat} {t : TypeId} {cs : Array Value} {n : Nat} (h : Blk W g t cs) (hn : cs.size = n) : W.there g 0 n := fun j hj => by
  rw [Nat.zero_add, h.cell, h.frozen]
  exact ⟨by rw [Array.getElem?_eq_getElem (by omega)]; rfl, rfl⟩
theorem range0 {W : World} {g : Nat} {t : TypeId} {cs : List Value} (h : Blk W g t cs.toArray) : W.rangeAt g 0 cs := fun i v hi => by
  rw [Nat.zero_add, h.cell]
  simpa using hi
/-- A new box, written whole. -/
theorem box_full {W : World} (t : TypeId) (cs : Array Value) {vs : List Value} (h : cs.size = vs.length) : Blk (World.setCells (W.alloc (.cells cs t)) W.heap.size 0 vs) W.heap.size t vs.toArray ∧ Below W.heap.size W (World.setCells (W.alloc (.cells cs t)) W.heap.size 0 vs) :=
  ⟨blk_sets0 (Blk.new W t cs) h, below_sets (Nat.le_refl _) (below_alloc (Below.refl _ W))⟩
theorem grown_b {w w' : World} (h : Below w.heap.size w w') : w.grownBy w' none := ⟨h.os, h.tape, h.output, h.size, fun k hk _ => h.block k hk⟩
theorem own_blkG {w w' : World} {g : Nat} {t : TypeId} {cs : Array Value} {row : Option Nat} (h : Blk w g t cs) (hg : w.grownBy w' row) (hr : ∀ r, row = some r → ∃ o : Obj, w.heap[r]? = some o ∧ o.isCells = false) : Blk w' g t cs := by
  have h1 : w.heap[g]? = some (.cells cs t (0, 0)) := h
  exact (hg.block g h.lt (fun e => by
    obtain ⟨o, ho, hn⟩ := hr g e.symm
    rw [h1] at ho
    cases ho
    simp [Obj.isCells] at hn)).trans h1
end Go.Proofs.Ytaldgmmmcbikgaa.AddKit
/-! A whole struct loaded out of the midst of a block, by an operation that may be guarded. No conditions but those named. -/
namespace Go.Proofs.Ytaldgmmmcbikgaa.RecGuard
open Go
set_option linter.unusedVariables false

theorem wpList_load_mid_g {P : Program} {ops : Array Oper} {rest : List Oper} {op : Oper} {a : Act} {w : World} {Q : Exit → Act → World → Prop} (hw : Region.wanted op (yielded ops a.tmps) = true) (ty : TypeId) (x : Operand) (ho : op.op = .load ty x)
    (b o : Nat) (hx : a.eval x = .pointer (some ⟨b, o, none⟩)) (cs : List Value) (d : TypeDesc) (hc : w.rangeAt b o cs)
    (hu : P.underlying ty = some d) (hd : d.isRow = true) (hi : (P.info? ty).map (·.size) = some cs.length)
    (h : wpList P ops Q rest (a.put op.dst (.agg cs.toArray)) w) : wpList P ops Q (op :: rest) a w :=
  wpList_step fun K hK => by
    rw [if_pos hw]
    exact wp_load_mid ty x ho b o hx cs d hc hu hd hi (hK _ _ h)
end Go.Proofs.Ytaldgmmmcbikgaa.RecGuard
/-! Whole structs inside a fence. No conditions but those named. -/
namespace Go.Proofs.Ytaldgmmmcbikgaa.LoadIn
open Go Go.RowKit Mem
set_option linter.unusedVariables false

variable {F : Fence} {nF : Nat} {P : Program}
theorem wpListIn_load_mid {ops : Array Oper} {rest : List Oper} {op : Oper} {a : Act} {w : World} {Q : Exit → Act → World → Prop} (hgd : op.guard = none) (ty : TypeId) (x : Operand) (ho : op.op = .load ty x)
    (b o : Nat) (hx : a.eval x = .pointer (some ⟨b, o, none⟩)) (cs : List Value) (d : TypeDesc) (hc : w.rangeAt b o cs)
    (hu : P.underlying ty = some d) (hd : d.isRow = true) (hi : (P.info? ty).map (·.size) = some cs.length)
    (h : wpListIn F nF P ops Q rest (a.put op.dst (.agg cs.toArray)) w) : wpListIn F nF P ops Q (op :: rest) a w := by
  refine wpListIn_plain hgd fun K hK => ?_
  unfold Oper.wpIn
  refine ⟨by simp [Oper.about, ho], ?_⟩
  rw [Oper.semAt_plain F _ _ (by rw [ho]; intro c hc'; cases hc')]
  unfold execOp
  simp only [ho, hx, Instr.loadAt, Instr.sureAddr, Sem.run_bind, Sem.run_pure, Result.andThen_ok, run_loadVar_mid w b o ty cs d hc hu hd hi]
  exact hK _ _ h
end Go.Proofs.Ytaldgmmmcbikgaa.LoadIn
/-! A range over a function whose iterator tells, of each thing that it yields, where it lies (a fact R of the thing and the world): the body is handed that fact. A law turned from the kit's law on iterators' loops. No conditions but those named. -/
namespace Go.Proofs.Ytaldgmmmcbikgaa.RangeGiven
open Go Go.RowKit Mem
set_option linter.unusedVariables false

variable {F : Fence} {n : Nat} {P : Program} {w : World}
/-- An iterator's contract: R is given at each yield. -/
def SeqR {α : Type} (F : Fence) (n : Nat) (P : Program) (g : Nat) (lb : Array Value) (encs : α → Array Value) (Kp : World → World → Prop) (R : α → World → Prop) (S Sp : List α → Prop) (w : World) : Prop :=
  ∀ (l : Nat) (J Jx : List α → World → Prop) (W : World), Below w.heap.size w W → AbidesFrom W.heap.size J → AbidesFrom W.heap.size Jx →
    (∀ pre x W1, J pre W1 → R x W1 → Sp (pre ++ [x]) → YieldAt F (n - 1) P l (encs x) W1 fun e W' =>
      (e = .returned (.bool true) ∧ J (pre ++ [x]) W' ∧ Kp W1 W') ∨ (e = .returned (.bool false) ∧ Jx (pre ++ [x]) W')) →
    J [] W →
    CallsIn F n P g (#[.func (.yield l) #[] #[]] ++ lb) W fun e W' => (∃ v, e = .returned v) ∧ ((∃ xs, S xs ∧ J xs W') ∨ (∃ pre, Sp pre ∧ Jx pre W'))

theorem range_given {α : Type} {g : Operand} {ps : Array Tmp} {assign body : Code} {Q : Exit → Act → World → Prop} {a : Act}
    (hro : F.round = none) (h1 : 1 ≤ n) {gf : Nat} {lb : Array Value} (hg : a.eval g = .func (.func gf) #[] lb) (hFg : F.fn gf) (eg : ∀ args w, (callFunc gf args).run P w = .ok (.enter gf args) w)
    {encs : α → Array Value} {Kp : World → World → Prop} {R : α → World → Prop} {S Sp : List α → Prop} {w0 : World} (hseq : SeqR F (n - 1) P gf lb encs Kp R S Sp w0)
    (hKt : ∀ {A B C : World}, Kp A B → Kp B C → Kp A C) (hKb : ∀ (W : World) (l : Nat) (o o' : Obj), w.heap.size ≤ l → W.heap[l]? = some o → o.isCells = false → o.isWalk = false → Kp W (W.putObj l o')) (hb0 : Below w0.heap.size w0 w) (hps : ∀ x, (encs x).size = ps.size)
    (I : List α → World → Prop) (Ix : Code → List α → World → Prop) (hI : OwnFrom w.heap.size I) (hIx : ∀ c, OwnFrom w.heap.size (Ix c)) (hR : OwnFrom w.heap.size R) (h0 : I [] w) (Ax : α → Act → World → Prop) (hAx : ∀ x a', OwnFrom w.heap.size (fun (_ : Unit) W => Ax x a' W))
    (hassign : ∀ (l : Nat) (pre : List α) (x : α) (W : World) (K : Act → World → Prop), I pre W → R x W → (∀ a' W', KeepsFrom w.heap.size W W' → Kp W W' → I pre W' → R x W' → Ax x a' W' → K a' W') →
      assign.wpIn (F.inRound l) (n - 1 - 1) P (Exit.then K (fun _ _ _ => False)) { tmps := (ps.zip (encs x)).foldl (fun t (p, v) => t.setIfInBounds p v) a.tmps, defers := [] } W)
    (hbody : ∀ (l : Nat) (pre : List α) (x : α) (a' : Act) (W : World), w.heap.size ≤ l → (∃ r, W.heap[l]? = some (.loop r)) → I pre W → R x W → Ax x a' W → Sp (pre ++ [x]) → body.wpIn (F.inRound l) (n - 1 - 1) P (ownPostG w.heap.size Kp I Ix (pre ++ [x]) W) a' W)
    (hdone : ∀ (D : Nat) (xs : List α) (W : World), w.heap.size ≤ D → S xs → I xs W → W.heap[D]? = some (.deferred (some [])) → Q .normal { a with defers := { target := .collected D, args := #[] } :: a.defers } W)
    (hstop : ∀ (D : Nat) (c : Code) (pre : List α) (W : World), w.heap.size ≤ D → Sp pre → Ix c pre W → W.heap[D]? = some (.deferred (some [])) → c.wpIn F n P Q { a with defers := { target := .collected D, args := #[] } :: a.defers } W) :
    (Code.rangeFunc g ps assign body).wpIn F n P Q a w := by
  refine wpIn_rangeFunc ?_
  intro fn hfn
  rw [hro]
  obtain ⟨q, hq⟩ : ∃ q : LoopState → Option Code → Loop, q = fun st pe => { state := st, pending := pe, fn, tmps := a.tmps, params := ps, assign, body, defers := w.heap.size } := ⟨_, rfl⟩
  obtain ⟨V, hV⟩ : ∃ V, (w.alloc (.deferred (some []))).alloc (.loop (q .ready none)) = V := ⟨_, rfl⟩
  have hVl : V.heap[w.heap.size + 1]? = some (.loop (q .ready none)) := by
    rw [← hV]; have := World.alloc_heap_new (w.alloc (.deferred (some []))) (.loop (q .ready none)); rwa [World.size_alloc] at this
  have hVd : V.heap[w.heap.size]? = some (.deferred (some [])) := by
    rw [← hV]; exact (Below.heap_alloc _ _ _ (by simp)).trans (World.alloc_heap_new w _)
  have hVI : I [] V := by rw [← hV]; exact hI.alloc _ (hI.alloc _ h0)
  have hVb : Below w0.heap.size w0 V := by
    rw [← hV]; exact hb0.trans ((((Below.refl _ w).alloc (Nat.le_refl _) _).alloc (by simp) _).mono hb0.size)
  have hVs : w.heap.size ≤ V.heap.size := by rw [← hV]; simp; omega
  refine ⟨w.heap.size + 1, [{ target := .collected w.heap.size, args := #[] }], V, { target := .fn (.func gf) lb, args := #[.func (.yield (w.heap.size + 1)) #[] #[]] }, V, gf,
    #[.func (.yield (w.heap.size + 1)) #[] #[]] ++ lb, V, ?_, ?_, ?_, ?_, fun _ => h1, ?_⟩
  · rw [← hV, hq]; exact run_enterLoop_outer _ _ _ _ _
  · simp only [resolve, hg]
    simp [go_sem]
  · intro f' hf'; simp [Target.leads] at hf'; subst hf'; exact hFg
  · simp [invoke, go_sem, eg]
  · have hrow : ∀ {A : World} {row : Option Nat}, (∀ r, row = some r → V.heap.size ≤ r ∧ ∃ o : Obj, A.heap[r]? = some o ∧ o.isWalk = true) → (∀ r, row = some r → w.heap.size ≤ r ∧ ∃ o : Obj, A.heap[r]? = some o ∧ o.isCells = false) :=
      fun hr r e => by obtain ⟨hB, o, ho, hw⟩ := hr r e; exact ⟨Nat.le_trans hVs hB, o, ho, Obj.not_cells_of_walk hw⟩
    refine (hseq (w.heap.size + 1)
      (fun pre W => I pre W ∧ W.heap[w.heap.size + 1]? = some (.loop (q .ready none)) ∧ W.heap[w.heap.size]? = some (.deferred (some [])))
      (fun pre W => ∃ c, Ix c pre W ∧ W.heap[w.heap.size + 1]? = some (.loop (q .done (some c))) ∧ W.heap[w.heap.size]? = some (.deferred (some [])))
      V hVb
      (fun s A B row hs hg' hr => ⟨hI s A B row hs.1 hg' (hrow hr), (grownBy_keeps hg' (fun r e => (hr r e).2) hs.2.1 rfl).trans hs.2.1, (grownBy_keeps hg' (fun r e => (hr r e).2) hs.2.2 rfl).trans hs.2.2⟩)
      (fun s A B row hs hg' hr => by
        obtain ⟨c, hc, hl, hk⟩ := hs
        exact ⟨c, hIx c s A B row hc hg' (hrow hr), (grownBy_keeps hg' (fun r e => (hr r e).2) hl rfl).trans hl, (grownBy_keeps hg' (fun r e => (hr r e).2) hk rfl).trans hk⟩)
      ?_ ⟨hVI, hVl, hVd⟩).mono ?_
    · rintro pre x W0 ⟨hi0, hl0, hk0⟩ hx0 hsp
      have hy := run_yield (P := P) (args := encs x) hl0 (by rw [hq]; exact hps x)
      rw [hq] at hy
      refine ⟨fn, _, assign, body, hy, roundIn_of_wpIn hfn (hassign _ pre x W0 _ hi0 hx0 ?_)⟩
      clear hy
      intro a' W hkf hkp hi hx hax
      have hl := hkf.same _ _ (by omega) hl0 rfl
      have hk := hkf.same _ _ (Nat.le_refl _) hk0 rfl
      have hlt : w.heap.size + 1 < W.heap.size := (Array.getElem?_eq_some_iff.1 hl).1
      obtain ⟨bz, hbz⟩ : ∃ bz, bz = Obj.loop { q .ready none with state := .busy } := ⟨_, rfl⟩
      refine ⟨_, run_beginRound hl (by rw [hq]), ?_⟩
      rw [← hbz]
      have hl2 : (W.putObj (w.heap.size + 1) bz).heap[w.heap.size + 1]? = some bz := World.putObj_heap_same hlt
      have hk2 : (W.putObj (w.heap.size + 1) bz).heap[w.heap.size]? = some (.deferred (some [])) := (World.putObj_heap_other (by omega)).trans hk
      have hw2 : Kp W (W.putObj (w.heap.size + 1) bz) := hKb _ _ _ _ (by omega) hl rfl rfl
      refine wpIn_mono (hbody _ pre x a' _ (by omega) ⟨_, by rw [hl2, hbz]⟩ (hI.putObj _ hi (by omega) hl rfl) (hR.putObj _ hx (by omega) hl rfl) ((hAx x a').putObj (s := ()) _ hax (by omega) hl rfl) hsp) ?_
      have fin : ∀ (jump : Option Code) (W3 : World), KeepsFrom w.heap.size (W.putObj (w.heap.size + 1) bz) W3 →
          (Instr.endRound (w.heap.size + 1) jump).run P W3 = .ok (.bool jump.isNone) (W3.putObj (w.heap.size + 1) (.loop (q (if jump.isNone then .ready else .done) jump))) ∧
          W3.heap[w.heap.size + 1]? = some bz ∧
          (W3.putObj (w.heap.size + 1) (.loop (q (if jump.isNone then .ready else .done) jump))).heap[w.heap.size + 1]? = some (.loop (q (if jump.isNone then .ready else .done) jump)) ∧
          (W3.putObj (w.heap.size + 1) (.loop (q (if jump.isNone then .ready else .done) jump))).heap[w.heap.size]? = some (.deferred (some [])) := fun jump W3 hk3 => by
        have hl3 := hk3.same _ _ (by omega) hl2 (by rw [hbz]; rfl)
        have hl3' := hl3
        rw [hbz] at hl3'
        have := run_endRound (P := P) jump hl3'
        rw [hq] at this ⊢
        exact ⟨this, hl3, World.putObj_heap_same (Array.getElem?_eq_some_iff.1 hl3).1, (World.putObj_heap_other (by omega)).trans (hk3.same _ _ (Nat.le_refl _) hk2 rfl)⟩
      have nc : bz.isCells = false := by rw [hbz]; rfl
      have nw : bz.isWalk = false := by rw [hbz]; rfl
      rintro e a3 W3 hp
      cases e with
      | normal =>
        obtain ⟨hk3, hkp3, hi3⟩ := hp
        obtain ⟨hr, hl3, hl4, hk4⟩ := fin none W3 hk3
        exact ⟨_, _, hr, .inl ⟨rfl, ⟨hI.putObj _ hi3 (by omega) hl3 nc, hl4, hk4⟩, hKt hkp (hKt (hKt hw2 hkp3) (hKb _ _ _ _ (by omega) hl3 nc nw))⟩⟩
      | ret =>
        obtain ⟨hk3, hi3⟩ := hp
        obtain ⟨hr, hl3, hl4, hk4⟩ := fin (some .ret) W3 hk3
        exact ⟨_, _, hr, .inr ⟨rfl, .ret, (hIx _).putObj _ hi3 (by omega) hl3 nc, hl4, hk4⟩⟩
      | exit id =>
        obtain ⟨hk3, hi3⟩ := hp
        obtain ⟨hr, hl3, hl4, hk4⟩ := fin (some (.exit id)) W3 hk3
        exact ⟨_, _, hr, .inr ⟨rfl, .exit id, (hIx _).putObj _ hi3 (by omega) hl3 nc, hl4, hk4⟩⟩
      | goto t =>
        obtain ⟨hk3, hi3⟩ := hp
        obtain ⟨hr, hl3, hl4, hk4⟩ := fin (some (.goto t)) W3 hk3
        exact ⟨_, _, hr, .inr ⟨rfl, .goto t, (hIx _).putObj _ hi3 (by omega) hl3 nc, hl4, hk4⟩⟩
      | panic ch => exact hp.elim
      | outgrown => exact hp.elim
    · rintro e W2 ⟨⟨v, rfl⟩, (⟨xs, hS, hi, hl, hk⟩ | ⟨pre, hSp, c, hi, hl, hk⟩)⟩
      · exact ⟨none, _, by have := run_endLoop (P := P) hl (by rw [hq]; simp); rw [hq] at this; exact this, hdone _ xs _ (Nat.le_refl _) hS (hI.putObj _ hi (by omega) hl rfl) ((World.putObj_heap_other (by omega)).trans hk)⟩
      · exact ⟨some c, _, by have := run_endLoop (P := P) hl (by rw [hq]; simp); rw [hq] at this; exact this, hstop _ c pre _ (Nat.le_refl _) hSp ((hIx c).putObj _ hi (by omega) hl rfl) ((World.putObj_heap_other (by omega)).trans hk)⟩
/-- The same, where the things are assigned in one way. -/
theorem range_given_at {α : Type} {g : Operand} {ps : Array Tmp} {assign body : Code} {Q : Exit → Act → World → Prop} {a : Act}
    (hro : F.round = none) (h1 : 1 ≤ n) {gf : Nat} {lb : Array Value} (hg : a.eval g = .func (.func gf) #[] lb) (hFg : F.fn gf) (eg : ∀ args w, (callFunc gf args).run P w = .ok (.enter gf args) w)
    {encs : α → Array Value} {Kp : World → World → Prop} {R : α → World → Prop} {S Sp : List α → Prop} {w0 : World} (hseq : SeqR F (n - 1) P gf lb encs Kp R S Sp w0)
    (hKt : ∀ {A B C : World}, Kp A B → Kp B C → Kp A C) (hKb : ∀ (W : World) (l : Nat) (o o' : Obj), w.heap.size ≤ l → W.heap[l]? = some o → o.isCells = false → o.isWalk = false → Kp W (W.putObj l o')) (hb0 : Below w0.heap.size w0 w) (hps : ∀ x, (encs x).size = ps.size)
    (I : List α → World → Prop) (Ix : Code → List α → World → Prop) (hI : OwnFrom w.heap.size I) (hIx : ∀ c, OwnFrom w.heap.size (Ix c)) (hR : OwnFrom w.heap.size R) (h0 : I [] w) (a₁ : α → Act)
    (hassign : ∀ (l : Nat) (pre : List α) (x : α) (W : World) (K : Act → World → Prop), I pre W → R x W → (∀ W', KeepsFrom w.heap.size W W' → Kp W W' → I pre W' → R x W' → K (a₁ x) W') →
      assign.wpIn (F.inRound l) (n - 1 - 1) P (Exit.then K (fun _ _ _ => False)) { tmps := (ps.zip (encs x)).foldl (fun t (p, v) => t.setIfInBounds p v) a.tmps, defers := [] } W)
    (hbody : ∀ (l : Nat) (pre : List α) (x : α) (W : World), w.heap.size ≤ l → (∃ r, W.heap[l]? = some (.loop r)) → I pre W → R x W → Sp (pre ++ [x]) → body.wpIn (F.inRound l) (n - 1 - 1) P (ownPostG w.heap.size Kp I Ix (pre ++ [x]) W) (a₁ x) W)
    (hdone : ∀ (D : Nat) (xs : List α) (W : World), w.heap.size ≤ D → S xs → I xs W → W.heap[D]? = some (.deferred (some [])) → Q .normal { a with defers := { target := .collected D, args := #[] } :: a.defers } W)
    (hstop : ∀ (D : Nat) (c : Code) (pre : List α) (W : World), w.heap.size ≤ D → Sp pre → Ix c pre W → W.heap[D]? = some (.deferred (some [])) → c.wpIn F n P Q { a with defers := { target := .collected D, args := #[] } :: a.defers } W) :
    (Code.rangeFunc g ps assign body).wpIn F n P Q a w :=
  range_given hro h1 hg hFg eg hseq hKt hKb hb0 hps I Ix hI hIx hR h0 (fun x a' _ => a' = a₁ x) (fun x a' _ _ _ _ hs _ _ => hs)
    (fun l pre x W K hi hr hk => hassign l pre x W K hi hr fun W' h1 h2 h3 h4 => hk _ W' h1 h2 h3 h4 rfl)
    (fun l pre x a' W h1 h2 h3 h4 h5 h6 => by subst h5; exact hbody l pre x W h1 h2 h3 h4 h6) hdone hstop
end Go.Proofs.Ytaldgmmmcbikgaa.RangeGiven
