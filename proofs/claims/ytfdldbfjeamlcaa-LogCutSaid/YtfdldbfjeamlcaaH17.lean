/- Several texts joined: A range over a function whose iterator tells, of each thing that it yields, where it lies (a fact R of the thing and the world): the body is handed that fact. A law turned from the kit's law on iterat -/
import Derived.RangeFuncNested
import Derived.Test.YtfdldbfjeamlcaaG1
import Derived.ControlIn
import Derived.RangeFuncSeq
import Derived.Deep.MidRow
import Derived.Test.YtfdldbfjeamlcaaH16
import Derived.BigQuiet
import Derived.Deep.QuietTactic
import Derived.Deep.DeepCutAuto
/-! A range over a function whose iterator tells, of each thing that it yields, where it lies (a fact R of the thing and the world): the body is handed that fact. A law turned from the kit's law on iterators' loops. No conditions but those named. -/
namespace Go.Proofs.Ytfdldbfjeamlcaa.RangeGiven
open Go Go.RowKit Mem
set_option linter.unusedVariables false

variable {F : Fence} {n : Nat} {P : Program} {w : World}
/-- An iterator's contract: R is given at each yield. -/
def SeqR {α : Type} (F : Fence) (n : Nat) (P : Program) (g : Nat) (lb : Array Value) (encs : α → Array Value) (Kp : World → World → Prop) (R : α → World → Prop) (S Sp : List α → Prop) (w : World) : Prop :=
  ∀ (l : Nat) (J Jx : List α → World → Prop) (W : World), Below w.heap.size w W → AbidesFrom W.heap.size J → AbidesFrom W.heap.size Jx →
    (∀ pre x W1, J pre W1 → R x W1 → Sp (pre ++ [x]) → YieldAt F (n - 1) P l (encs x) W1 fun e W' =>
      (e = .returned (.bool true) ∧ J (pre ++ [x]) W' ∧ Kp W1 W') ∨ (e = .returned (.bool false) ∧ Jx (pre ++ [x]) W')) →
    J [] W →
    CallsIn F n P g (#[.func (.yield l) #[] #[]] ++ lb) W fun e W' => (∃ v, e = .returned v) ∧ ((∃ xs, S xs ∧ J xs W') ∨ (∃ pre, Sp pre ∧ Jx pre W'))

theorem range_given {α : Type} {g : Operand} {ps : Array Tmp} {assign body : Code} {Q : Exit → Act → World → Prop} {a : Act}
    (hro : F.round = none) (h1 : 1 ≤ n) {gf : Nat} {lb : Array Value} (hg : a.eval g = .func (.func gf) #[] lb) (hFg : F.fn gf) (eg : ∀ args w, (callFunc gf args).run P w = .ok (.enter gf args) w)
    {encs : α → Array Value} {Kp : World → World → Prop} {R : α → World → Prop} {S Sp : List α → Prop} {w0 : World} (hseq : SeqR F (n - 1) P gf lb encs Kp R S Sp w0)
    (hKt : ∀ {A B C : World}, Kp A B → Kp B C → Kp A C) (hKb : ∀ (W : World) (l : Nat) (o o' : Obj), w.heap.size ≤ l → W.heap[l]? = some o → o.isCells = false → o.isWalk = false → Kp W (W.putObj l o')) (hb0 : Below w0.heap.size w0 w) (hps : ∀ x, (encs x).size = ps.size)
    (I : List α → World → Prop) (Ix : Code → List α → World → Prop) (hI : OwnFrom w.heap.size I) (hIx : ∀ c, OwnFrom w.heap.size (Ix c)) (hR : OwnFrom w.heap.size R) (h0 : I [] w) (Ax : α → Act → World → Prop) (hAx : ∀ x a', OwnFrom w.heap.size (fun (_ : Unit) W => Ax x a' W))
    (hassign : ∀ (l : Nat) (pre : List α) (x : α) (W : World) (K : Act → World → Prop), I pre W → R x W → (∀ a' W', KeepsFrom w.heap.size W W' → Kp W W' → I pre W' → R x W' → Ax x a' W' → K a' W') →
      assign.wpIn (F.inRound l) (n - 1 - 1) P (Exit.then K (fun _ _ _ => False)) { tmps := (ps.zip (encs x)).foldl (fun t (p, v) => t.setIfInBounds p v) a.tmps, defers := [] } W)
    (hbody : ∀ (l : Nat) (pre : List α) (x : α) (a' : Act) (W : World), w.heap.size ≤ l → (∃ r, W.heap[l]? = some (.loop r)) → I pre W → R x W → Ax x a' W → Sp (pre ++ [x]) → body.wpIn (F.inRound l) (n - 1 - 1) P (ownPostG w.heap.size Kp I Ix (pre ++ [x]) W) a' W)
    (hdone : ∀ (D : Nat) (xs : List α) (W : World), w.heap.size ≤ D → S xs → I xs W → W.heap[D]? = some (.deferred (some [])) → Q .normal { a with defers := { target := .collected D, args := #[] } :: a.defers } W)
    (hstop : ∀ (D : Nat) (c : Code) (pre : List α) (W : World), w.heap.size ≤ D → Sp pre → Ix c pre W → W.heap[D]? = some (.deferred (some [])) → c.wpIn F n P Q { a with defers := { target := .collected D, args := #[] } :: a.defers } W) :
    (Code.rangeFunc g ps assign body).wpIn F n P Q a w := by
  refine wpIn_rangeFunc ?_
  intro fn hfn
  rw [hro]
  obtain ⟨q, hq⟩ : ∃ q : LoopState → Option Code → Loop, q = fun st pe => { state := st, pending := pe, fn, tmps := a.tmps, params := ps, assign, body, defers := w.heap.size } := ⟨_, rfl⟩
  obtain ⟨V, hV⟩ : ∃ V, (w.alloc (.deferred (some []))).alloc (.loop (q .ready none)) = V := ⟨_, rfl⟩
  have hVl : V.heap[w.heap.size + 1]? = some (.loop (q .ready none)) := by
    rw [← hV]; have := World.alloc_heap_new (w.alloc (.deferred (some []))) (.loop (q .ready none)); rwa [World.size_alloc] at this
  have hVd : V.heap[w.heap.size]? = some (.deferred (some [])) := by
    rw [← hV]; exact (Below.heap_alloc _ _ _ (by simp)).trans (World.alloc_heap_new w _)
  have hVI : I [] V := by rw [← hV]; exact hI.alloc _ (hI.alloc _ h0)
  have hVb : Below w0.heap.size w0 V := by
    rw [← hV]; exact hb0.trans ((((Below.refl _ w).alloc (Nat.le_refl _) _).alloc (by simp) _).mono hb0.size)
  have hVs : w.heap.size ≤ V.heap.size := by rw [← hV]; simp; omega
  refine ⟨w.heap.size + 1, [{ target := .collected w.heap.size, args := #[] }], V, { target := .fn (.func gf) lb, args := #[.func (.yield (w.heap.size + 1)) #[] #[]] }, V, gf,
    #[.func (.yield (w.heap.size + 1)) #[] #[]] ++ lb, V, ?_, ?_, ?_, ?_, fun _ => h1, ?_⟩
  · rw [← hV, hq]; exact run_enterLoop_outer _ _ _ _ _
  · simp only [resolve, hg]
    simp [go_sem]
  · intro f' hf'; simp [Target.leads] at hf'; subst hf'; exact hFg
  · simp [invoke, go_sem, eg]
  · have hrow : ∀ {A : World} {row : Option Nat}, (∀ r, row = some r → V.heap.size ≤ r ∧ ∃ o : Obj, A.heap[r]? = some o ∧ o.isWalk = true) → (∀ r, row = some r → w.heap.size ≤ r ∧ ∃ o : Obj, A.heap[r]? = some o ∧ o.isCells = false) :=
      fun hr r e => by obtain ⟨hB, o, ho, hw⟩ := hr r e; exact ⟨Nat.le_trans hVs hB, o, ho, Obj.not_cells_of_walk hw⟩
    refine (hseq (w.heap.size + 1)
      (fun pre W => I pre W ∧ W.heap[w.heap.size + 1]? = some (.loop (q .ready none)) ∧ W.heap[w.heap.size]? = some (.deferred (some [])))
      (fun pre W => ∃ c, Ix c pre W ∧ W.heap[w.heap.size + 1]? = some (.loop (q .done (some c))) ∧ W.heap[w.heap.size]? = some (.deferred (some [])))
      V hVb
      (fun s A B row hs hg' hr => ⟨hI s A B row hs.1 hg' (hrow hr), (grownBy_keeps hg' (fun r e => (hr r e).2) hs.2.1 rfl).trans hs.2.1, (grownBy_keeps hg' (fun r e => (hr r e).2) hs.2.2 rfl).trans hs.2.2⟩)
      (fun s A B row hs hg' hr => by
        obtain ⟨c, hc, hl, hk⟩ := hs
        exact ⟨c, hIx c s A B row hc hg' (hrow hr), (grownBy_keeps hg' (fun r e => (hr r e).2) hl rfl).trans hl, (grownBy_keeps hg' (fun r e => (hr r e).2) hk rfl).trans hk⟩)
      ?_ ⟨hVI, hVl, hVd⟩).mono ?_
    · rintro pre x W0 ⟨hi0, hl0, hk0⟩ hx0 hsp
      have hy := run_yield (P := P) (args := encs x) hl0 (by rw [hq]; exact hps x)
      rw [hq] at hy
      refine ⟨fn, _, assign, body, hy, roundIn_of_wpIn hfn (hassign _ pre x W0 _ hi0 hx0 ?_)⟩
      clear hy
      intro a' W hkf hkp hi hx hax
      have hl := hkf.same _ _ (by omega) hl0 rfl
      have hk := hkf.same _ _ (Nat.le_refl _) hk0 rfl
      have hlt : w.heap.size + 1 < W.heap.size := (Array.getElem?_eq_some_iff.1 hl).1
      obtain ⟨bz, hbz⟩ : ∃ bz, bz = Obj.loop { q .ready none with state := .busy } := ⟨_, rfl⟩
      refine ⟨_, run_beginRound hl (by rw [hq]), ?_⟩
      rw [← hbz]
      have hl2 : (W.putObj (w.heap.size + 1) bz).heap[w.heap.size + 1]? = some bz := World.putObj_heap_same hlt
      have hk2 : (W.putObj (w.heap.size + 1) bz).heap[w.heap.size]? = some (.deferred (some [])) := (World.putObj_heap_other (by omega)).trans hk
      have hw2 : Kp W (W.putObj (w.heap.size + 1) bz) := hKb _ _ _ _ (by omega) hl rfl rfl
      refine wpIn_mono (hbody _ pre x a' _ (by omega) ⟨_, by rw [hl2, hbz]⟩ (hI.putObj _ hi (by omega) hl rfl) (hR.putObj _ hx (by omega) hl rfl) ((hAx x a').putObj (s := ()) _ hax (by omega) hl rfl) hsp) ?_
      have fin : ∀ (jump : Option Code) (W3 : World), KeepsFrom w.heap.size (W.putObj (w.heap.size + 1) bz) W3 →
          (Instr.endRound (w.heap.size + 1) jump).run P W3 = .ok (.bool jump.isNone) (W3.putObj (w.heap.size + 1) (.loop (q (if jump.isNone then .ready else .done) jump))) ∧
          W3.heap[w.heap.size + 1]? = some bz ∧
          (W3.putObj (w.heap.size + 1) (.loop (q (if jump.isNone then .ready else .done) jump))).heap[w.heap.size + 1]? = some (.loop (q (if jump.isNone then .ready else .done) jump)) ∧
          (W3.putObj (w.heap.size + 1) (.loop (q (if jump.isNone then .ready else .done) jump))).heap[w.heap.size]? = some (.deferred (some [])) := fun jump W3 hk3 => by
        have hl3 := hk3.same _ _ (by omega) hl2 (by rw [hbz]; rfl)
        have hl3' := hl3
        rw [hbz] at hl3'
        have := run_endRound (P := P) jump hl3'
        rw [hq] at this ⊢
        exact ⟨this, hl3, World.putObj_heap_same (Array.getElem?_eq_some_iff.1 hl3).1, (World.putObj_heap_other (by omega)).trans (hk3.same _ _ (Nat.le_refl _) hk2 rfl)⟩
      have nc : bz.isCells = false := by rw [hbz]; rfl
      have nw : bz.isWalk = false := by rw [hbz]; rfl
      rintro e a3 W3 hp
      cases e with
      | normal =>
        obtain ⟨hk3, hkp3, hi3⟩ := hp
        obtain ⟨hr, hl3, hl4, hk4⟩ := fin none W3 hk3
        exact ⟨_, _, hr, .inl ⟨rfl, ⟨hI.putObj _ hi3 (by omega) hl3 nc, hl4, hk4⟩, hKt hkp (hKt (hKt hw2 hkp3) (hKb _ _ _ _ (by omega) hl3 nc nw))⟩⟩
      | ret =>
        obtain ⟨hk3, hi3⟩ := hp
        obtain ⟨hr, hl3, hl4, hk4⟩ := fin (some .ret) W3 hk3
        exact ⟨_, _, hr, .inr ⟨rfl, .ret, (hIx _).putObj _ hi3 (by omega) hl3 nc, hl4, hk4⟩⟩
      | exit id =>
        obtain ⟨hk3, hi3⟩ := hp
        obtain ⟨hr, hl3, hl4, hk4⟩ := fin (some (.exit id)) W3 hk3
        exact ⟨_, _, hr, .inr ⟨rfl, .exit id, (hIx _).putObj _ hi3 (by omega) hl3 nc, hl4, hk4⟩⟩
      | goto t =>
        obtain ⟨hk3, hi3⟩ := hp
        obtain ⟨hr, hl3, hl4, hk4⟩ := fin (some (.goto t)) W3 hk3
        exact ⟨_, _, hr, .inr ⟨rfl, .goto t, (hIx _).putObj _ hi3 (by omega) hl3 nc, hl4, hk4⟩⟩
      | panic ch => exact hp.elim
      | outgrown => exact hp.elim
    · rintro e W2 ⟨⟨v, rfl⟩, (⟨xs, hS, hi, hl, hk⟩ | ⟨pre, hSp, c, hi, hl, hk⟩)⟩
      · exact ⟨none, _, by have := run_endLoop (P := P) hl (by rw [hq]; simp); rw [hq] at this; exact this, hdone _ xs _ (Nat.le_refl _) hS (hI.putObj _ hi (by omega) hl rfl) ((World.putObj_heap_other (by omega)).trans hk)⟩
      · exact ⟨some c, _, by have := run_endLoop (P := P) hl (by rw [hq]; simp); rw [hq] at this; exact this, hstop _ c pre _ (Nat.le_refl _) hSp ((hIx c).putObj _ hi (by omega) hl rfl) ((World.putObj_heap_other (by omega)).trans hk)⟩
end Go.Proofs.Ytfdldbfjeamlcaa.RangeGiven
/-! The frames of bytes, in plain Lean; what an iterator gives of them; a call of a yield from outside of any fence; whole loads and stores inside a fence. No conditions but those named. -/
namespace Go.Proofs.Ytfdldbfjeamlcaa.LogFrm
open Go Go.RowKit MarkMath Mem RecMem RecByte RecNum RecEach RecMath RecCod RecVal RecSame RecWr0 RecRecC RecOwn RecRd RecRL0 RecRAsk RecRState RecRCmd RecRRec RecRead RecAt RecAll LogFour LogJoin LogWrap RangeGiven
set_option linter.unusedVariables false
set_option linter.unusedSimpArgs false

/-! The bytes. -/
theorem TxtAt.drop {w : World} {tb o : Nat} {t : Bs} (h : TxtAt w (some ⟨tb, o, none⟩) t) (m : Nat) : TxtAt w (some ⟨tb, o + m, none⟩) (t.drop m) := fun i x hi => by
  rw [List.getElem?_drop] at hi
  obtain ⟨tb', o', e, h1, h2⟩ := h (m + i) x hi
  cases e
  exact ⟨tb, o + m, rfl, h1, by rw [Nat.add_assoc]; exact h2⟩
theorem TxtAt.take {w : World} {X : Option Addr} {t : Bs} (h : TxtAt w X t) (m : Nat) : TxtAt w X (t.take m) := fun i x hi => by
  rw [List.getElem?_take] at hi
  split at hi
  · exact h i x hi
  · cases hi
theorem Oct.drop {t : Bs} (h : Oct t) (m : Nat) : Oct (t.drop m) := fun b hb => h b (List.mem_of_mem_drop hb)
theorem Oct.take {t : Bs} (h : Oct t) (m : Nat) : Oct (t.take m) := fun b hb => h b (List.mem_of_mem_take hb)
/-- The number of the first four bytes. -/
def num4 : Bs → Int
  | a :: b :: d :: f :: _ => numb a b d f
  | _ => 0
theorem four_of : ∀ {t : Bs}, 4 ≤ t.length → ∃ a b d f u, t = a :: b :: d :: f :: u
  | a :: b :: d :: f :: u, _ => ⟨a, b, d, f, u, rfl⟩
  | [], h => by simp at h
  | [_], h => by simp at h
  | [_, _], h => by simp at h
  | [_, _, _], h => by simp at h
theorem num4_in {t : Bs} (ho : Oct t) : 0 ≤ num4 t ∧ num4 t < 4294967296 := by
  unfold num4
  split
  · rename_i a b d f u
    have h1 := ho a (by simp)
    have h2 := ho b (by simp)
    have h3 := ho d (by simp)
    have h4 := ho f (by simp)
    unfold numb
    omega
  · omega
theorem num4_any (X : Option Addr) (t : Bs) (n c : Nat) (hn : n = t.length) (h4 : 4 ≤ t.length) (ho : Oct t) (hl : t.length ≤ 9223372036854775807) (w : World) (hX : TxtAt w X t) :
    Calls Try.prog 100 #[.slice X n c] w fun e w' => e = .returned (.int .u32 (num4 t)) ∧ Below w.heap.size w w' := by
  obtain ⟨a, b, d, f, u, ht⟩ := four_of h4
  subst hn
  have h := number_any X t c a b d f u ht ho hl w hX
  rw [ht] at h ⊢
  exact h

/-! The frames. -/
def frT (t : Bs) (k : Nat) : Bs := (t.drop (k + 8)).take (num4 (t.drop k)).toNat
def frOk (t : Bs) (k : Nat) : Prop := (readV (frT t k)).2 = 0 ∧ mk 0 (frT t k) = num4 (t.drop (k + 4))
instance (t : Bs) (k : Nat) : Decidable (frOk t k) := inferInstanceAs (Decidable (_ ∧ _))
def fr (t : Bs) : Nat → Nat → List (Int × RV)
  | 0, _ => []
  | f + 1, k => if t.length < k + 8 then [] else if 65536 < num4 (t.drop k) then [(-1, RV.z)] else if (t.length : Int) < (k : Int) + 8 + num4 (t.drop k) then [] else
    if frOk t k then ((k : Int) + 8 + num4 (t.drop k), (readV (frT t k)).1) :: fr t f (k + 8 + (num4 (t.drop k)).toNat) else [(-1, RV.z)]
theorem fr_end {t : Bs} {f k : Nat} (h : t.length < k + 8) : fr t (f + 1) k = [] := by unfold fr; rw [if_pos h]
theorem fr_big {t : Bs} {f k : Nat} (h : ¬ t.length < k + 8) (h1 : 65536 < num4 (t.drop k)) : fr t (f + 1) k = [(-1, RV.z)] := by unfold fr; rw [if_neg h, if_pos h1]
theorem fr_cut {t : Bs} {f k : Nat} (h : ¬ t.length < k + 8) (h1 : ¬ 65536 < num4 (t.drop k)) (h2 : (t.length : Int) < (k : Int) + 8 + num4 (t.drop k)) : fr t (f + 1) k = [] := by unfold fr; rw [if_neg h, if_neg h1, if_pos h2]
theorem fr_bad {t : Bs} {f k : Nat} (h : ¬ t.length < k + 8) (h1 : ¬ 65536 < num4 (t.drop k)) (h2 : ¬ (t.length : Int) < (k : Int) + 8 + num4 (t.drop k)) (h3 : ¬ frOk t k) : fr t (f + 1) k = [(-1, RV.z)] := by unfold fr; rw [if_neg h, if_neg h1, if_neg h2, if_neg h3]
theorem fr_ok {t : Bs} {f k : Nat} (h : ¬ t.length < k + 8) (h1 : ¬ 65536 < num4 (t.drop k)) (h2 : ¬ (t.length : Int) < (k : Int) + 8 + num4 (t.drop k)) (h3 : frOk t k) :
    fr t (f + 1) k = ((k : Int) + 8 + num4 (t.drop k), (readV (frT t k)).1) :: fr t f (k + 8 + (num4 (t.drop k)).toNat) := by conv => lhs; unfold fr; rw [if_neg h, if_neg h1, if_neg h2, if_pos h3]

/-! What an iterator gives: where the frame ends, and the record where it lies. -/
structure FE where
  e : Int
  r : RV
  x : SA
  Y : Option Addr
  cy : Nat
def FE.key (a : FE) : Int × RV := (a.e, a.r)
def FE.enc (a : FE) : Array Value := #[.int .i64 a.e, .agg (rL a.r a.x a.Y a.cy).toArray]
def FE.R (F : Nat) (a : FE) (w : World) : Prop := recR.At w F a.r (rL a.r a.x a.Y a.cy)
def FE.bad : FE := ⟨-1, RV.z, SA.z, none, 0⟩
theorem FE.bad_at {F : Nat} {w : World} : FE.bad.R F w := recR_nil
/-! What was read stays where rows of records turn. -/
theorem keepN_list {α : Type} {R : Rep α} {e e0 : TypeId} (he : e0 ≠ e) (hR : KeepN e R) : KeepN e (listR R e0) := by
  rintro w w' F l vs ⟨V, c, xs, rfl, h1, h2⟩ hk
  exact ⟨V, c, xs, rfl, ownsRow_agree h1 (fun g cur hg hh => hk g cur e0 he hg hh), fun i x hi => hR _ _ _ _ _ (h2 i x hi) hk⟩
theorem keepN_state {e : TypeId} (h1 : CLT ≠ e) (h2 : JBT ≠ e) (h3 : PAT ≠ e) (h4 : KET ≠ e) (h5 : INT ≠ e) : KeepN e stateR := keepN_iso (keepN_pair (keepN_pair (keepN_pair (keepN_pair (keepN_pair (keepN_pair (keepN_pair (keepN_pair (keepN_pair (keepN_pair (keepN_pair (keepN_pair (keepN_pair keepN_flat keepN_num) keepN_num) keepN_num) keepN_num) (keepN_list h1 keepN_flat)) keepN_num) keepN_num) (keepN_list h2 (keepN_job h5))) (keepN_list h3 keepN_flat)) (keepN_list h4 keepN_flat)) (keepN_ints h5)) (keepN_ints h5)) (keepN_ints h5))
theorem keepN_rec {e : TypeId} (h1 : CLT ≠ e) (h2 : JBT ≠ e) (h3 : PAT ≠ e) (h4 : KET ≠ e) (h5 : INT ≠ e) : KeepN e recR := by
  rintro w w' F r vs ⟨s, c, rfl, h, Y, cy, rfl, k⟩ hk
  exact ⟨s, _, rfl, keepN_state h1 h2 h3 h4 h5 _ _ _ _ _ h hk, Y, cy, rfl, keepN_ints h5 _ _ _ _ _ k hk⟩
abbrev RECT : TypeId := 51
/-- Records of one's own. -/
abbrev recsR : Rep (List RV) := listR recR RECT
theorem keep_row : KeepN RECT recR := keepN_rec (by decide) (by decide) (by decide) (by decide) (by decide)
theorem keep_none : KeepN 1000000 recR := keepN_rec (by decide) (by decide) (by decide) (by decide) (by decide)
theorem keeps_none : KeepN 1000000 recsR := keepN_list (by decide) keep_none
/-- A step that turns at most one block, and no cells. -/
theorem at_grown {α : Type} {R : Rep α} (hR : KeepN 1000000 R) {w w' : World} {F : Nat} {x : α} {vs : List Value} (h : R.At w F x vs) {row : Option Nat} (hg : w.grownBy w' row) (hr : ∀ r, row = some r → ∃ o : Obj, w.heap[r]? = some o ∧ o.isCells = false) : R.At w' F x vs :=
  hR _ _ _ _ _ h fun k cs e' _ _ hh => hg.block k (Array.getElem?_eq_some_iff.1 hh).1 fun e => by
    obtain ⟨o, ho, hc⟩ := hr k e.symm
    rw [hh] at ho
    injection ho with ho
    subst ho
    cases hc
theorem at_below {α : Type} {R : Rep α} {w w' : World} {F : Nat} {x : α} {vs : List Value} (h : R.At w F x vs) (hB : Below w.heap.size w w') : R.At w' F x vs := R.keep h (fun k _ hl => hB.block k hl) hB.size
def keys (l : List FE) : List (Int × RV) := l.map FE.key
theorem keys_snoc (l : List FE) (a : FE) : keys (l ++ [a]) = keys l ++ [a.key] := by simp [keys]

/-- A step that leaves all blocks is one that grows. -/
theorem grown_of_below {w w' : World} (h : Below w.heap.size w w') : w.grownBy w' none := ⟨h.os, h.tape, h.output, h.size, fun k hk _ => h.block k hk⟩
theorem abides_below {β : Type} {B : Nat} {J : β → World → Prop} (h : AbidesFrom B J) {s : β} {w w' : World} (hs : J s w) (hb : Below w.heap.size w w') : J s w' := h s w w' none hs (grown_of_below hb) (fun r e => by cases e)

/-- All blocks below n0 stay, and block Bp. -/
structure Kpt (n0 Bp : Nat) (w w' : World) : Prop where
  b : Below n0 w w'
  e : w'.heap[Bp]? = w.heap[Bp]?
  lo : n0 ≤ w.heap.size
  hb : Bp < w.heap.size
theorem Kpt.trans {n0 Bp : Nat} {a b c : World} (h : Kpt n0 Bp a b) (k : Kpt n0 Bp b c) : Kpt n0 Bp a c := ⟨h.b.trans k.b, k.e.trans h.e, h.lo, h.hb⟩
theorem Kpt.up {n0 Bp : Nat} {a b c : World} (h : Kpt n0 Bp a b) (k : Below b.heap.size b c) : Kpt n0 Bp a c := h.trans ⟨k.mono (Nat.le_trans h.lo h.b.size), k.block Bp (Nat.lt_of_lt_of_le h.hb h.b.size), Nat.le_trans h.lo h.b.size, Nat.lt_of_lt_of_le h.hb h.b.size⟩
theorem Kpt.of {n0 Bp : Nat} {a b : World} (lo : n0 ≤ a.heap.size) (hb : Bp < a.heap.size) (k : Below a.heap.size a b) : Kpt n0 Bp a b := ⟨k.mono lo, k.block Bp hb, lo, hb⟩
theorem Kpt.cell {n0 Bp : Nat} {a b : World} (h : Kpt n0 Bp a b) : b.cell? ⟨Bp, 0, none⟩ = a.cell? ⟨Bp, 0, none⟩ := by simp only [World.cell?, h.e]

/-! Whole structs inside a fence. -/
variable {F : Fence} {nF : Nat} {P : Program}
theorem wpListIn_load_mid {ops : Array Oper} {rest : List Oper} {op : Oper} {a : Act} {w : World} {Q : Exit → Act → World → Prop} (hgd : op.guard = none) (ty : TypeId) (x : Operand) (ho : op.op = .load ty x)
    (b o : Nat) (hx : a.eval x = .pointer (some ⟨b, o, none⟩)) (cs : List Value) (d : TypeDesc) (hc : w.rangeAt b o cs)
    (hu : P.underlying ty = some d) (hd : d.isRow = true) (hi : (P.info? ty).map (·.size) = some cs.length)
    (h : wpListIn F nF P ops Q rest (a.put op.dst (.agg cs.toArray)) w) : wpListIn F nF P ops Q (op :: rest) a w := by
  refine wpListIn_plain hgd fun K hK => ?_
  unfold Oper.wpIn
  refine ⟨by simp [Oper.about, ho], ?_⟩
  rw [Oper.semAt_plain F _ _ (by rw [ho]; intro c hc'; cases hc')]
  unfold execOp
  simp only [ho, hx, Instr.loadAt, Instr.sureAddr, Sem.run_bind, Sem.run_pure, Result.andThen_ok, run_loadVar_mid w b o ty cs d hc hu hd hi]
  exact hK _ _ h
theorem wpListIn_store_mid {ops : Array Oper} {rest : List Oper} {op : Oper} {a : Act} {w : World} {Q : Exit → Act → World → Prop} (hgd : op.guard = none) (ty : TypeId) (x y : Operand) (ho : op.op = .store ty x y)
    (b o : Nat) (cells : Array Value) (hx : a.eval x = .pointer (some ⟨b, o, none⟩)) (hy : a.eval y = .agg cells)
    (ht : w.there b o cells.size) (hi : (P.info? ty).map (·.size) = some cells.size) (h1 : cells.all (·.oneCell') = true)
    (h : wpListIn F nF P ops Q rest (a.put op.dst undef) (w.setCells b o cells.toList)) : wpListIn F nF P ops Q (op :: rest) a w := by
  refine wpListIn_plain hgd fun K hK => ?_
  unfold Oper.wpIn
  refine ⟨by simp [Oper.about, ho], ?_⟩
  rw [Oper.semAt_plain F _ _ (by rw [ho]; intro c hc'; cases hc')]
  unfold execOp
  simp only [ho, hx, hy, Instr.storeAt, Instr.sureAddr, Sem.run_bind, Sem.run_pure, Result.andThen_ok, run_storeVar_mid w b o ty cells ht hi h1]
  exact hK _ _ h
end Go.Proofs.Ytfdldbfjeamlcaa.LogFrm
/-! log.frames' iterator: every frame, in order. No conditions but those named. -/
namespace Go.Proofs.Ytfdldbfjeamlcaa.LogFrames
open Go Go.RowKit Go.Sort MarkMath Mem RecMem RecByte RecNum RecMath RecCod RecVal RecSame RecWr0 RecRecC RecRd RecRead RecRRec RecAt RecAll LogFour LogJoin LogWrap RangeGiven LogFrm RecOwn RecCmdJ
set_option linter.unusedVariables false
set_option linter.unusedSimpArgs false

/-- Behind some frames. -/
structure FrAt (t : Bs) (n0 Bp : Nat) (w0 : World) (J : List FE → World → Prop) (k f : Nat) (pre : List FE) (wr : World) : Prop where
  fu : t.length < k + f
  eq : keys pre ++ fr t f k = fr t (t.length + 1) 0
  j : J pre wr
  b : Kpt n0 Bp w0 wr
theorem read_at (X : Option Addr) (t : Bs) (n c : Nat) (hn : n = t.length) (w : World) (hX : TxtAt w X t) (ho : Oct t) (hc : n ≤ c) (hm : c ≤ maxLen) :
    Calls Try.prog 19 #[.slice X n c] w fun e w' => (∃ x Y cy, e = .returned (.tuple #[.agg (rL (readV t).1 x Y cy).toArray, .int .i64 (readV t).2]) ∧ recR.At w' w.heap.size (readV t).1 (rL (readV t).1 x Y cy)) ∧ Below w.heap.size w w' := by
  subst hn
  refine (rread X t c w hX ho hc hm).mono ?_
  rintro e w' ⟨vs, rfl, hR, hB⟩
  obtain ⟨x, Y, cy, rfl, _⟩ := rec_at hR
  exact ⟨⟨x, Y, cy, rfl, hR⟩, hB⟩
theorem ok_v {t : Bs} {k : Nat} {v m1 m2 : Int} (h0 : v = 0) (hv : v = (readV (frT t k)).2) (h1 : m1 = mk 0 (frT t k)) (h2 : m2 = num4 (t.drop (k + 4))) : (m1 != m2) = !decide (frOk t k) := by
  by_cases h : frOk t k
  · have h3 := h.2
    rw [← h1, ← h2] at h3
    rw [decide_eq_true h, h3]
    simp
  · have h3 : m1 ≠ m2 := fun e => h ⟨by rw [← hv]; exact h0, by rw [← h1, ← h2]; exact e⟩
    rw [decide_eq_false h]
    simpa using h3
set_option maxRecDepth 100000 in
set_option maxHeartbeats 6000000 in
theorem frames1_any (l Bp : Nat) (X : Option Addr) (c : Nat) (t : Bs) (ho : Oct t) (hc : t.length ≤ c) (hm : c ≤ maxLen) (hl : t.length ≤ 4611686018427387904) (wS w0 : World) (hS : Below wS.heap.size wS w0) (hBp : Bp < w0.heap.size) (hbx : w0.cell? ⟨Bp, 0, none⟩ = some (.slice X t.length c)) (hX : TxtAt wS X t)
    (J Jx : List FE → World → Prop) (W : World) (hW : Below w0.heap.size w0 W) (hJ : AbidesFrom W.heap.size J)
    (hY : ∀ pre x W1, J pre W1 → x.R w0.heap.size W1 → keys (pre ++ [x]) <+: fr t (t.length + 1) 0 → YieldAt Fence.wide 3 Try.prog l x.enc W1 fun e W' =>
      (e = .returned (.bool true) ∧ J (pre ++ [x]) W' ∧ Kpt wS.heap.size Bp W1 W') ∨ (e = .returned (.bool false) ∧ Jx (pre ++ [x]) W'))
    (h0 : J [] W) :
    Calls Try.prog 99 #[.func (.yield l) #[] #[], .pointer (some ⟨Bp, 0, none⟩)] W fun e W' => (∃ v, e = .returned v) ∧
      ((∃ xs, keys xs = fr t (t.length + 1) 0 ∧ J xs W') ∨ (∃ pre, keys pre <+: fr t (t.length + 1) 0 ∧ Jx pre W')) := by
  have HY := Lib.hid hY
  have HX := Lib.hid (And.intro hX ho)
  have HJ := Lib.hid hJ
  have HBX := Lib.hid (And.intro hBp hbx)
  have hm2 := hm
  simp only [maxLen] at hm2
  have hcm : c ≤ 9223372036854775807 := by omega
  have H0 := Lib.hid (show FrAt t wS.heap.size Bp w0 J 0 (t.length + 1) [] W from ⟨by omega, rfl, h0, Kpt.of hS.size hBp hW⟩)
  have HS := Lib.hid hS
  have HM := Lib.hid hm
  clear hY hX ho hJ hm2 hbx hBp h0 hW hm hS
  go_enter Try.func99, Try.ntmps99
  go_wp2_with fail
  go_loopw [3] (fun i wr => ∃ (k f : Nat) (pre : List FE), k ≤ t.length ∧ i = .int .i64 k ∧ Hid (FrAt t wS.heap.size Bp w0 J k f pre wr)) (fun i _ => t.length - (intOf i).toNat)
  case atStart => exact ⟨0, _, _, Nat.zero_le _, rfl, H0.out⟩
  case round =>
    clear H0
    obtain ⟨k, f, pre, hk, rfl, HL⟩ := hrel
    obtain ⟨f, rfl⟩ : ∃ g, f = g + 1 := ⟨f - 1, by have := HL.out.fu; omega⟩
    have hcl : wr.cell? ⟨Bp, 0, none⟩ = some (.slice X t.length c) := HL.out.b.cell.trans HBX.out.2
    by_cases h8 : t.length < k + 8
    · have h8i : ¬ (8 : Int) ≤ (t.length : Int) - (k : Int) := by omega
      go_wp2_with fail
      go_end0
      exact ⟨⟨_, rfl⟩, .inl ⟨pre, by have := HL.out.eq; rw [fr_end h8, List.append_nil] at this; exact this, HL.out.j⟩⟩
    have h8i : (8 : Int) ≤ (t.length : Int) - (k : Int) := by omega
    obtain ⟨tb, o, hXe, htb, hrr⟩ := HX.out.1 0 (t[0]'(by omega)) (List.getElem?_eq_getElem _)
    clear hrr htb
    subst hXe
    have hck : ¬ c = k := by omega
    have hki : ¬ (c : Int) = (k : Int) := by omega
    have HT := Lib.hid (HX.out.1.up (HS.out.trans HL.out.b.b))
    go_wp2_with fail
    have hdl : (t.drop k).length = t.length - k := List.length_drop
    refine (num4_any (some ⟨tb, o + k, none⟩) (t.drop k) (t.length - k) (c - k) hdl.symm (by omega) (Oct.drop HX.out.2 k) (by omega) wr (TxtAt.drop HT.out k)).mono ?_
    rintro e w1 ⟨rfl, hB1⟩
    have HB1 := Lib.hid hB1
    have HN := Lib.hid (num4_in (Oct.drop HX.out.2 k))
    obtain ⟨m, hm⟩ : ∃ m : Nat, (m : Int) = num4 (t.drop k) := ⟨(num4 (t.drop k)).toNat, Int.toNat_of_nonneg HN.out.1⟩
    have hm32 : (m : Int) < 4294967296 := by rw [hm]; exact HN.out.2
    rw [← hm]
    have HM2 := Lib.hid hm
    have hcl1 : w1.cell? ⟨Bp, 0, none⟩ = some (.slice (some ⟨tb, o, none⟩) t.length c) := keep_cell hcl hB1
    have HJ1 := Lib.hid (abides_below HJ.out HL.out.j hB1)
    clear hm hB1 hcl
    by_cases hbig : 65536 < m
    · have hbi : (65536 : Int) < (m : Int) := by omega
      have hfull := Lib.hid (show fr t (t.length + 1) 0 = keys (pre ++ [FE.bad]) by have := HL.out.eq; rw [fr_big h8 (by rw [← HM2.out]; exact hbi)] at this; rw [← this, keys_snoc]; rfl)
      obtain ⟨fn, tmps, assign, body, hy, hR⟩ := HY.out pre FE.bad w1 HJ1.out FE.bad_at (by rw [hfull.out]; exact List.prefix_refl _)
      have HR := Lib.hid hR
      have hy2 : (Instr.yield l #[.int .i64 (-1), .agg #[.int .i64 0, .int .i64 0, .int .i64 0, .int .i64 0, .int .i64 0, .int .i64 0, .int .i64 0, .int .i64 0, .slice none 0 0, .int .i64 0, .int .i64 0, .slice none 0 0, .slice none 0 0, .slice none 0 0, .slice none 0 0, .slice none 0 0, .slice none 0 0, .int .u8 0, .int .i64 0, .int .i64 0, .int .i64 0, .int .i64 0, .int .i64 0, .int .i64 0, .bool false, .bool false, .bool false, .bool false, .int .i64 0, .int .i64 0, .bool false, .slice none 0 0, .int .u8 0, .int .i64 0, .int .i64 0, .int .i64 0, .int .i64 0, .int .i64 0, .int .i64 0, .int .i64 0, .int .i64 0, .int .i64 0, .int .i64 0, .int .i64 0, .bool false]]).run Try.prog w1 = .ok (.round l fn tmps assign body) w1 := hy
      clear hR hy
      go_upto_region 4 with fail
      refine (wpIn_wide (n := 4)).1 ?_
      gi_wp2
      refine HR.out.mono ?_
      rintro e W3 (⟨rfl, hJ3, hk3⟩ | ⟨rfl, hJx3⟩)
      · have HJ3 := Lib.hid hJ3
        clear hJ3
        gi_wp2
        go_wp2_with fail
        refine bodyPost_ret (results_none rfl _ _ _) rfl ?_
        exact ⟨⟨_, rfl⟩, .inl ⟨_, hfull.out.symm, HJ3.out⟩⟩
      · have HJ3 := Lib.hid hJx3
        clear hJx3
        gi_wp2
        go_wp2_with fail
        refine bodyPost_ret (results_none rfl _ _ _) rfl ?_
        exact ⟨⟨_, rfl⟩, .inr ⟨_, by rw [hfull.out]; exact List.prefix_refl _, HJ3.out⟩⟩
    have hbi : ¬ (65536 : Int) < (m : Int) := by omega
    have HBI := Lib.hid hbi
    have hbi2 : decide ((65536 : Int) < (m : Int)) = false := decide_eq_false hbi
    clear hbig hbi
    by_cases hcut : t.length < k + 8 + m
    · have hcu : (t.length : Int) < (k : Int) + 8 + (m : Int) := by omega
      have HCU := Lib.hid hcu
      have hcu2 : decide ((t.length : Int) < (k : Int) + 8 + (m : Int)) = true := decide_eq_true hcu
      clear hdl hcu hcut
      go_wp2_with fail
      refine bodyPost_ret (results_none rfl _ _ _) rfl ?_
      exact ⟨⟨_, rfl⟩, .inl ⟨pre, by have := HL.out.eq; rw [fr_cut h8 (by rw [← HM2.out]; have := HBI.out; omega) (by rw [← HM2.out]; exact HCU.out), List.append_nil] at this; exact this, HJ1.out⟩⟩
    have hcu : ¬ (t.length : Int) < (k : Int) + 8 + (m : Int) := by omega
    have HCU := Lib.hid (And.intro hcut hcu)
    have hcu2 : decide ((t.length : Int) < (k : Int) + 8 + (m : Int)) = false := decide_eq_false hcu
    clear hcut hcu
    go_upto_region 7 with fail
    have hfl : (frT t k).length = m := by unfold frT; rw [List.length_take, List.length_drop, ← HM2.out]; have := HCU.out.1; omega
    have HT1 := Lib.hid (HT.out.up HB1.out)
    have HCX := Lib.hid (show m + (k + 8) ≤ t.length from by have := HCU.out.1; omega)
    go_cut [6] from 9 to 63 (fun s6 wx => ∃ (Z : Option Addr) (cz : Nat), s6 = .slice Z m cz ∧ m ≤ cz ∧ cz ≤ c ∧ TxtAt wx Z (frT t k) ∧ wx.cell? ⟨Bp, 0, none⟩ = some (.slice (some ⟨tb, o, none⟩) t.length c) ∧ TxtAt wx (some ⟨tb, o, none⟩) t ∧ J pre wx ∧ Kpt wS.heap.size Bp w0 wx)
    case first =>
      have HF0 := Lib.hid (show J pre w1 ∧ Kpt wS.heap.size Bp w0 w1 from ⟨HJ1.out, HL.out.b.up HB1.out⟩)
      have HFL := Lib.hid (And.intro hfl hc)
      have hcB : (k : Int) + 8 + (m : Int) ≤ (c : Int) := by have := HCX.out; omega
      by_cases hk8 : c = k + 8
      · have hki8 : (c : Int) = (k : Int) + 8 := by omega
        have HK8 := Lib.hid hk8
        clear hk8 hdl hck hki hbi2 hcu2 h8 h8i hk hm32 hc hl hki8 hfl
        go_wp2_with fail
        go_meet
        refine ⟨_, 0, rfl, by have := HCX.out; have := HFL.out.2; have := HK8.out; omega, Nat.zero_le _, ?_, hcl1, HT1.out, HF0.out.1, HF0.out.2⟩
        intro i x hi
        have := (List.getElem?_eq_some_iff.1 hi).1
        have := HCX.out; have := HFL.out; have := HK8.out
        omega
      · have hki8 : ¬ (c : Int) = (k : Int) + 8 := by omega
        have HK8 := Lib.hid hk8
        clear hdl hck hki hbi2 hcu2 h8 h8i hk hm32 hc hl hki8 hfl
        go_wp2_with fail
        go_meet
        exact ⟨_, c - (k + 8), rfl, by have := HCX.out; have := HFL.out.2; omega, Nat.sub_le _ _, TxtAt.take (TxtAt.drop HT1.out (k + 8)) _, hcl1, HT1.out, HF0.out.1, HF0.out.2⟩
    case rest =>
      clear HT HT1 HB1 HJ1 hcl1
      obtain ⟨Z, cz, rfl, hnc, hcz, hZ, hcl2, hT2, hJ2, hB2⟩ := hcut
      have HW2 := Lib.hid (And.intro hZ (And.intro hT2 (And.intro hJ2 (And.intro hB2 (And.intro hnc (And.intro hcz (And.intro hfl hc)))))))
      have HKK := Lib.hid (And.intro h8 (And.intro hk hl))
      clear hZ hT2 hJ2 hB2 hnc hcz hfl hc h8 hk hl hdl hck hki hbi2 hcu2 h8i hm32
      go_wp2_with fail
      refine (read_at Z (frT t k) m cz HW2.out.2.2.2.2.2.2.1.symm wc HW2.out.1 (Oct.take (Oct.drop HX.out.2 _) _) HW2.out.2.2.2.2.1 (Nat.le_trans HW2.out.2.2.2.2.2.1 HM.out)).mono ?_
      rintro e w2 ⟨⟨x, Y, cy, rfl, hI⟩, hB⟩
      have hI := recR.mono hI HW2.out.2.2.2.1.b.size
      obtain ⟨q, hq⟩ : ∃ q, q = (readV (frT t k)).1 := ⟨_, rfl⟩
      obtain ⟨v, hv⟩ : ∃ v, v = (readV (frT t k)).2 := ⟨_, rfl⟩
      rw [← hq] at hI
      rw [← hq, ← hv]
      have HQ := Lib.hid (And.intro hq hv)
      have HB := Lib.hid hB
      have HI := Lib.hid hI
      have x5 := box_full (W := w2) 51 #[.int .i64 0, .int .i64 0, .int .i64 0, .int .i64 0, .int .i64 0, .int .i64 0, .int .i64 0, .int .i64 0, .slice none 0 0, .int .i64 0, .int .i64 0, .slice none 0 0, .slice none 0 0, .slice none 0 0, .slice none 0 0, .slice none 0 0, .slice none 0 0, .int .u8 0, .int .i64 0, .int .i64 0, .int .i64 0, .int .i64 0, .int .i64 0, .int .i64 0, .bool false, .bool false, .bool false, .bool false, .int .i64 0, .int .i64 0, .bool false, .slice none 0 0, .int .u8 0, .int .i64 0, .int .i64 0, .int .i64 0, .int .i64 0, .int .i64 0, .int .i64 0, .int .i64 0, .int .i64 0, .int .i64 0, .int .i64 0, .int .i64 0, .bool false] (vs := rL q x Y cy) rfl
      clear hq hv hB hI
      go_upto_region 9 with (first | (refine wpList_store_mid rfl 51 _ _ rfl w2.heap.size 0 (rL q x Y cy).toArray rfl rfl (there_of (Blk.new w2 51 #[.int .i64 0, .int .i64 0, .int .i64 0, .int .i64 0, .int .i64 0, .int .i64 0, .int .i64 0, .int .i64 0, .slice none 0 0, .int .i64 0, .int .i64 0, .slice none 0 0, .slice none 0 0, .slice none 0 0, .slice none 0 0, .slice none 0 0, .slice none 0 0, .int .u8 0, .int .i64 0, .int .i64 0, .int .i64 0, .int .i64 0, .int .i64 0, .int .i64 0, .bool false, .bool false, .bool false, .bool false, .int .i64 0, .int .i64 0, .bool false, .slice none 0 0, .int .u8 0, .int .i64 0, .int .i64 0, .int .i64 0, .int .i64 0, .int .i64 0, .int .i64 0, .int .i64 0, .int .i64 0, .int .i64 0, .int .i64 0, .int .i64 0, .bool false]) (Nat.le_of_ble_eq_true rfl)) (by kernel_rfl) (by kernel_rfl) ?_; simp only [List.toList_toArray]; generalize World.setCells _ _ _ _ = W5 at *; (try simp only [Act.put])))
      have HB5 := Lib.hid (below_up HB.out x5.2)
      have KB := Lib.hid (And.intro x5.1 (at_below HI.out x5.2))
      obtain ⟨g5, hg5⟩ : ∃ n, n = w2.heap.size := ⟨_, rfl⟩
      rw [← hg5] at KB
      rw [← hg5]
      have hcl5 : W5.cell? ⟨Bp, 0, none⟩ = some (.slice (some ⟨tb, o, none⟩) t.length c) := keep_cell hcl2 HB5.out
      have H5 := Lib.hid (And.intro (HW2.out.1.up HB5.out) (And.intro (HW2.out.2.1.up HB5.out) (And.intro (abides_below HJ.out HW2.out.2.2.1 HB5.out) (HW2.out.2.2.2.1.up HB5.out))))
      clear x5 HI HB hg5 hcl2
      obtain ⟨m1, hm1⟩ : ∃ n, n = mk 0 (frT t k) := ⟨_, rfl⟩
      obtain ⟨m2, hm2⟩ : ∃ n, n = num4 (t.drop (k + 4)) := ⟨_, rfl⟩
      have HMK := Lib.hid (And.intro hm1 hm2)
      clear hm1 hm2
      go_cut [54] from 9 to 63 (fun s54 wx => s54 = .bool (!decide (frOk t k)) ∧ Below W5.heap.size W5 wx)
      case first =>
        by_cases hv0 : v = 0
        · have hv1 : (v != 0) = false := by simpa using hv0
          have HV0 := Lib.hid hv0
          clear hv0
          have HOF := Lib.hid (show Calls Try.prog 68 #[.slice (some ⟨W5.heap.size, 0, none⟩) 1 1] (W5.drew.alloc (.cells #[.slice Z m cz] 37)) fun e w' => e = .returned (.int .u32 m1) ∧ Below W5.heap.size W5 w' from by
            have h := of_txt Z m cz (frT t k) HW2.out.2.2.2.2.2.2.1.symm (Oct.take (Oct.drop HX.out.2 _) _) (by have := HW2.out.2.2.2.2.2.2.1; have := HBI.out; omega) W5.drew 37 (H5.out.1.up (Below.refl _ W5).drew)
            rw [← HMK.out.1] at h
            exact h.mono fun e w' q => ⟨q.1, (Below.drew (Below.refl _ W5)).trans q.2⟩)
          have HNU := Lib.hid (show ∀ W : World, Below W5.heap.size W5 W → Calls Try.prog 100 #[.slice (some ⟨tb, o + (k + 4), none⟩) (t.length - (k + 4)) (c - (k + 4))] W fun e w' => e = .returned (.int .u32 m2) ∧ Below W.heap.size W w' from fun W hW => by
            have h := num4_any (some ⟨tb, o + (k + 4), none⟩) (t.drop (k + 4)) (t.length - (k + 4)) (c - (k + 4)) List.length_drop.symm (by rw [List.length_drop]; have := HKK.out.1; omega) (Oct.drop HX.out.2 _) (by rw [List.length_drop]; have := HKK.out.2.2; omega) W (TxtAt.drop (H5.out.2.1.up hW) (k + 4))
            rw [← HMK.out.2] at h
            exact h)
          have K0 : KeptL W5 [(⟨Bp, 0, none⟩, .slice (some ⟨tb, o, none⟩) t.length c)] W5.drew := KeptL.drew ⟨Below.refl _ _, hcl5⟩
          have K00 : KeptL W5 [(⟨Bp, 0, none⟩, .slice (some ⟨tb, o, none⟩) t.length c)] W5 := ⟨Below.refl _ _, hcl5⟩
          have hk4a : (k : Int) + 4 ≤ (t.length : Int) := by have := HKK.out.1; omega
          have s1 : IntKind.i64.wrap ((k : Int) + 4) = (k : Int) + 4 := IntWalk.i64_in _ (by have := HKK.out.2.1; have := HKK.out.2.2; omega)
          have hk4n : k + 4 ≤ t.length := by have := HKK.out.1; omega
          have hk4m : t.length ≤ c := HW2.out.2.2.2.2.2.2.2
          have hk4o : k + 4 ≤ c := by omega
          have hk4p : (k : Int) + 4 ≤ (c : Int) := by omega
          have hk4b : (t.length : Int) ≤ (c : Int) := by have := HW2.out.2.2.2.2.2.2.2; omega
          have hk4c : (0 : Int) ≤ (k : Int) + 4 := by omega
          have hk4d : ¬ c = k + 4 := by have := HKK.out.1; have := HW2.out.2.2.2.2.2.2.2; omega
          have hk4e : k + 4 ≤ 9223372036854775807 := by have := HKK.out.2.1; have := HKK.out.2.2; omega
          go_region_held3 (fun W => Below W5.heap.size W5 W ∧ W.cell? ⟨Bp, 0, none⟩ = some (.slice (some ⟨tb, o, none⟩) t.length c)) (first | exact K0 | (exact (fun h => KeptL.up K00 h) (by assumption)) | exact KeptL.alloc (fs := [(⟨Bp, 0, none⟩, .slice (some ⟨tb, o, none⟩) t.length c)]) (by assumption) _ | exact KeptL.up (fs := [(⟨Bp, 0, none⟩, .slice (some ⟨tb, o, none⟩) t.length c)]) (by assumption) (by assumption) | assumption)
            (first
              | (go_at_call 68; refine HOF.out.mono ?_; rintro e w6 ⟨rfl, hB6⟩)
              | (go_at_call 100; refine (HNU.out _ (And.left (by assumption))).mono ?_; rintro e w7 ⟨rfl, hB7⟩))
          all_goals
            go_wp2_with fail
            go_meet
            refine ⟨?_, And.left (by assumption)⟩
            have hz := ok_v HV0.out HQ.out.2 HMK.out.1 HMK.out.2
            first | exact congrArg Value.bool hz | (simp only [← hz]; done) | trace_state
        · have hv1 : (v != 0) = true := by simpa using hv0
          have HV0 := Lib.hid hv0
          clear hv0
          have kq0 := cell_regrown hcl5
          refine wp_region_quiet_below (by kernel_rfl) (by kernel_rfl) ?_
          repeat (go_big_quiet_step (first | fail))
          refine wpQuiet_nil ?_
          intro _ hw'
          obtain ⟨⟨dq, osq⟩, hw''⟩ := hw'
          subst hw''
          have hBq := below_regrown W5 dq osq
          clear kq0
          generalize grow (redrawn W5 dq) osq = wq at *
          go_wp2_with fail
          go_meet
          exact ⟨by rw [decide_eq_false (show ¬ frOk t k from fun h => HV0.out (HQ.out.2.trans h.1))]; rfl, hBq⟩
      case rest =>
        obtain ⟨rfl, hBx⟩ := hcut
        have HJ6 := Lib.hid (And.intro (abides_below HJ.out H5.out.2.2.1 hBx) (H5.out.2.2.2.up hBx))
        have KX := Lib.hid (And.intro (KB.out.1.below hBx KB.out.1.lt) (at_below KB.out.2 hBx))
        clear hBx hcl5 KB HB5
        have hf1 : ¬ 65536 < num4 (t.drop k) := by rw [← HM2.out]; have := HBI.out; omega
        have hf2 : ¬ (t.length : Int) < (k : Int) + 8 + num4 (t.drop k) := by rw [← HM2.out]; have := HCX.out; omega
        have HF := Lib.hid (And.intro hf1 hf2)
        clear hf1 hf2
        by_cases hok : frOk t k
        rotate_left
        · have hd : decide (frOk t k) = false := decide_eq_false hok
          have HOK := Lib.hid hok
          have hfull := Lib.hid (show fr t (t.length + 1) 0 = keys (pre ++ [FE.bad]) by have := HL.out.eq; rw [fr_bad (by have := HKK.out.1; omega) (by have := HF.out.1; omega) (by have := HF.out.2; omega) HOK.out] at this; rw [← this, keys_snoc]; rfl)
          obtain ⟨fn, tmps, assign, body, hy, hR⟩ := HY.out pre FE.bad wc HJ6.out.1 FE.bad_at (by rw [hfull.out]; exact List.prefix_refl _)
          have HR := Lib.hid hR
          have hy2 : (Instr.yield l #[.int .i64 (-1), .agg #[.int .i64 0, .int .i64 0, .int .i64 0, .int .i64 0, .int .i64 0, .int .i64 0, .int .i64 0, .int .i64 0, .slice none 0 0, .int .i64 0, .int .i64 0, .slice none 0 0, .slice none 0 0, .slice none 0 0, .slice none 0 0, .slice none 0 0, .slice none 0 0, .int .u8 0, .int .i64 0, .int .i64 0, .int .i64 0, .int .i64 0, .int .i64 0, .int .i64 0, .bool false, .bool false, .bool false, .bool false, .int .i64 0, .int .i64 0, .bool false, .slice none 0 0, .int .u8 0, .int .i64 0, .int .i64 0, .int .i64 0, .int .i64 0, .int .i64 0, .int .i64 0, .int .i64 0, .int .i64 0, .int .i64 0, .int .i64 0, .int .i64 0, .bool false]]).run Try.prog wc = .ok (.round l fn tmps assign body) wc := hy
          clear hR hy hok
          simp only [hd, Bool.not_false]
          go_upto_region 10 with fail
          refine (wpIn_wide (n := 4)).1 ?_
          gi_wp2
          refine HR.out.mono ?_
          rintro e W3 (⟨rfl, hJ3, hk3⟩ | ⟨rfl, hJx3⟩)
          · have HJ3 := Lib.hid hJ3
            clear hJ3
            gi_wp2
            go_wp2_with fail
            refine bodyPost_ret (results_none rfl _ _ _) rfl ?_
            exact ⟨⟨_, rfl⟩, .inl ⟨_, hfull.out.symm, HJ3.out⟩⟩
          · have HJ3 := Lib.hid hJx3
            clear hJx3
            gi_wp2
            go_wp2_with fail
            refine bodyPost_ret (results_none rfl _ _ _) rfl ?_
            exact ⟨⟨_, rfl⟩, .inr ⟨_, by rw [hfull.out]; exact List.prefix_refl _, HJ3.out⟩⟩
        have hd : decide (frOk t k) = true := decide_eq_true hok
        have HOK := Lib.hid hok
        obtain ⟨E, hE⟩ : ∃ E : FE, E = ⟨(k : Int) + 8 + (m : Int), q, x, Y, cy⟩ := ⟨_, rfl⟩
        have HE := Lib.hid hE
        have R6 := Lib.hid (show wc.rangeAt g5 0 (rL q x Y cy) from range_part (n := 45) KX.out.1 rfl)
        have hfull := Lib.hid (show fr t (t.length + 1) 0 = keys (pre ++ [E]) ++ fr t f (k + 8 + m) by
          have := HL.out.eq
          rw [fr_ok (by have := HKK.out.1; omega) (by have := HF.out.1; omega) (by have := HF.out.2; omega) HOK.out, ← HM2.out, ← HQ.out.1, Int.toNat_natCast] at this
          rw [← this, keys_snoc, List.append_assoc, HE.out]
          rfl)
        obtain ⟨fn, tmps, assign, body, hy, hR⟩ := HY.out pre E wc HJ6.out.1 (by rw [hE]; exact KX.out.2) (by rw [hfull.out]; exact List.prefix_append _ _)
        have HR := Lib.hid hR
        rw [hE] at hy
        have hy2 : (Instr.yield l #[.int .i64 ((k : Int) + 8 + (m : Int)), .agg (rL q x Y cy).toArray]).run Try.prog wc = .ok (.round l fn tmps assign body) wc := hy
        clear hR hy hok hE
        simp only [hd, Bool.not_true]
        go_upto_region 12 with fail
        refine (wpIn_wide (n := 4)).1 ?_
        gi_wp2_with (first | (refine wpListIn_load_mid rfl 51 _ rfl g5 0 rfl (rL q x Y cy) _ R6.out Try.underlying51 rfl (by kernel_rfl) ?_))
        refine HR.out.mono ?_
        rintro e W3 (⟨rfl, hJ3, hk3⟩ | ⟨rfl, hJx3⟩)
        · have HJ3 := Lib.hid (And.intro hJ3 hk3)
          clear hJ3 hk3
          gi_wp2
          go_wp2_with fail
          go_roundw
          case rel => exact ⟨k + 8 + m, f, pre ++ [E], by have := HCX.out; omega, by go_num, ⟨by have := HL.out.fu; omega, hfull.out.symm, HJ3.out.1, HJ6.out.2.trans HJ3.out.2⟩⟩
          case measure => have := HCX.out; simp [intOf]; omega
        · have HJ3 := Lib.hid hJx3
          clear hJx3
          gi_wp2
          go_wp2_with fail
          refine bodyPost_ret (results_none rfl _ _ _) rfl ?_
          exact ⟨⟨_, rfl⟩, .inr ⟨_, by rw [hfull.out]; exact List.prefix_append _ _, HJ3.out⟩⟩
end Go.Proofs.Ytfdldbfjeamlcaa.LogFrames
