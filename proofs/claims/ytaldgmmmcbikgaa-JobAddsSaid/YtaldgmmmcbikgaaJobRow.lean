/- slices.Clone of a table, as a row of one's own; append of a job. -/
import Derived.BigQuiet
import Derived.Deep.QuietTactic
import Derived.Lib.SliceRun
import Derived.Test.YtaldgmmmcbikgaaJobTwin
namespace Go.Proofs.Ytaldgmmmcbikgaa.JobRow
open Go.RowKit Mem PosMath PartMath TurnMath JobMath JobMem JobTwin
set_option linter.unusedVariables false
set_option linter.unusedSimpArgs false

/-- A row of one's own that reads as a table; its numbers lie below block B0. -/
def RowOf (w : World) (B B0 : Nat) (v : Value) (l : List JV) (raw : List Value) : Prop :=
  w.ownsRow B 33 16 v l.length raw ∧ ∀ i j, l[i]? = some j → ∃ Y c, IntsIn w B0 Y j.af ∧ ∀ t u, t < 16 → (j.arr Y c)[t]? = some u → raw[i * 16 + t]? = some u
theorem ownsRow_less {w : World} {B B' n size : Nat} {e : TypeId} {v : Value} {xs : List Value} (h : w.ownsRow B e size v n xs) (hB : B' ≤ B) : w.ownsRow B' e size v n xs := by
  refine ⟨h.1, ?_⟩
  rcases h.2 with h2 | ⟨g, cap, cur, e, h1, h2⟩
  · exact .inl h2
  · exact .inr ⟨g, cap, cur, e, Nat.le_trans hB h1, h2⟩
theorem ownsRow_up {w w' : World} {B n size : Nat} {e : TypeId} {v : Value} {xs : List Value} (h : w.ownsRow B e size v n xs) (hb : Below w.heap.size w w') : w'.ownsRow B e size v n xs := by
  refine ⟨h.1, ?_⟩
  rcases h.2 with h2 | ⟨g, cap, cur, e, h1, h2, h3⟩
  · exact .inl h2
  · exact .inr ⟨g, cap, cur, e, h1, (hb.block g (Array.getElem?_eq_some_iff.1 h2).1).trans h2, h3⟩
theorem RowOf.up {w w' : World} {B B0 : Nat} {v : Value} {l : List JV} {raw : List Value} (h : RowOf w B B0 v l raw) (hB : Below w.heap.size w w') : RowOf w' B B0 v l raw :=
  ⟨ownsRow_up h.1 hB, fun i j hi => by obtain ⟨Y, c, h1, h2⟩ := h.2 i j hi; exact ⟨Y, c, h1.up hB, h2⟩⟩
theorem RowOf.less {w : World} {B B' B0 : Nat} {v : Value} {l : List JV} {raw : List Value} (h : RowOf w B B0 v l raw) (hB : B' ≤ B) : RowOf w B' B0 v l raw := ⟨ownsRow_less h.1 hB, h.2⟩
theorem IntsIn.more {w : World} {B B' : Nat} {Y : Option Addr} {l : List Int} (h : IntsIn w B Y l) (hB : B ≤ B') : IntsIn w B' Y l := fun i v hi => by
  obtain ⟨b, o, e, h1, h2⟩ := h i v hi
  exact ⟨b, o, e, Nat.lt_of_lt_of_le h1 hB, h2⟩
theorem RowOf.more {w : World} {B B0 B1 : Nat} {v : Value} {l : List JV} {raw : List Value} (h : RowOf w B B0 v l raw) (hB : B0 ≤ B1) : RowOf w B B1 v l raw :=
  ⟨h.1, fun i j hi => by obtain ⟨Y, c, h1, h2⟩ := h.2 i j hi; exact ⟨Y, c, IntsIn.more h1 hB, h2⟩⟩
theorem ints_grown {w w' : World} {B : Nat} {Y : Option Addr} {l : List Int} {row : Option Nat} (h : IntsIn w B Y l) (hg : w.grownBy w' row) (hr : ∀ k, row = some k → B ≤ k) : IntsIn w' B Y l := fun i v hi => by
  obtain ⟨b, o, e, h1, h2, h3⟩ := h i v hi
  exact ⟨b, o, e, h1, Nat.lt_of_lt_of_le h2 hg.size, hg.cell h3 (fun e => by have := hr b e.symm; omega)⟩
theorem row_block_ge {w : World} {base size n j : Nat} {e : TypeId} {v : Value} {xs : List Value} (h : w.ownsRow base e size v n xs) (hj : v.ownBlock = some j) : base ≤ j := by
  rcases h.2 with ⟨rfl, _⟩ | ⟨g, cap, cur, rfl, hb, _⟩
  · simp [Value.ownBlock] at hj
  · have : g = j := by simpa [Value.ownBlock] using hj
    omega
theorem RowOf.append {w w' : World} {B : Nat} {v v' : Value} {l : List JV} {raw : List Value} {j : JV} {Y : Option Addr} {c : Nat} (h : RowOf w B B v l raw) (hY : IntsIn w B Y j.af) (hg : w.grownBy w' v.ownBlock)
    (ho : w'.ownsRow B 33 16 v' (l.length + 1) (raw ++ (j.arr Y c).toList)) : RowOf w' B B v' (l ++ [j]) (raw ++ (j.arr Y c).toList) := by
  have hlen : raw.length = l.length * 16 := h.1.1
  have hr : ∀ k, v.ownBlock = some k → B ≤ k := fun k hk => row_block_ge h.1 hk
  refine ⟨by rw [List.length_append]; exact ho, fun i x hi => ?_⟩
  by_cases hil : i < l.length
  · rw [List.getElem?_append_left hil] at hi
    obtain ⟨Y', c', h1, h2⟩ := h.2 i x hi
    refine ⟨Y', c', ints_grown h1 hg hr, fun t u ht hu => ?_⟩
    rw [List.getElem?_append_left (by omega)]
    exact h2 t u ht hu
  · rw [List.getElem?_append_right (by omega)] at hi
    have h0 : i = l.length := by have := (List.getElem?_eq_some_iff.1 hi).1; simp at this; omega
    subst h0
    simp at hi
    subst hi
    refine ⟨Y, c, ints_grown hY hg hr, fun t u ht hu => ?_⟩
    rw [List.getElem?_append_right (by omega), show l.length * 16 + t - raw.length = t by omega]
    simpa using hu
theorem RowOf.jobs {w : World} {B B0 : Nat} {v : Value} {l : List JV} {raw : List Value} (h : RowOf w B B0 v l raw) : ∃ X c, v = .slice X l.length c ∧ JobsAt w X l := by
  rcases h.1.2 with ⟨rfl, e0⟩ | ⟨g, cap, cur, rfl, hb, hg, hc, hm, hs, ht⟩
  · obtain rfl : l = [] := List.eq_nil_of_length_eq_zero e0
    exact ⟨none, 0, rfl, JobsAt.nil⟩
  · refine ⟨some ⟨g, 0, none⟩, cap, rfl, fun i j hi => ?_⟩
    have hil := (List.getElem?_eq_some_iff.1 hi).1
    obtain ⟨Y, c, h1, h2⟩ := h.2 i j hi
    have kb : Blk w g 33 cur := hg
    refine ⟨g, 0, Y, c, rfl, kb.lt, job_of_cells fun t u ht' hu => ?_, h1.ints⟩
    have h3 := h2 t u ht' hu
    rw [← ht, List.getElem?_take_of_lt (by omega)] at h3
    rw [kb.cell, Nat.zero_add]
    simpa using h3
set_option maxRecDepth 100000 in
set_option maxHeartbeats 4000000 in
theorem jcloneR (X : Option Addr) (cap : Nat) (l : List JV) (hl : l.length ≤ 1000) (w : World) (hX : JobsAt w X l) :
    Calls Try.prog 27 #[.slice X l.length cap] w fun e w' => ∃ v raw, e = .returned v ∧ RowOf w' w.heap.size w.heap.size v l raw ∧ Below w.heap.size w w' := by
  have u : ∀ w, Sem.run Try.prog (underlying 27) w = .ok (TypeDesc.slice 33) w := run_underlying Try.underlying27
  have q : ∀ (w : World) (a : Option Addr) (n c n' c' : Nat), (binOp .eql 27 (.slice a n c) (.slice none n' c')).run Try.prog w = .ok (.bool a.isNone) w := fun w a n c n' c' => Lib.run_eql_slice_nil w _ _ a n c n' c' Try.underlying27
  cases X with
  | none =>
    obtain rfl : l = [] := by
      cases l with
      | nil => rfl
      | cons x t =>
        obtain ⟨_, _, h⟩ := hX 0 x rfl
        obtain ⟨_, _, e, _⟩ := h
        cases e
    clear hX
    go_enter Try.func27, Try.ntmps27
    go_wp2_with fail
    go_ret
    exact ⟨_, [], rfl, ⟨⟨rfl, .inl ⟨rfl, rfl⟩⟩, fun i j h => by simp at h⟩, Below.refl _ _⟩
  | some a =>
    have hb : ∃ b o, a = ⟨b, o, none⟩ ∨ l = [] := by
      cases l with
      | nil => exact ⟨0, 0, .inr rfl⟩
      | cons x t =>
        obtain ⟨b, o, _, _, e, _⟩ := hX 0 x rfl
        exact ⟨b, o, .inl (by simpa using e)⟩
    have hpre : ∃ news, Reads w w.heap.size 16 (some a) l.length news ∧ (∀ u ∈ news, u.oneCell' = true) ∧ ∀ (w' : World) (v : Value), Below w.heap.size w w' → w'.ownsRow w.heap.size 33 16 v l.length news → RowOf w' w.heap.size w.heap.size v l news := by
      obtain ⟨b, o, rfl | rfl⟩ := hb
      · obtain ⟨h1, h2, h3⟩ := raw_reads hX
        exact ⟨_, h1, h2, fun w' v hB ho => ⟨ho, fun i j hi => by obtain ⟨Y, c, hY, hc⟩ := h3 i j hi; exact ⟨Y, c, (IntsAt.in_ hY).up hB, hc⟩⟩⟩
      · exact ⟨[], ⟨rfl, fun h => by simp at h⟩, (fun u hu => by cases hu), fun w' v hB ho => ⟨ho, fun i j h => by simp at h⟩⟩
    obtain ⟨news, hr, h1, hfin⟩ := hpre
    obtain ⟨i0, hi0, hz0, hz1, hz2⟩ := info_parts job_info
    have HR := Lib.hid (And.intro (hr.alloc (Nat.le_refl _) (.cells #[] 33)) (And.intro h1 (And.intro hi0 (And.intro hz0 (And.intro hz1 hz2)))))
    have HF := Lib.hid hfin
    clear hr h1 hi0 hz0 hz1 hz2 hX hb hfin
    go_enter Try.func27, Try.ntmps27
    go_wp2_with (at_builtin; refine wpList_append_any _ rfl (.tmp 5) (.tmp 6) _ rfl w.heap.size 33 i0 (.agg #[.int .i64 0, .int .i64 0, .int .i64 0, .int .i64 0, .int .i64 0, .int .i64 0, .bool false, .bool false, .bool false, .bool false, .int .i64 0, .int .i64 0, .bool false, .slice none 0 0, .int .u8 0, .int .i64 0]) 16 120 Try.underlying27 HR.out.2.2.1 HR.out.2.2.2.1 HR.out.2.2.2.2.1 HR.out.2.2.2.2.2 rfl (by decide) _ _ _ rfl (World.ownsRow_made w #[] 0 (Nat.le_refl _) (Nat.zero_le _) (by simp)) w.heap.size (some a) l.length cap news rfl HR.out.1 HR.out.2.1 (by simp only [maxLen]; omega) (by omega) (by simp) ?_; intro v1 w1 hown hg hat; have HO := Lib.hid (And.intro hown hg); clear hown hg hat)
    go_ret
    have hB1 : Below w.heap.size w w1 := (below_alloc (Below.refl _ w)).grown HO.out.2 (by simp) (by intro k hk; cases hk; exact Nat.le_refl _)
    have ho : w1.ownsRow w.heap.size 33 16 v1 l.length news := by have := HO.out.1; simpa using this
    exact ⟨v1, news, rfl, HF.out w1 v1 hB1 ho, hB1⟩
end Go.Proofs.Ytaldgmmmcbikgaa.JobRow
