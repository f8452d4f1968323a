/- The walk of the law MarkTells: it returns true, and nothing that was there has turned. -/
import Derived.Test.YtgnaadaihncgeaaMarkRef
import Derived.Laws.BytesString
import Derived.Laws.Cells
import Derived.Lib.BufferRead
namespace Go.Proofs.Ytgnaadaihncgeaa.MarkTellsWalk
open Go.RowKit MarkMath MarkWalks Mem SeqKit MarkSeq MarkOf MarkLaws MarkByteWalk MarkSwapWalk MarkRef
set_option linter.unusedVariables false

/-- The string of a slice of bytes. -/
def strOf (l : List Int) : ByteArray := l.foldl (fun r n => r.push (UInt8.ofNat n.toNat)) ByteArray.empty
theorem run_strOf {w : World} {B n c : Nat} {A : Option Addr} {l : List Int} (h : Reads w B 1 A n (l.map (Value.int .u8))) : (convert 29 9 (.slice A n c)).run Try.prog w = .ok (.string (strOf l)) w := by
  have hl : l.length = n := by have := h.1; simpa using this
  by_cases hn : 0 < n
  · obtain ⟨ad, rfl, _, hc⟩ := h.2 hn
    rw [run_convert_bytes_string w _ _ _ _ _ _ Try.underlying29 Try.underlying5 Try.underlying9]
    have hh := run_loadCells_list (P := Try.prog) (w := w) ad (l.map (Value.int .u8)) hc
    rw [List.length_map, hl] at hh
    exact run_bytesToString w ad n c l hh
  · obtain rfl : n = 0 := by omega
    obtain rfl : l = [] := List.eq_nil_of_length_eq_zero hl
    rw [run_convert_bytes_string w _ _ _ _ _ _ Try.underlying29 Try.underlying5 Try.underlying9]
    cases A with
    | none => simp [Conv.bytesToString]; rfl
    | some ad =>
      have hh := run_loadCells_list (P := Try.prog) (w := w) ad ([] : List Value) (by simp)
      exact run_bytesToString w ad 0 c [] hh

set_option maxHeartbeats 4000000 in
theorem tells_main (w : World) (X : Option Addr) (c : Nat) (b : List B8) (hc : b.length ≤ c) (hm : c ≤ maxLen) (hr : Reads w w.heap.size 1 X b.length (u8s (ints b)))
    (Y : Option Addr) (d : Nat) (b' : List B8) (hc' : b'.length ≤ d) (hm' : d ≤ maxLen) (hr' : Reads w w.heap.size 1 Y b'.length (u8s (ints b'))) (m : Int) (hm0 : 0 ≤ m) (hm1 : m ≤ 4294967295) (h1 : b.length ≤ 5000) (h2 : b'.length ≤ 5000) :
    Calls Try.prog 6 #[.slice X b.length c, .slice Y b'.length d, .int .u32 m] w fun e w' => e = .returned (.bool true) ∧ Below w.heap.size w w' := by
  have HR := Lib.hid hr
  have HR' := Lib.hid hr'
  clear hr hr'
  unfold maxLen at hm hm'
  have HC : Hid (∀ W, Below w.heap.size w W → (convert 29 9 (.slice X b.length c)).run Try.prog W = .ok (.string (strOf (ints b))) W) := fun W hW => run_strOf (HR.out.below hW)
  have HA : Hid (∀ (W : World) (gg : Nat), Below w.heap.size w W → Blk W gg 29 #[.slice X b.length c] →
      Calls Try.prog 13 #[.slice (some ⟨gg, 0, none⟩) 1 1] W fun e w' => e = .returned (.int .u32 (mk 0 (ints b))) ∧ Below W.heap.size W w') :=
    fun W gg hW hg => of_blk_n _ _ c gg b rfl (by omega) W _ hg ((HR.out.below hW).more hW.size)
  have HB_ : Hid (∀ (W : World) (gg : Nat), Below w.heap.size w W → Blk W gg 29 #[.slice X b.length c] →
      Calls Try.prog 14 #[.slice (some ⟨gg, 0, none⟩) 1 1] W fun e w' => e = .returned (.int .u32 (mk 0 (ints b))) ∧ Below W.heap.size W w') := fun W gg hW hg => by
    have h := refOf_any (some ⟨gg, 0, none⟩) 1 [b] (by simp; omega) (by simp) W (parts_blk W gg _ X b c hg ((HR.out.below hW).more hW.size))
    exact h.mono fun e w' ⟨he, hB⟩ => ⟨by simpa using he, hB⟩
  have HA2 : Hid (∀ (W : World) (gg : Nat), Below w.heap.size w W → Blk W gg 29 #[.slice X b.length c, .slice Y b'.length d] →
      Calls Try.prog 13 #[.slice (some ⟨gg, 0, none⟩) 2 2] W fun e w' => e = .returned (.int .u32 (mk 0 (ints (b ++ b')))) ∧ Below W.heap.size W w') := fun W gg hW hg => by
    have h := of_any (some ⟨gg, 0, none⟩) 2 [b, b'] (by simp) (by simp only [List.mem_cons, List.not_mem_nil, or_false, forall_eq_or_imp, forall_eq]; omega) W (parts_blk2 W gg _ X Y b b' _ _ c d rfl rfl hg ((HR.out.below hW).more hW.size) ((HR'.out.below hW).more hW.size))
    exact h.mono fun e w' ⟨he, hB⟩ => ⟨by simpa using he, hB⟩
  have HB2_ : Hid (∀ (W : World) (gg : Nat), Below w.heap.size w W → Blk W gg 29 #[.slice X b.length c, .slice Y b'.length d] →
      Calls Try.prog 14 #[.slice (some ⟨gg, 0, none⟩) 2 2] W fun e w' => e = .returned (.int .u32 (mk 0 (ints (b ++ b')))) ∧ Below W.heap.size W w') := fun W gg hW hg => by
    have h := refOf_any (some ⟨gg, 0, none⟩) 2 [b, b'] (by simp; omega) (by simp) W (parts_blk2 W gg _ X Y b b' _ _ c d rfl rfl hg ((HR.out.below hW).more hW.size) ((HR'.out.below hW).more hW.size))
    exact h.mono fun e w' ⟨he, hB⟩ => ⟨by simpa using he, hB⟩
  have HO : Hid (∀ W : World, Below w.heap.size w W → Calls Try.prog 15 #[.int .u32 m, .slice X b.length c] W fun e w' => e = .returned (.int .u32 (mk (m % 4294967291) (ints b))) ∧ Below W.heap.size W w') :=
    fun W hW => on_any m hm0 hm1 X c b (by omega) W ((HR.out.below hW).more hW.size)
  have HO2 : Hid (∀ W : World, Below w.heap.size w W → Calls Try.prog 16 #[.int .u32 m, .slice X b.length c] W fun e w' => e = .returned (.int .u32 (mk (m % 4294967291) (ints b))) ∧ Below W.heap.size W w') :=
    fun W hW => refOn_any m hm0 hm1 X c b (by omega) W ((HR.out.below hW).more hW.size)
  generalize mk 0 (ints b) = z1 at *
  generalize mk 0 (ints (b ++ b')) = z2 at *
  generalize mk (m % 4294967291) (ints b) = z3 at *
  generalize strOf (ints b) = S at *
  clear HR HR'
  have hcv := HC.out w (Below.refl _ _)
  go_enter Try.func6, Try.ntmps6
  go_wp2_with fail
  clear hcv
  refine (of_none _).mono ?_
  rintro e w1 ⟨rfl, hB1⟩
  have HB1 := Lib.hid hB1
  clear hB1
  go_wp2_with fail
  refine (HA.out _ _ (HB1.out.alloc HB1.out.size _) (blk_new _ _ _ _ rfl)).mono ?_
  rintro e w2 ⟨rfl, hB2⟩
  have HB2 := Lib.hid (HB1.out.trans ((below_up ((Below.refl _ w1).alloc (Nat.le_refl _) _) hB2).mono HB1.out.size))
  clear hB2
  go_wp2_with fail
  refine (HB_.out _ _ (HB2.out.alloc HB2.out.size _) (blk_new _ _ _ _ rfl)).mono ?_
  rintro e w3 ⟨rfl, hB3⟩
  have HB3 := Lib.hid (HB2.out.trans ((below_up ((Below.refl _ w2).alloc (Nat.le_refl _) _) hB3).mono HB2.out.size))
  clear hB3
  go_wp2_with fail
  refine (HA2.out _ _ (HB3.out.alloc HB3.out.size _) (blk_new _ _ _ _ rfl)).mono ?_
  rintro e w4 ⟨rfl, hB4⟩
  have HB4 := Lib.hid (HB3.out.trans ((below_up ((Below.refl _ w3).alloc (Nat.le_refl _) _) hB4).mono HB3.out.size))
  clear hB4
  go_wp2_with fail
  refine (HB2_.out _ _ (HB4.out.alloc HB4.out.size _) (blk_new _ _ _ _ rfl)).mono ?_
  rintro e w5 ⟨rfl, hB5⟩
  have HB5 := Lib.hid (HB4.out.trans ((below_up ((Below.refl _ w4).alloc (Nat.le_refl _) _) hB5).mono HB4.out.size))
  clear hB5
  go_wp2_with fail
  refine (HO.out _ HB5.out).mono ?_
  rintro e w6 ⟨rfl, hB6⟩
  have HB6 := Lib.hid (HB5.out.trans (hB6.mono HB5.out.size))
  clear hB6
  go_wp2_with fail
  refine (HO2.out _ HB6.out).mono ?_
  rintro e w7 ⟨rfl, hB7⟩
  have HB7 := Lib.hid (HB6.out.trans (hB7.mono HB6.out.size))
  clear hB7
  have hcv := HC.out w7 HB7.out
  go_wp2_with fail
  go_ret
  exact ⟨by simp, HB7.out⟩

set_option maxHeartbeats 1000000 in
theorem tells (w : World) (X : Option Addr) (c : Nat) (l : List Int) (hc : l.length ≤ c) (hm : c ≤ maxLen) (hr : Reads w w.heap.size 1 X l.length (l.map (Value.int .u8))) (hw : ∀ n ∈ l, (Lit.int .u8 n).wf = true)
    (Y : Option Addr) (d : Nat) (l' : List Int) (hc' : l'.length ≤ d) (hm' : d ≤ maxLen) (hr' : Reads w w.heap.size 1 Y l'.length (l'.map (Value.int .u8))) (hw' : ∀ n ∈ l', (Lit.int .u8 n).wf = true) (m : Int) (wm : (Lit.int .u32 m).wf = true) :
    Calls Try.prog 6 #[.slice X l.length c, .slice Y l'.length d, .int .u32 m] w fun e w' => e = .returned (.bool true) ∧ Below w.heap.size w w' := by
  obtain ⟨hm0, hm1⟩ := u32_bounds wm
  obtain ⟨b, rfl⟩ := of_bytes l (bytes_of hw)
  obtain ⟨b', rfl⟩ := of_bytes l' (bytes_of hw')
  rw [ints_length] at hr hc hr' hc' ⊢
  rw [ints_length]
  by_cases h1 : b.length ≤ 5000
  · by_cases h2 : b'.length ≤ 5000
    · exact tells_main w X c b hc hm hr Y d b' hc' hm' hr' m hm0 hm1 h1 h2
    · clear hr hw hr' hw' wm
      unfold maxLen at hm hm'
      go_enter Try.func6, Try.ntmps6
      go_wp2_with fail
      go_ret
      exact ⟨rfl, Below.refl _ _⟩
  · clear hr hw hr' hw' wm
    unfold maxLen at hm hm'
    go_enter Try.func6, Try.ntmps6
    go_wp2_with fail
    go_ret
    exact ⟨rfl, Below.refl _ _⟩
end Go.Proofs.Ytgnaadaihncgeaa.MarkTellsWalk
