/- The walk of the law MarkCut: it returns true, and nothing that was there has turned. -/
import Derived.Test.YtgnaadaihncgeaaMarkSwapWalk
namespace Go.Proofs.Ytgnaadaihncgeaa.MarkCutWalk
open Go.RowKit MarkMath MarkWalks Mem SeqKit MarkSeq MarkOf MarkLaws MarkByteWalk MarkSwapWalk
set_option linter.unusedVariables false

theorem reads_take {w : World} {B n k : Nat} {A : Option Addr} {xs : List Value} (h : Reads w B 1 A n xs) (hk : k ≤ n) : Reads w B 1 A k (xs.take k) := by
  refine ⟨by have := h.1; simp; omega, fun hn => ?_⟩
  obtain ⟨ad, e, hb, hc⟩ := h.2 (by omega)
  refine ⟨ad, e, hb, fun j u hu => hc j u ?_⟩
  rw [List.getElem?_take] at hu
  split at hu
  · exact hu
  · cases hu
theorem ints_take (b : List B8) (k : Nat) : u8s (ints (b.take k)) = (u8s (ints b)).take k := by simp [u8s, ints, List.map_take]
theorem ints_drop (b : List B8) (k : Nat) : u8s (ints (b.drop k)) = (u8s (ints b)).drop k := by simp [u8s, ints, List.map_drop]
theorem ints_app (a b : List B8) : ints (a ++ b) = ints a ++ ints b := by simp [ints]
theorem parts_blk2 (w : World) (g : Nat) (t : TypeId) (X Y : Option Addr) (b d : List B8) (n n' c c' : Nat) (hn : n = b.length) (hn' : n' = d.length) (hb : Blk w g t #[.slice X n c, .slice Y n' c']) (hR : Reads w w.heap.size 1 X b.length (u8s (ints b))) (hS : Reads w w.heap.size 1 Y d.length (u8s (ints d))) :
    Parts w w.heap.size (some ⟨g, 0, none⟩) ([b, d].map ints) := by
  subst hn; subst hn'
  refine ⟨[.slice X b.length c, .slice Y d.length c'], ⟨rfl, fun _ => ⟨_, rfl, hb.lt, ?_⟩⟩, ?_⟩
  · intro j u hu
    match j with
    | 0 => cases hu; exact hb.cell 0
    | 1 => cases hu; rw [add_flat]; exact hb.cell 1
    | j + 2 => simp at hu
  · intro i l hl
    match i with
    | 0 => cases hl; exact ⟨X, c, by rw [ints_length]; rfl, by rw [ints_length]; exact hR⟩
    | 1 => cases hl; exact ⟨Y, c', by rw [ints_length]; rfl, by rw [ints_length]; exact hS⟩
    | i + 2 => simp at hl

/-- A mark in two parts: behind the first one, and joined. -/
theorem cut_mk (b : List B8) (k : Nat) : mk (mk 0 (ints (b.take k))) (ints (b.drop k)) = mk 0 (ints b) := by
  rw [← mk_app, ← ints_app, List.take_append_drop]
theorem cut_R (b : List B8) (k : Nat) : R (mk 0 (ints b)) (mk 0 (ints (b.take k)) * 65537 ^ (b.length - k) + mk 0 (ints (b.drop k))) := by
  have h := mk_behind_R (ints (b.drop k)) (mk 0 (ints (b.take k)))
  rw [cut_mk, ints_length, List.length_drop] at h
  exact h

/-- What each world of a region keeps. -/
def Kept1 (w W : World) : Prop := Below w.heap.size w W ∧ w.heap.size ≤ W.heap.size
theorem Kept1.start {w W : World} (h : Below w.heap.size w W) : Kept1 w W.drew := ⟨h.drew, h.size⟩
theorem Kept1.alloc {w W : World} (h : Kept1 w W) (o : Obj) : Kept1 w (W.alloc o) := ⟨h.1.alloc h.2 o, by have := h.2; simp; omega⟩
theorem Kept1.up {w W W' : World} (h : Kept1 w W) (hB : Below W.heap.size W W') : Kept1 w W' := ⟨h.1.trans (hB.mono h.2), Nat.le_trans h.2 hB.size⟩
set_option maxHeartbeats 8000000 in
theorem cut_main (w : World) (X : Option Addr) (c : Nat) (b : List B8) (hc : b.length ≤ c) (hm : c ≤ maxLen) (hr : Reads w w.heap.size 1 X b.length (u8s (ints b))) (at_ : Int) (ha0 : 0 ≤ at_) (ha1 : at_ ≤ 65535) (h1 : b.length ≤ 5000) :
    Calls Try.prog 9 #[.slice X b.length c, .int .u16 at_] w fun e w' => e = .returned (.bool true) ∧ Below w.heap.size w w' := by
  have HR := Lib.hid hr
  clear hr
  unfold maxLen at hm
  obtain ⟨k, hk⟩ : ∃ k : Nat, at_ % ((b.length : Int) + 1) = (k : Int) := ⟨(at_ % ((b.length : Int) + 1)).toNat, (Int.toNat_of_nonneg (Int.emod_nonneg at_ (show ((b.length : Int) + 1) ≠ 0 by omega))).symm⟩
  have hkl : k ≤ b.length := by have := Int.emod_lt_of_pos at_ (show 0 < (b.length : Int) + 1 by omega); omega
  have hkc : k ≤ c := by omega
  have hmr := mk_range (ints b) 0 (by omega) (by omega)
  obtain ⟨hm0, hm1⟩ := hmr
  have hR1 : Hid (∀ W : World, Below w.heap.size w W → Reads W W.heap.size 1 X k (u8s (ints (b.take k)))) := fun W hW => by
    rw [ints_take]; exact reads_take ((HR.out.below hW).more hW.size) hkl
  have hR2 : Hid (∀ W : World, Below w.heap.size w W → Reads W W.heap.size 1 (if c = k then X else X.map (·.add k)) (b.length - k) (u8s (ints (b.drop k)))) := fun W hW => by
    rw [ints_drop]
    have h := ((HR.out.below hW).more hW.size).cut (cap := c) (k := k) hkl hc
    rw [Nat.mul_one] at h
    exact h
  have hL1 : (b.take k).length = k := by rw [List.length_take]; omega
  have hL2 : (b.drop k).length = b.length - k := by rw [List.length_drop]
  have HL1 := Lib.hid hL1
  have HL2 := Lib.hid hL2
  clear hL1 hL2
  have HA : Hid (∀ (W : World) (gg : Nat), Below w.heap.size w W → Blk W gg 29 #[.slice X b.length c] →
      Calls Try.prog 13 #[.slice (some ⟨gg, 0, none⟩) 1 1] W fun e w' => e = .returned (.int .u32 (mk 0 (ints b))) ∧ Below W.heap.size W w') :=
    fun W gg hW hg => of_blk_n _ _ c gg b rfl (by omega) W _ hg ((HR.out.below hW).more hW.size)
  have HP : Hid (∀ (W : World) (gg : Nat), Below w.heap.size w W → Blk W gg 29 #[.slice X k c] →
      Calls Try.prog 13 #[.slice (some ⟨gg, 0, none⟩) 1 1] W fun e w' => e = .returned (.int .u32 (mk 0 (ints (b.take k)))) ∧ Below W.heap.size W w') :=
    fun W gg hW hg => of_blk_n _ _ c gg (b.take k) HL1.out.symm (by rw [HL1.out]; omega) W _ hg (by rw [HL1.out]; exact hR1.out W hW)
  have HQ : Hid (∀ (W : World) (gg : Nat), Below w.heap.size w W → Blk W gg 29 #[.slice (if c = k then X else X.map (·.add k)) (b.length - k) (c - k)] →
      Calls Try.prog 13 #[.slice (some ⟨gg, 0, none⟩) 1 1] W fun e w' => e = .returned (.int .u32 (mk 0 (ints (b.drop k)))) ∧ Below W.heap.size W w') :=
    fun W gg hW hg => of_blk_n _ _ _ gg (b.drop k) HL2.out.symm (by rw [HL2.out]; omega) W _ hg (by rw [HL2.out]; exact hR2.out W hW)
  have hp := mk_range (ints (b.take k)) 0 (by omega) (by omega)
  have hq := mk_range (ints (b.drop k)) 0 (by omega) (by omega)
  have HJ : Hid (∀ W : World, Calls Try.prog 10 #[.int .u32 (mk 0 (ints (b.take k))), .int .u32 (mk 0 (ints (b.drop k))), .int .i64 ((b.length : Int) - (k : Int))] W fun e w' => e = .returned (.tuple #[.int .u32 (mk 0 (ints b)), .int .i64 0]) ∧ W = w') := fun W => by
    rw [show (b.length : Int) - (k : Int) = ((b.length - k : Nat) : Int) from by omega]
    refine (join_any _ _ _ W (by omega) (by omega) (by omega) (by omega) (by omega)).mono ?_
    rintro e w' ⟨⟨v, rfl, hv0, hv1, hv⟩, rfl⟩
    rw [R_eq ⟨hv0, hv1⟩ ⟨hm0, hm1⟩ hv (cut_R b k)]
    exact ⟨rfl, rfl⟩
  have HT : Hid (∀ (W : World) (gg : Nat), Below w.heap.size w W → Blk W gg 29 #[.slice X k c, .slice (if c = k then X else X.map (·.add k)) (b.length - k) (c - k)] →
      Calls Try.prog 13 #[.slice (some ⟨gg, 0, none⟩) 2 2] W fun e w' => e = .returned (.int .u32 (mk 0 (ints b))) ∧ Below W.heap.size W w') := fun W gg hW hg => by
    have h := of_any (some ⟨gg, 0, none⟩) 2 [b.take k, b.drop k] (by simp) (by simp only [List.mem_cons, List.not_mem_nil, or_false, forall_eq_or_imp, forall_eq, HL1.out, HL2.out]; omega) W (parts_blk2 W gg _ X _ (b.take k) (b.drop k) k (b.length - k) c (c - k) HL1.out.symm HL2.out.symm hg (by rw [HL1.out]; exact hR1.out W hW) (by rw [HL2.out]; exact hR2.out W hW))
    exact h.mono fun e w' ⟨he, hB⟩ => ⟨by rw [he]; simp, hB⟩
  have HO : Hid (∀ W : World, Below w.heap.size w W → Calls Try.prog 15 #[.int .u32 (mk 0 (ints (b.take k))), .slice (if c = k then X else X.map (·.add k)) (b.length - k) (c - k)] W fun e w' => e = .returned (.int .u32 (mk 0 (ints b))) ∧ Below W.heap.size W w') := fun W hW => by
    have h := on_any (mk 0 (ints (b.take k))) hp.1 (by omega) (if c = k then X else X.map (·.add k)) (c - k) (b.drop k) (by rw [HL2.out]; omega) W (by rw [HL2.out]; exact hR2.out W hW)
    rw [HL2.out] at h
    exact h.mono fun e w' ⟨he, hB⟩ => ⟨by rw [he, Int.emod_eq_of_lt hp.1 hp.2, cut_mk], hB⟩
  clear hp hq
  generalize mk 0 (ints (b.take k)) = mp at *
  generalize mk 0 (ints (b.drop k)) = mq at *
  generalize mk 0 (ints b) = m at *
  clear hR1 hR2 HR
  by_cases hck : c = k
  · obtain rfl : k = c := hck.symm
    have hz : b.length - k = 0 := by omega
    simp only [if_true, Nat.sub_self, hz] at HQ HT HO
    clear hz
    go_enter Try.func9, Try.ntmps9
    go_wp2_with fail
    refine (alive_any _).mono ?_
    rintro e w1 ⟨rfl, hB1⟩
    have HB1 := Lib.hid hB1
    clear hB1
    go_wp2_with fail
    simp only [hk]
    refine (HA.out _ _ (HB1.out.alloc HB1.out.size _) (blk_new _ _ _ _ rfl)).mono ?_
    rintro e w2 ⟨rfl, hB2⟩
    have HB2 := Lib.hid (HB1.out.trans (((Below.refl _ w1).alloc (Nat.le_refl _) _).trans (hB2.mono (by simp)) |>.mono HB1.out.size))
    clear hB2
    go_wp2_with fail
    have B0 : Kept1 w w2.drew := .start HB2.out
    have s1 : IntKind.i64.wrap ((b.length : Int) - (k : Int)) = (b.length : Int) - (k : Int) := IntWalk.i64_in _ (by omega)
    go_region_held3 (fun W => Below w.heap.size w W ∧ w.heap.size ≤ W.heap.size) (first | exact B0 | exact Kept1.alloc (by assumption) _ | exact Kept1.up (by assumption) (by assumption) | assumption)
      (first
        | (go_at_call 13; refine (HP.out _ _ (And.left (by assumption)) ?_).mono ?_; (first | exact Blk.drew (blk_new _ _ _ _ rfl) | exact Blk.drew (Blk.alloc (blk_new _ _ _ _ rfl) _) | exact Blk.drew (blk_second _ _ _ _) | exact blk_new _ _ _ _ rfl); rintro e w5 ⟨rfl, hB5⟩)
        | (go_at_call 13; refine (HQ.out _ _ (And.left (by assumption)) ?_).mono ?_; (first | exact blk_new _ _ _ _ rfl | exact blk_up (Blk.drew (Blk.alloc (blk_new _ _ _ _ rfl) _)) (by assumption) | exact blk_up (Blk.drew (blk_second _ _ _ _)) (by assumption)); rintro e w6 ⟨rfl, hB6⟩)
        | (go_at_call 10; refine (HJ.out _).mono ?_; rintro e w7 ⟨rfl, rfl⟩))
    all_goals
      go_wp2_with fail
      go_region_held3 (fun W => Below w.heap.size w W ∧ w.heap.size ≤ W.heap.size) (first | exact Kept1.start (And.left (by assumption)) | exact Kept1.alloc (by assumption) _ | exact Kept1.up (by assumption) (by assumption) | assumption)
        (first
          | (go_at_call 13; (with_reducible refine (HT.out _ _ (And.left (by assumption)) ?_).mono ?_); (first | exact Blk.drew (blk_new _ _ _ _ rfl) | exact blk_new _ _ _ _ rfl); rintro e w8 ⟨rfl, hB8⟩)
          | (go_at_call 13; (with_reducible refine (HP.out _ _ (And.left (by assumption)) ?_).mono ?_); (first | exact Blk.drew (blk_new _ _ _ _ rfl) | exact blk_new _ _ _ _ rfl); rintro e w9 ⟨rfl, hB9⟩)
          | (go_at_call 15; refine (HO.out _ (And.left (by assumption))).mono ?_; rintro e w10 ⟨rfl, hB10⟩))
      all_goals
        go_wp2
        go_ret
        exact ⟨by simp, And.left (by assumption)⟩
  · simp only [if_neg hck] at HQ HT HO
    go_enter Try.func9, Try.ntmps9
    go_wp2_with fail
    refine (alive_any _).mono ?_
    rintro e w1 ⟨rfl, hB1⟩
    have HB1 := Lib.hid hB1
    clear hB1
    go_wp2_with fail
    simp only [hk]
    refine (HA.out _ _ (HB1.out.alloc HB1.out.size _) (blk_new _ _ _ _ rfl)).mono ?_
    rintro e w2 ⟨rfl, hB2⟩
    have HB2 := Lib.hid (HB1.out.trans (((Below.refl _ w1).alloc (Nat.le_refl _) _).trans (hB2.mono (by simp)) |>.mono HB1.out.size))
    clear hB2
    go_wp2_with fail
    have B0 : Kept1 w w2.drew := .start HB2.out
    have s1 : IntKind.i64.wrap ((b.length : Int) - (k : Int)) = (b.length : Int) - (k : Int) := IntWalk.i64_in _ (by omega)
    go_region_held3 (fun W => Below w.heap.size w W ∧ w.heap.size ≤ W.heap.size) (first | exact B0 | exact Kept1.alloc (by assumption) _ | exact Kept1.up (by assumption) (by assumption) | assumption)
      (first
        | (go_at_call 13; refine (HP.out _ _ (And.left (by assumption)) ?_).mono ?_; (first | exact Blk.drew (blk_new _ _ _ _ rfl) | exact Blk.drew (Blk.alloc (blk_new _ _ _ _ rfl) _) | exact Blk.drew (blk_second _ _ _ _) | exact blk_new _ _ _ _ rfl); rintro e w5 ⟨rfl, hB5⟩)
        | (go_at_call 13; refine (HQ.out _ _ (And.left (by assumption)) ?_).mono ?_; (first | exact blk_new _ _ _ _ rfl | exact blk_up (Blk.drew (Blk.alloc (blk_new _ _ _ _ rfl) _)) (by assumption) | exact blk_up (Blk.drew (blk_second _ _ _ _)) (by assumption)); rintro e w6 ⟨rfl, hB6⟩)
        | (go_at_call 10; refine (HJ.out _).mono ?_; rintro e w7 ⟨rfl, rfl⟩))
    all_goals
      go_wp2_with fail
      go_region_held3 (fun W => Below w.heap.size w W ∧ w.heap.size ≤ W.heap.size) (first | exact Kept1.start (And.left (by assumption)) | exact Kept1.alloc (by assumption) _ | exact Kept1.up (by assumption) (by assumption) | assumption)
        (first
          | (go_at_call 13; (with_reducible refine (HT.out _ _ (And.left (by assumption)) ?_).mono ?_); (first | exact Blk.drew (blk_new _ _ _ _ rfl) | exact blk_new _ _ _ _ rfl); rintro e w8 ⟨rfl, hB8⟩)
          | (go_at_call 13; (with_reducible refine (HP.out _ _ (And.left (by assumption)) ?_).mono ?_); (first | exact Blk.drew (blk_new _ _ _ _ rfl) | exact blk_new _ _ _ _ rfl); rintro e w9 ⟨rfl, hB9⟩)
          | (go_at_call 15; refine (HO.out _ (And.left (by assumption))).mono ?_; rintro e w10 ⟨rfl, hB10⟩))
      all_goals
        go_wp2
        go_ret
        exact ⟨by simp, And.left (by assumption)⟩

set_option maxHeartbeats 1000000 in
theorem cut (w : World) (X : Option Addr) (c : Nat) (l : List Int) (hc : l.length ≤ c) (hm : c ≤ maxLen) (hr : Reads w w.heap.size 1 X l.length (l.map (Value.int .u8))) (hw : ∀ n ∈ l, (Lit.int .u8 n).wf = true) (a : Int) (wa : (Lit.int .u16 a).wf = true) :
    Calls Try.prog 9 #[.slice X l.length c, .int .u16 a] w fun e w' => e = .returned (.bool true) ∧ Below w.heap.size w w' := by
  obtain ⟨ha0, ha1⟩ := u16_bounds wa
  obtain ⟨b, rfl⟩ := of_bytes l (bytes_of hw)
  rw [ints_length] at hr hc ⊢
  by_cases h1 : b.length ≤ 5000
  · exact cut_main w X c b hc hm hr a ha0 ha1 h1
  · clear hr hw wa
    unfold maxLen at hm
    go_enter Try.func9, Try.ntmps9
    go_wp2_with fail
    refine (alive_any _).mono ?_
    rintro e w1 ⟨rfl, hB1⟩
    have HB1 := Lib.hid hB1
    clear hB1
    go_wp2_with fail
    go_ret
    exact ⟨rfl, HB1.out⟩
end Go.Proofs.Ytgnaadaihncgeaa.MarkCutWalk
