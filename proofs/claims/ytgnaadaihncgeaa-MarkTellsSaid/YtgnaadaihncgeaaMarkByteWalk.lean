/- The walk of the law MarkByte: it returns true, and nothing that was there has turned. -/
import Derived.Test.YtgnaadaihncgeaaMarkLaws
import Derived.Deep.RegionHeld3
import Derived.Deep.RegionWith
import Derived.Deep.DeepCutAuto
namespace Go.Proofs.Ytgnaadaihncgeaa.MarkByteWalk
open Go.RowKit MarkMath MarkWalks Mem SeqKit MarkSeq MarkOf MarkLaws
set_option linter.unusedVariables false

theorem u8_info : (Try.prog.info? 5).map (fun i => (i.zero, i.size, i.bytes)) = some (some (.int .u8 0), 1, 1) := by kernel_rfl

/-- A part in a block that is known. -/
theorem parts_blk (w : World) (g : Nat) (t : TypeId) (X : Option Addr) (b : List B8) (c : Nat) (hb : Blk w g t #[.slice X b.length c]) (hR : Reads w w.heap.size 1 X b.length (u8s (ints b))) :
    Parts w w.heap.size (some ⟨g, 0, none⟩) ([b].map ints) := by
  refine ⟨[.slice X b.length c], ⟨rfl, fun _ => ⟨_, rfl, hb.lt, ?_⟩⟩, ?_⟩
  · intro j u hu
    cases j with
    | zero => cases hu; exact hb.cell 0
    | succ j => simp at hu
  · intro i l hl
    cases i with
    | zero => cases hl; exact ⟨X, c, by rw [ints_length]; rfl, by rw [ints_length]; exact hR⟩
    | succ i => simp at hl
theorem blk_new (w : World) (t : TypeId) (cs : Array Value) (g : Nat) (hg : g = w.heap.size) : Blk (w.alloc (.cells cs t)) g t cs := by subst hg; exact Blk.new w t cs
theorem blk_second (w : World) (o : Obj) (t : TypeId) (cs : Array Value) : Blk ((w.alloc o).alloc (.cells cs t)) (w.heap.size + 1) t cs := blk_new _ t cs _ (by simp)
theorem blk_up {W W' : World} {g : Nat} {t : TypeId} {cs : Array Value} (h : Blk W g t cs) (hB : Below W.heap.size W W') : Blk W' g t cs := h.below hB h.lt
theorem of_blk (X : Option Addr) (c g : Nat) (b : List B8) (hb : b.length ≤ 4611686018427387904) (w : World) (t : TypeId) (hg : Blk w g t #[.slice X b.length c]) (hR : Reads w w.heap.size 1 X b.length (u8s (ints b))) :
    Calls Try.prog 13 #[.slice (some ⟨g, 0, none⟩) 1 1] w fun e w' => e = .returned (.int .u32 (mk 0 (ints b))) ∧ Below w.heap.size w w' :=
  (of_any (some ⟨g, 0, none⟩) 1 [b] (by simp) (by simpa using hb) w (parts_blk w g t X b c hg hR)).mono fun e w' ⟨he, hB⟩ => ⟨by simpa using he, hB⟩

theorem of_blk_n (n : Nat) (X : Option Addr) (c g : Nat) (b : List B8) (hn : n = b.length) (hb : b.length ≤ 4611686018427387904) (w : World) (t : TypeId) (hg : Blk w g t #[.slice X n c]) (hR : Reads w w.heap.size 1 X b.length (u8s (ints b))) :
    Calls Try.prog 13 #[.slice (some ⟨g, 0, none⟩) 1 1] w fun e w' => e = .returned (.int .u32 (mk 0 (ints b))) ∧ Below w.heap.size w w' := by
  subst hn; exact of_blk X c g b hb w t hg hR
theorem below_up {w3 W W' : World} (h : Below w3.heap.size w3 W) (h2 : Below W.heap.size W W') : Below w3.heap.size w3 W' := h.trans (h2.mono h.size)
/-- What each world of the region keeps. -/
def Kept (w3 : World) (ad : Addr) (v : Value) (W : World) : Prop := Below w3.heap.size w3 W ∧ W.cell? ad = some v
theorem Kept.start {w3 : World} {ad : Addr} {v : Value} (h : w3.cell? ad = some v) : Kept w3 ad v w3.drew := ⟨(Below.refl _ _).drew, h⟩
theorem Kept.alloc {w3 W : World} {ad : Addr} {v : Value} (h : Kept w3 ad v W) (o : Obj) : Kept w3 ad v (W.alloc o) := ⟨h.1.alloc h.1.size o, cell_over o h.2⟩
theorem Kept.up {w3 W W' : World} {ad : Addr} {v : Value} (h : Kept w3 ad v W) (hB : Below W.heap.size W W') : Kept w3 ad v W' := ⟨below_up h.1 hB, by
  rw [hB.cell, h.2]
  rcases Nat.lt_or_ge ad.block W.heap.size with h1 | h1
  · exact h1
  · have h2 := h.2
    simp [World.cell?, Array.getElem?_eq_none h1] at h2⟩
set_option maxHeartbeats 1000000 in
theorem byte_main (w : World) (X : Option Addr) (c : Nat) (b : List B8) (hc : b.length ≤ c) (hm : c ≤ maxLen) (hr : Reads w w.heap.size 1 X b.length (u8s (ints b))) (at_ : Int) (ha0 : 0 ≤ at_) (ha1 : at_ ≤ 65535) (is_ : B8) (h0 : 0 < b.length) (h1 : b.length ≤ 5000) :
    Calls Try.prog 4 #[.slice X b.length c, .int .u16 at_, .int .u8 is_.1] w fun e w' => e = .returned (.bool true) ∧ Below w.heap.size w w' := by
  obtain ⟨i0, hi0, hz0, hz1, hz2⟩ := info_parts u8_info
  have HR := Lib.hid hr
  clear hr
  unfold maxLen at hm
  have hne : ((b.length : Int) == 0) = false := by rw [beq_eq_false_iff_ne]; omega
  obtain ⟨k, hk⟩ : ∃ k : Nat, at_ % (b.length : Int) = (k : Int) := ⟨(at_ % (b.length : Int)).toNat, (Int.toNat_of_nonneg (Int.emod_nonneg at_ (show (b.length : Int) ≠ 0 by omega))).symm⟩
  have hkl : k < b.length := by have := Int.emod_lt_of_pos at_ (show 0 < (b.length : Int) by omega); omega
  obtain ⟨adx, ux, hX, hadx, hux, hcx⟩ := HR.out.at_ hkl
  have hux' : ux = .int .u8 b[k].1 := by simp [u8s, ints, hkl] at hux; exact hux.symm
  subst hux'
  subst hX
  have HCX := Lib.hid hcx
  have HUX := Lib.hid hux
  clear hcx hux
  go_enter Try.func4, Try.ntmps4
  go_wp2_with fail
  refine (alive_any _).mono ?_
  rintro e w1 ⟨rfl, hB1⟩
  have HB1 := Lib.hid hB1
  clear hB1
  go_wp2_with (at_builtin; refine wpList_append_any _ rfl (.tmp 24) (.tmp 25) _ rfl w1.heap.size 5 i0 _ 1 1 Try.underlying29 hi0 hz0 hz1 hz2 rfl (by omega) (.slice none 0 0) 0 [] rfl ⟨by simp, .inl ⟨rfl, rfl⟩⟩ w1.heap.size (some adx) b.length c (u8s (ints b)) rfl ((HR.out.below HB1.out).more HB1.out.size) (by simp [u8s, Value.oneCell']) (by simp only [maxLen]; omega) (by omega) (Nat.le_refl _) ?_; intro v2 w2 hown2 hg2 hat2; obtain ⟨g, cap, hv2, hgl, hbl⟩ := hown2.form (by omega); rw [hv2]; rw [hv2] at hown2; rw [Nat.zero_add, List.nil_append] at hown2; have hc2 := hown2.cellAt k (by omega); have hf2 := hown2.frozenAt k; rw [HUX.out] at hc2; have HO := Lib.hid hown2; have HG := Lib.hid hg2; clear hown2 hg2 hat2 hv2; rw [Nat.zero_add])
  have hst := HO.out.stored k (.int .u8 is_.1)
  have hB3 : Below w.heap.size w (w2.setCell ⟨g, k, none⟩ (.int .u8 is_.1)) := ((HB1.out.grown HG.out HB1.out.size (fun j e => by simp [Value.ownBlock] at e)).setCell (p := ⟨g, k, none⟩) (by have := HB1.out.size; show w.heap.size ≤ g; omega) _)
  have hR3 : Reads (w2.setCell ⟨g, k, none⟩ (.int .u8 is_.1)) (w2.setCell ⟨g, k, none⟩ (.int .u8 is_.1)).heap.size 1 (some ⟨g, 0, none⟩) (b.set k is_).length (u8s (ints (b.set k is_))) := by
    have h := Reads.of_own hst.1
    rw [List.length_set, show u8s (ints (b.set k is_)) = (u8s (ints b)).set k (.int .u8 is_.1) from by simp [u8s, ints, List.map_set]]
    exact h
  generalize w2.setCell ⟨g, k, none⟩ (.int .u8 is_.1) = w3 at *
  have HB3 := Lib.hid hB3
  have HR3 := Lib.hid hR3
  clear hB3 hR3 hst HG HO
  have hcx3 : w3.cell? (adx.add k) = some (.int .u8 b[k].1) := (HB3.out.cell (by rw [block_of_add]; exact hadx)).trans HCX.out
  have K0 : Kept w3 (adx.add k) (.int .u8 b[k].1) w3.drew := .start hcx3
  have H1 : Hid (∀ (W : World) (gg : Nat), Below w3.heap.size w3 W → Blk W gg 29 #[.slice (some ⟨g, 0, none⟩) b.length cap] →
      Calls Try.prog 13 #[.slice (some ⟨gg, 0, none⟩) 1 1] W fun e w' => e = .returned (.int .u32 (mk 0 (ints (b.set k is_)))) ∧ Below W.heap.size W w') :=
    fun W gg hW hg => of_blk_n _ _ cap gg (b.set k is_) (by simp) (by simp; omega) W _ hg ((HR3.out.below hW).more hW.size)
  have H2 : Hid (∀ (W : World) (gg : Nat), Below w3.heap.size w3 W → Blk W gg 29 #[.slice (some adx) b.length c] →
      Calls Try.prog 13 #[.slice (some ⟨gg, 0, none⟩) 1 1] W fun e w' => e = .returned (.int .u32 (mk 0 (ints b))) ∧ Below W.heap.size W w') :=
    fun W gg hW hg => of_blk_n _ _ c gg b rfl (by omega) W _ hg (((HR.out.below HB3.out).more HB3.out.size |>.below hW).more hW.size)
  have E := Lib.hid (mk_set (ints b) k is_.1 (by rw [ints_length]; exact hkl) (ints_bytes b) is_.2)
  have E2 : Hid (ints (b.set k is_) = (ints b).set k is_.1) := by show ints (b.set k is_) = (ints b).set k is_.1; simp [ints, List.map_set]
  have E3 : Hid ((ints b)[k]'(by rw [ints_length]; exact hkl) = b[k].1) := by show (ints b)[k]'(by rw [ints_length]; exact hkl) = b[k].1; simp [ints]
  go_region_held3 (fun W => Below w3.heap.size w3 W ∧ W.cell? (adx.add k) = some (.int .u8 b[k].1)) (first | exact K0 | exact Kept.alloc (by assumption) _ | exact Kept.up (by assumption) (by assumption))
    (first
      | (go_at_call 13; refine (H1.out _ _ (And.left (by assumption)) ?_).mono ?_; (first | exact Blk.drew (blk_new _ _ _ _ rfl) | exact Blk.drew (Blk.alloc (blk_new _ _ _ _ rfl) _) | exact Blk.drew (blk_second _ _ _ _) | exact blk_new _ _ _ _ rfl); rintro e w5 ⟨rfl, hB5⟩)
      | (go_at_call 13; refine (H2.out _ _ (And.left (by assumption)) ?_).mono ?_; (first | exact blk_new _ _ _ _ rfl | exact blk_up (Blk.drew (Blk.alloc (blk_new _ _ _ _ rfl) _)) (by assumption) | exact blk_up (Blk.drew (blk_second _ _ _ _)) (by assumption)); rintro e w6 ⟨rfl, hB6⟩))
  all_goals
    have e3 : ((mk 0 (ints (b.set k is_)) == mk 0 (ints b)) == (is_.1 == b[k].1)) = true := by
      have e := E.out
      rw [← E2.out, E3.out] at e
      simp [e, Bool.beq_eq_decide_eq]
    go_wp2
    go_ret
    exact ⟨by simpa using e3, HB3.out.trans (Below.mono (And.left (by assumption)) HB3.out.size)⟩

set_option maxHeartbeats 1000000 in
theorem byte (w : World) (X : Option Addr) (c : Nat) (l : List Int) (hc : l.length ≤ c) (hm : c ≤ maxLen) (hr : Reads w w.heap.size 1 X l.length (l.map (Value.int .u8))) (hw : ∀ n ∈ l, (Lit.int .u8 n).wf = true) (a : Int) (wa : (Lit.int .u16 a).wf = true) (i : Int) (wi : (Lit.int .u8 i).wf = true) :
    Calls Try.prog 4 #[.slice X l.length c, .int .u16 a, .int .u8 i] w fun e w' => e = .returned (.bool true) ∧ Below w.heap.size w w' := by
  obtain ⟨ha0, ha1⟩ := u16_bounds wa
  obtain ⟨b, rfl⟩ := of_bytes l (bytes_of hw)
  have hi := u8_bounds wi
  rw [ints_length] at hr hc ⊢
  by_cases h : 0 < b.length ∧ b.length ≤ 5000
  · exact byte_main w X c b hc hm hr a ha0 ha1 ⟨i, hi⟩ h.1 h.2
  · clear hr hw wa wi
    unfold maxLen at hm
    by_cases h0 : 0 < b.length
    · have h1 : ¬ b.length ≤ 5000 := fun h1 => h ⟨h0, h1⟩
      have hne : ((b.length : Int) == 0) = false := by rw [beq_eq_false_iff_ne]; omega
      clear h
      go_enter Try.func4, Try.ntmps4
      go_wp2_with fail
      refine (alive_any _).mono ?_
      rintro e w1 ⟨rfl, hB1⟩
      have HB1 := Lib.hid hB1
      clear hB1
      go_wp2_with fail
      go_ret
      exact ⟨rfl, HB1.out⟩
    · have hz : ((b.length : Int) == 0) = true := by rw [beq_iff_eq]; omega
      clear h
      go_enter Try.func4, Try.ntmps4
      go_wp2_with fail
      refine (alive_any _).mono ?_
      rintro e w1 ⟨rfl, hB1⟩
      have HB1 := Lib.hid hB1
      clear hB1
      go_wp2_with fail
      go_ret
      exact ⟨rfl, HB1.out⟩
end Go.Proofs.Ytgnaadaihncgeaa.MarkByteWalk
