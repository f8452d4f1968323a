/- The walk of the law MarkSwap: it returns true, and nothing that was there has turned. -/
import Derived.Test.YtgnaadaihncgeaaMarkByteWalk
import Derived.BigRegion
namespace Go.Proofs.Ytgnaadaihncgeaa.MarkSwapWalk
open Go.RowKit MarkMath MarkWalks Mem SeqKit MarkSeq MarkOf MarkLaws MarkByteWalk
set_option linter.unusedVariables false

/-- What each world of the region keeps. -/
def Kept2 (w3 : World) (ad ae : Addr) (v u : Value) (W : World) : Prop := Below w3.heap.size w3 W ∧ W.cell? ad = some v ∧ W.cell? ae = some u
theorem cell_lt {w : World} {a : Addr} {v : Value} (h : w.cell? a = some v) : a.block < w.heap.size := by
  rcases Nat.lt_or_ge a.block w.heap.size with h1 | h1
  · exact h1
  · simp [World.cell?, Array.getElem?_eq_none h1] at h
theorem Kept2.start {w3 : World} {ad ae : Addr} {v u : Value} (h : w3.cell? ad = some v) (h2 : w3.cell? ae = some u) : Kept2 w3 ad ae v u w3.drew := ⟨(Below.refl _ _).drew, h, h2⟩
theorem Kept2.alloc {w3 W : World} {ad ae : Addr} {v u : Value} (h : Kept2 w3 ad ae v u W) (o : Obj) : Kept2 w3 ad ae v u (W.alloc o) := ⟨h.1.alloc h.1.size o, cell_over o h.2.1, cell_over o h.2.2⟩
theorem Kept2.up {w3 W W' : World} {ad ae : Addr} {v u : Value} (h : Kept2 w3 ad ae v u W) (hB : Below W.heap.size W W') : Kept2 w3 ad ae v u W' :=
  ⟨below_up h.1 hB, (hB.cell (cell_lt h.2.1)).trans h.2.1, (hB.cell (cell_lt h.2.2)).trans h.2.2⟩
set_option maxHeartbeats 1000000 in
theorem swap_main (w : World) (X : Option Addr) (c : Nat) (b : List B8) (hc : b.length ≤ c) (hm : c ≤ maxLen) (hr : Reads w w.heap.size 1 X b.length (u8s (ints b))) (at_ : Int) (ha0 : 0 ≤ at_) (ha1 : at_ ≤ 65535) (h0 : 2 ≤ b.length) (h1 : b.length ≤ 5000) :
    Calls Try.prog 5 #[.slice X b.length c, .int .u16 at_] w fun e w' => e = .returned (.bool true) ∧ Below w.heap.size w w' := by
  obtain ⟨i0, hi0, hz0, hz1, hz2⟩ := info_parts u8_info
  have HR := Lib.hid hr
  clear hr
  unfold maxLen at hm
  have hne : ((b.length : Int) < 2) = False := by simp; omega
  obtain ⟨k, hk⟩ : ∃ k : Nat, at_ % ((b.length : Int) - 1) = (k : Int) := ⟨(at_ % ((b.length : Int) - 1)).toNat, (Int.toNat_of_nonneg (Int.emod_nonneg at_ (show ((b.length : Int) - 1) ≠ 0 by omega))).symm⟩
  have hkl : k + 1 < b.length := by have := Int.emod_lt_of_pos at_ (show 0 < (b.length : Int) - 1 by omega); omega
  have hk0 : k < b.length := by omega
  obtain ⟨xb, xo, hX, hadx, hcells⟩ := HR.out.flat (by omega)
  have hux : (u8s (ints b))[k]? = some (.int .u8 b[k].1) := by simp [u8s, ints, hk0]
  have huy : (u8s (ints b))[k + 1]? = some (.int .u8 b[k + 1].1) := by simp [u8s, ints, hkl]
  have hcx := hcells _ _ hux
  have hcy := hcells _ _ huy
  subst hX
  have HCX := Lib.hid hcx
  have HCY := Lib.hid hcy
  have HUX := Lib.hid hux
  have HUY := Lib.hid huy
  clear hcells
  clear hcx hcy hux huy
  go_enter Try.func5, Try.ntmps5
  go_wp2_with fail
  refine (alive_any _).mono ?_
  rintro e w1 ⟨rfl, hB1⟩
  have HB1 := Lib.hid hB1
  clear hB1
  go_wp2_with (at_builtin; refine wpList_append_any _ rfl (.tmp 22) (.tmp 23) _ rfl w1.heap.size 5 i0 _ 1 1 Try.underlying29 hi0 hz0 hz1 hz2 rfl (by omega) (.slice none 0 0) 0 [] rfl ⟨by simp, .inl ⟨rfl, rfl⟩⟩ w1.heap.size (some ⟨xb, xo, none⟩) b.length c (u8s (ints b)) rfl ((HR.out.below HB1.out).more HB1.out.size) (by simp [u8s, Value.oneCell']) (by simp only [maxLen]; omega) (by omega) (Nat.le_refl _) ?_; intro v2 w2 hown2 hg2 hat2; obtain ⟨g, cap, hv2, hgl, hbl⟩ := hown2.form (by omega); rw [hv2]; rw [hv2] at hown2; rw [Nat.zero_add, List.nil_append] at hown2; have hc2 := hown2.cellAt k (by omega); have hf2 := hown2.frozenAt k; rw [HUX.out] at hc2; have hc3 := hown2.cellAt (k + 1) (by omega); have hf3 := hown2.frozenAt (k + 1); rw [HUY.out] at hc3; have HO := Lib.hid hown2; have HG := Lib.hid hg2; clear hown2 hg2 hat2 hv2; rw [Nat.zero_add])
  simp only [hk]
  go_region
  have hst := (HO.out.stored k (.int .u8 b[k + 1].1)).1.stored (k + 1) (.int .u8 b[k].1)
  have hB3 : Below w.heap.size w ((w2.setCell ⟨g, k, none⟩ (.int .u8 b[k + 1].1)).setCell ⟨g, k + 1, none⟩ (.int .u8 b[k].1)).drew := (((HB1.out.grown HG.out HB1.out.size (fun j e => by simp [Value.ownBlock] at e)).setCell (p := ⟨g, k, none⟩) (by have := HB1.out.size; show w.heap.size ≤ g; omega) _).setCell (p := ⟨g, k + 1, none⟩) (by have := HB1.out.size; show w.heap.size ≤ g; omega) _).drew
  have hR3 : Reads ((w2.setCell ⟨g, k, none⟩ (.int .u8 b[k + 1].1)).setCell ⟨g, k + 1, none⟩ (.int .u8 b[k].1)).drew ((w2.setCell ⟨g, k, none⟩ (.int .u8 b[k + 1].1)).setCell ⟨g, k + 1, none⟩ (.int .u8 b[k].1)).drew.heap.size 1 (some ⟨g, 0, none⟩) ((b.set k b[k + 1]).set (k + 1) b[k]).length (u8s (ints ((b.set k b[k + 1]).set (k + 1) b[k]))) := by
    have h := Reads.of_own hst.1
    rw [List.length_set, List.length_set, show u8s (ints ((b.set k b[k + 1]).set (k + 1) b[k])) = ((u8s (ints b)).set k (.int .u8 b[k + 1].1)).set (k + 1) (.int .u8 b[k].1) from by simp [u8s, ints, List.map_set]]
    exact h
  generalize ((w2.setCell ⟨g, k, none⟩ (.int .u8 b[k + 1].1)).setCell ⟨g, k + 1, none⟩ (.int .u8 b[k].1)).drew = w3 at *
  have HB3 := Lib.hid hB3
  have HR3 := Lib.hid hR3
  clear hB3 hR3 hst HG HO
  have hcx3 : w3.cell? ⟨xb, xo + k, none⟩ = some (.int .u8 b[k].1) := (HB3.out.cell hadx).trans HCX.out
  have hcy3 : w3.cell? ⟨xb, xo + (k + 1), none⟩ = some (.int .u8 b[k + 1].1) := (HB3.out.cell hadx).trans HCY.out
  have K0 : Kept2 w3 ⟨xb, xo + k, none⟩ ⟨xb, xo + (k + 1), none⟩ (.int .u8 b[k].1) (.int .u8 b[k + 1].1) w3.drew := .start hcx3 hcy3
  have H1 : Hid (∀ (W : World) (gg : Nat), Below w3.heap.size w3 W → Blk W gg 29 #[.slice (some ⟨g, 0, none⟩) b.length cap] →
      Calls Try.prog 13 #[.slice (some ⟨gg, 0, none⟩) 1 1] W fun e w' => e = .returned (.int .u32 (mk 0 (ints ((b.set k b[k + 1]).set (k + 1) b[k])))) ∧ Below W.heap.size W w') :=
    fun W gg hW hg => of_blk_n _ _ cap gg ((b.set k b[k + 1]).set (k + 1) b[k]) (by simp) (by simp; omega) W _ hg ((HR3.out.below hW).more hW.size)
  have H2 : Hid (∀ (W : World) (gg : Nat), Below w3.heap.size w3 W → Blk W gg 29 #[.slice (some ⟨xb, xo, none⟩) b.length c] →
      Calls Try.prog 13 #[.slice (some ⟨gg, 0, none⟩) 1 1] W fun e w' => e = .returned (.int .u32 (mk 0 (ints b))) ∧ Below W.heap.size W w') :=
    fun W gg hW hg => of_blk_n _ _ c gg b rfl (by omega) W _ hg (((HR.out.below HB3.out).more HB3.out.size |>.below hW).more hW.size)
  have E := Lib.hid (mk_swap (ints b) k (by rw [ints_length]; exact hkl) (ints_bytes b))
  have E2 : Hid (ints ((b.set k b[k + 1]).set (k + 1) b[k]) = ((ints b).set k ((ints b)[k + 1]'(by rw [ints_length]; exact hkl))).set (k + 1) ((ints b)[k]'(by rw [ints_length]; omega))) := by show ints ((b.set k b[k + 1]).set (k + 1) b[k]) = _; simp [ints, List.map_set]
  have E3 : Hid ((ints b)[k]'(by rw [ints_length]; omega) = b[k].1) := by show (ints b)[k]'(by rw [ints_length]; omega) = b[k].1; simp [ints]
  have E4 : Hid ((ints b)[k + 1]'(by rw [ints_length]; exact hkl) = b[k + 1].1) := by show (ints b)[k + 1]'(by rw [ints_length]; exact hkl) = b[k + 1].1; simp [ints]
  go_wp2_with fail
  have s1 : IntKind.i64.wrap ((k : Int) + 1) = (k : Int) + 1 := IntWalk.i64_in _ (by omega)
  have s2 : (0 : Int) ≤ (k : Int) + 1 := by omega
  have s3 : ((k : Int) + 1).toNat = k + 1 := by omega
  have s4 : (k : Int) + 1 < (b.length : Int) := by omega
  have s5 : (k : Int) < (b.length : Int) := by omega
  go_region_held3 (fun W => Below w3.heap.size w3 W ∧ W.cell? ⟨xb, xo + k, none⟩ = some (.int .u8 b[k].1) ∧ W.cell? ⟨xb, xo + (k + 1), none⟩ = some (.int .u8 b[k + 1].1)) (first | exact K0 | exact Kept2.alloc (by assumption) _ | exact Kept2.up (by assumption) (by assumption))
    (first
      | (go_at_call 13; refine (H1.out _ _ (And.left (by assumption)) ?_).mono ?_; (first | exact Blk.drew (blk_new _ _ _ _ rfl) | exact Blk.drew (Blk.alloc (blk_new _ _ _ _ rfl) _) | exact Blk.drew (blk_second _ _ _ _) | exact blk_new _ _ _ _ rfl); rintro e w5 ⟨rfl, hB5⟩)
      | (go_at_call 13; refine (H2.out _ _ (And.left (by assumption)) ?_).mono ?_; (first | exact blk_new _ _ _ _ rfl | exact blk_up (Blk.drew (Blk.alloc (blk_new _ _ _ _ rfl) _)) (by assumption) | exact blk_up (Blk.drew (blk_second _ _ _ _)) (by assumption)); rintro e w6 ⟨rfl, hB6⟩))
  all_goals
    clear s1 s2 s3 s4 s5
    have e3 : ((mk 0 (ints ((b.set k b[k + 1]).set (k + 1) b[k])) == mk 0 (ints b)) == (b[k].1 == b[k + 1].1)) = true := by
      have e := E.out
      rw [← E2.out, E3.out, E4.out] at e
      simp [e, Bool.beq_eq_decide_eq]
    go_wp2
    go_ret
    exact ⟨by simpa using e3, HB3.out.trans (Below.mono (And.left (by assumption)) HB3.out.size)⟩

set_option maxHeartbeats 1000000 in
theorem swap (w : World) (X : Option Addr) (c : Nat) (l : List Int) (hc : l.length ≤ c) (hm : c ≤ maxLen) (hr : Reads w w.heap.size 1 X l.length (l.map (Value.int .u8))) (hw : ∀ n ∈ l, (Lit.int .u8 n).wf = true) (a : Int) (wa : (Lit.int .u16 a).wf = true) :
    Calls Try.prog 5 #[.slice X l.length c, .int .u16 a] w fun e w' => e = .returned (.bool true) ∧ Below w.heap.size w w' := by
  obtain ⟨ha0, ha1⟩ := u16_bounds wa
  obtain ⟨b, rfl⟩ := of_bytes l (bytes_of hw)
  rw [ints_length] at hr hc ⊢
  by_cases h : 2 ≤ b.length ∧ b.length ≤ 5000
  · exact swap_main w X c b hc hm hr a ha0 ha1 h.1 h.2
  · clear hr hw wa
    unfold maxLen at hm
    by_cases h0 : 2 ≤ b.length
    · have h1 : ¬ b.length ≤ 5000 := fun h1 => h ⟨h0, h1⟩
      have hne : ¬ (b.length : Int) < 2 := by omega
      clear h
      go_enter Try.func5, Try.ntmps5
      go_wp2_with fail
      refine (alive_any _).mono ?_
      rintro e w1 ⟨rfl, hB1⟩
      have HB1 := Lib.hid hB1
      clear hB1
      go_wp2_with fail
      go_ret
      exact ⟨rfl, HB1.out⟩
    · have hz : (b.length : Int) < 2 := by omega
      clear h
      go_enter Try.func5, Try.ntmps5
      go_wp2_with fail
      refine (alive_any _).mono ?_
      rintro e w1 ⟨rfl, hB1⟩
      have HB1 := Lib.hid hB1
      clear hB1
      go_wp2_with fail
      go_ret
      exact ⟨rfl, HB1.out⟩
end Go.Proofs.Ytgnaadaihncgeaa.MarkSwapWalk
