/- The contracts of the reference's Weights, Sum, On and Of: for all bytes and parts within the bounds named. -/
import Derived.Test.YtgnaadaihncgeaaMarkSwapWalk
import Derived.Deep.QuietTactic
import Derived.BigQuiet
namespace Go.Proofs.Ytgnaadaihncgeaa.MarkRef
open Go.RowKit MarkMath MarkWalks Mem SeqKit MarkSeq MarkOf MarkLaws MarkByteWalk MarkSwapWalk
set_option linter.unusedVariables false

theorem u64_info : (Try.prog.info? 40).map (fun i => (i.zero, i.size, i.bytes)) = some (some (.int .u64 0), 1, 8) := by kernel_rfl

/-- What the weights hold when all but the first k are laid. -/
def wts (n k : Nat) : List Value := (List.range n).map fun i => Value.int .u64 (if i < k then 0 else wt n i)
theorem wts_length (n k : Nat) : (wts n k).length = n := by simp [wts]
theorem wts_get (n k i : Nat) (h : i < n) : (wts n k)[i]? = some (.int .u64 (if i < k then 0 else wt n i)) := by simp [wts, h]
theorem wts_start (n : Nat) : List.replicate n (Value.int .u64 0) = wts n n := by
  apply List.ext_getElem?
  intro i
  by_cases h : i < n
  · rw [wts_get n n i h, if_pos h]; simp [h]
  · rw [List.getElem?_eq_none (by simp; omega), List.getElem?_eq_none (by rw [wts_length]; omega)]
theorem wts_set (n j : Nat) (h : j < n) : (wts n (j + 1)).set j (.int .u64 (wt n j)) = wts n j := by
  apply List.ext_getElem?
  intro i
  rw [List.getElem?_set]
  by_cases e : j = i
  · subst e
    rw [if_pos rfl, wts_length, if_pos h, wts_get n j j h, if_neg (by omega)]
  · rw [if_neg e]
    by_cases hi : i < n
    · rw [wts_get _ _ _ hi, wts_get _ _ _ hi]
      by_cases h2 : i < j
      · rw [if_pos (by omega), if_pos h2]
      · rw [if_neg (by omega), if_neg h2]
    · rw [List.getElem?_eq_none (by rw [wts_length]; omega), List.getElem?_eq_none (by rw [wts_length]; omega)]
theorem wt_next (n j : Nat) (h : j + 1 < n) : wt n (j + 1) * 65537 % 4294967291 = wt n j := by
  unfold wt
  rw [show n - 1 - j = n - 1 - (j + 1) + 1 from by omega, Int.pow_succ]
  exact (R.mod _).mul (R.refl _)
theorem wt_last (n : Nat) : wt (n + 1) n = 1 := by unfold wt; simp

theorem wts_made (n : Nat) : (madeCells (Value.int .u64 0).cells (n * 1)).toList = wts n n := by
  rw [← wts_start, Nat.mul_one]
  apply List.ext_getElem?
  intro i
  by_cases h : i < n
  · simp [madeCells, Value.cells, h, Nat.mod_one]
  · simp [madeCells, Value.cells, h]
set_option maxHeartbeats 1000000 in
theorem weights_any (n : Nat) (hn : n ≤ 1048576) (w : World) :
    Calls Try.prog 23 #[.int .i64 n] w fun e w' => (∃ g, e = .returned (.slice (some ⟨g, 0, none⟩) n n) ∧ w'.ownsRow w.heap.size 40 1 (.slice (some ⟨g, 0, none⟩) n n) n (wts n 0)) ∧ Below w.heap.size w w' := by
  obtain ⟨i0, hi0, hz0, hz1, hz2⟩ := info_parts u64_info
  go_enter Try.func23, Try.ntmps23
  go_wp2_with (at_make; refine wpList_make_full _ rfl _ _ 50 rfl w.heap.size 40 i0 (.int .u64 0) 1 Try.underlying50 hi0 hz0 hz1 _ _ _ _ n rfl rfl rfl rfl (by rw [hz2]; omega) (by unfold maxLen; omega) (Nat.le_refl _) ?_; intro w1 hown hg; rw [wts_made] at hown; have HO := Lib.hid hown; have HG := Lib.hid ((Below.refl w.heap.size w).grown hg (Nat.le_refl _) (fun k e => by cases e)); clear hown hg)
  have hsz : ∃ g, g = w.heap.size := ⟨_, rfl⟩
  obtain ⟨g, hg⟩ := hsz
  rw [← hg]
  rw [← hg] at HO
  have HGE := Lib.hid hg
  clear hg
  go_loopw [4, 5] (fun x i wr => ∃ (k : Nat) (y : Int), k ≤ n ∧ i = .int .i64 ((k : Int) - 1) ∧ x = .int .u64 y ∧ 0 ≤ y ∧ y < 4294967291 ∧ Hid (∀ j, k = j + 1 → y = wt n j) ∧ Hid (wr.ownsRow w.heap.size 40 1 (.slice (some ⟨g, 0, none⟩) n n) n (wts n k)) ∧ Hid (Below w.heap.size w wr))
    (fun _ i _ => (intOf i + 1).toNat)
  case atStart => exact ⟨n, 1, Nat.le_refl _, rfl, rfl, by omega, by omega, fun j hj => by subst hj; exact (wt_last j).symm, by rw [HGE.out] at HO ⊢; exact HO.out, HG.out⟩
  case round =>
    obtain ⟨k, y, hk, rfl, rfl, hy0, hy1, hy, hO, hB⟩ := hrel
    cases k with
    | zero =>
      go_wp2_with fail
      go_ret
      exact ⟨⟨g, rfl, hO.out⟩, hB.out⟩
    | succ j =>
      have hjn : j < n := by omega
      have ej : (((j + 1 : Nat) : Int) - 1) = (j : Int) := by omega
      rw [ej]
      clear ej
      have hc := hO.out.cellAt j (by omega)
      have hf := hO.out.frozenAt j
      rw [wts_get n (j + 1) j hjn] at hc
      have hst := hO.out.stored j (.int .u64 (wt n j))
      rw [wts_set n j hjn] at hst
      have HST := Lib.hid hst
      have hyj := hy.out j rfl
      subst hyj
      clear hst
      go_wp2_with fail
      go_roundw
      case rel => exact ⟨j, _, by omega, rfl, rfl, by omega, by omega, fun i hi => by subst hi; exact wt_next n i hjn, HST.out.1, hB.out.setCell (p := ⟨g, j, none⟩) (by rw [HGE.out]; exact Nat.le_refl _) _⟩
      case measure => simp [intOf]

/-- A slice of numbers of the call's own, read. -/
theorem own_cell {w W : World} {base g n j : Nat} {e : TypeId} {xs : List Value} {u : Value} (h : w.ownsRow base e 1 (.slice (some ⟨g, 0, none⟩) n n) n xs) (hj : j < n) (hu : xs[j]? = some u) (hB : Below w.heap.size w W) : W.cell? ⟨g, j, none⟩ = some u := by
  have h1 := h.cellAt j (by omega)
  rw [hu] at h1
  have hlt : g < w.heap.size := by
    rcases Nat.lt_or_ge g w.heap.size with h2 | h2
    · exact h2
    · simp [World.cell?, Array.getElem?_eq_none h2] at h1
  exact (hB.cell (p := ⟨g, j, none⟩) hlt).trans h1
theorem sm_step (l : List Int) (k : Nat) (x : Int) (h : l[k]? = some x) : sm l l.length (k + 1) = (sm l l.length k + wt l.length k * (x + 1)) % 4294967291 := by
  show (sm l l.length k + wt l.length k * (l.getD k 0 + 1)) % 4294967291 = _
  rw [List.getD_eq_getElem?_getD, h]; rfl

set_option maxHeartbeats 2000000 in
theorem sum_any (X : Option Addr) (c : Nat) (b : List B8) (hb : b.length ≤ 1048576) (w : World) (hR : Reads w w.heap.size 1 X b.length (u8s (ints b))) :
    Calls Try.prog 21 #[.slice X b.length c] w fun e w' => e = .returned (.int .u32 (mk 0 (ints b))) ∧ Below w.heap.size w w' := by
  have HR := Lib.hid hR
  clear hR
  go_enter Try.func21, Try.ntmps21
  go_wp2_with fail
  refine (weights_any b.length hb _).mono ?_
  rintro e w1 ⟨⟨g, rfl, hO⟩, hB⟩
  have HO := Lib.hid hO
  have HB := Lib.hid hB
  clear hO hB
  go_wp2_with fail
  go_loopw [4, 5] (fun x i wr => ∃ (k : Nat) (y : Int), k ≤ b.length ∧ i = .int .i64 k ∧ x = .int .u64 y ∧ 0 ≤ y ∧ y < 4294967291 ∧ Hid (y = sm (ints b) b.length k) ∧ Hid (Below w1.heap.size w1 wr))
    (fun _ i _ => b.length - (intOf i).toNat)
  case atStart => exact ⟨0, 0, Nat.zero_le _, rfl, rfl, by omega, by omega, rfl, Below.refl _ _⟩
  case round =>
    obtain ⟨k, y, hk, rfl, rfl, hy0, hy1, hy, hBr⟩ := hrel
    by_cases hlt : k < b.length
    · obtain ⟨xb, xo, hX, hxb, hcells⟩ := HR.out.flat (by omega)
      have hux : (u8s (ints b))[k]? = some (.int .u8 b[k].1) := by simp [u8s, ints, hlt]
      have hcx : wr.cell? ⟨xb, xo + k, none⟩ = some (.int .u8 b[k].1) := (hBr.out.cell (Nat.lt_of_lt_of_le hxb HB.out.size)).trans ((HB.out.cell hxb).trans (hcells _ _ hux))
      have hcw : wr.cell? ⟨g, k, none⟩ = some (.int .u64 (wt b.length k)) := own_cell HO.out hlt (by rw [wts_get _ _ _ hlt, if_neg (by omega)]) hBr.out
      have hstep := sm_step (ints b) k b[k].1 (by simp [ints, hlt])
      rw [ints_length] at hstep
      have HS := Lib.hid hstep
      have hwt := wt_range b.length k
      obtain ⟨hw0, hw1⟩ := hwt
      obtain ⟨hb0, hb1⟩ := b[k].2
      subst hX
      clear hcells hux hstep hxb
      generalize b[k].1 = z at *
      have hp0 : 0 ≤ wt b.length k * (z + 1) := Int.mul_nonneg hw0 (by omega)
      have hp1 : wt b.length k * (z + 1) ≤ 4294967291 * 256 := Int.mul_le_mul (by omega) (by omega) (by omega) (by omega)
      generalize wt b.length k = t at *
      have hlt' : (k : Int) < (b.length : Int) := by omega
      go_wp2_with fail
      go_quiet (fail)
      go_wp2_with fail
      go_roundw
      case rel => exact ⟨k + 1, _, by omega, by go_num, rfl, by omega, by omega, by rw [HS.out, hy.out]; rfl, Mem.below_drewN hBr.out _⟩
      case measure => simp [intOf]; omega
    · obtain rfl : k = b.length := by omega
      go_wp2_with fail
      go_ret
      refine ⟨?_, HB.out.trans (hBr.out.mono HB.out.size)⟩
      have e := hy.out
      rw [← ints_length b, sm_mk] at e
      rw [e]
      rfl

theorem refOn_any (m : Int) (hm0 : 0 ≤ m) (hm1 : m ≤ 4294967295) (X : Option Addr) (c : Nat) (b : List B8) (hb : b.length ≤ 1048576) (w : World) (hR : Reads w w.heap.size 1 X b.length (u8s (ints b))) :
    Calls Try.prog 16 #[.int .u32 m, .slice X b.length c] w fun e w' => e = .returned (.int .u32 (mk (m % 4294967291) (ints b))) ∧ Below w.heap.size w w' := by
  have HR := Lib.hid hR
  clear hR
  have hq := mk_range (ints b) 0 (by omega) (by omega)
  obtain ⟨hq0, hq1⟩ := hq
  have hr := mk_range (ints b) (m % 4294967291) (by omega) (by omega)
  have HRR := Lib.hid hr
  clear hr
  have e1 := mk_behind_R (ints b) (m % 4294967291)
  rw [ints_length] at e1
  have E1 := Lib.hid e1
  clear e1
  generalize hz : mk 0 (ints b) = z at *
  have HZ := Lib.hid hz
  clear hz
  go_enter Try.func16, Try.ntmps16
  go_wp2_with fail
  refine (sum_any X c b hb _ HR.out).mono ?_
  rintro e w1 ⟨rfl, hB1⟩
  rw [HZ.out]
  have HB1 := Lib.hid hB1
  clear hB1
  go_wp2_with fail
  refine (behind_any m z b.length _ (by omega) hm0 hm1 hq0 (by omega)).mono ?_
  rintro e w' ⟨⟨v, rfl, hv0, hv1, hv⟩, rfl⟩
  have ev : v = mk (m % 4294967291) (ints b) := R_eq ⟨hv0, hv1⟩ HRR.out hv (E1.out.trans ((((R.mod m).mul (R.refl _)).add (R.refl z))))
  clear hv
  subst ev
  go_wp2_with fail
  go_ret
  exact ⟨rfl, HB1.out⟩

theorem own_block_ge {w : World} {base size n j : Nat} {e : TypeId} {v : Value} {xs : List Value} (h : w.ownsRow base e size v n xs) (hj : v.ownBlock = some j) : base ≤ j := by
  rcases h.2 with ⟨rfl, _⟩ | ⟨g, cap, cur, rfl, hb, _⟩
  · simp [Value.ownBlock] at hj
  · simp [Value.ownBlock] at hj; omega
theorem flat_le (ps : List (List B8)) (k : Nat) (b : List B8) (h : ps[k]? = some b) : (ps.take k).flatten.length + b.length ≤ ps.flatten.length := by
  have e := take_flat ps k b h
  have e2 : ps.flatten = (ps.take (k + 1)).flatten ++ (ps.drop (k + 1)).flatten := by rw [← List.flatten_append, List.take_append_drop]
  rw [e2, e]
  simp only [List.length_append]
  omega
theorem u8s_app (a b : List B8) : u8s (ints (a ++ b)) = u8s (ints a) ++ u8s (ints b) := by simp [u8s, ints]
set_option maxHeartbeats 2000000 in
/-- The reference's Of: parts put one behind the other, and summed. -/
theorem refOf_any (A : Option Addr) (c : Nat) (ps : List (List B8)) (hlen : ps.flatten.length ≤ 1048576) (hn : ps.length ≤ 1048576) (w : World) (hP : Parts w w.heap.size A (ps.map ints)) :
    Calls Try.prog 14 #[.slice A ps.length c] w fun e w' => e = .returned (.int .u32 (mk 0 (ints ps.flatten))) ∧ Below w.heap.size w w' := by
  obtain ⟨i0, hi0, hz0, hz1, hz2⟩ := info_parts u8_info
  have HP := Lib.hid hP
  clear hP
  go_enter Try.func14, Try.ntmps14
  go_wp2_with fail
  go_loopw [3, 4] (fun v i wr => ∃ k : Nat, k ≤ ps.length ∧ i = .int .i64 k ∧ Hid (wr.ownsRow w.heap.size 5 1 v (ps.take k).flatten.length (u8s (ints (ps.take k).flatten))) ∧ Hid (Below w.heap.size w wr))
    (fun _ i _ => ps.length - (intOf i).toNat)
  case atStart => exact ⟨0, Nat.zero_le _, rfl, ⟨rfl, .inl ⟨rfl, rfl⟩⟩, Below.refl _ _⟩
  case round =>
    obtain ⟨k, hk, rfl, hO, hB⟩ := hrel
    by_cases hlt : k < ps.length
    · have hb : ps[k]? = some ps[k] := List.getElem?_eq_getElem hlt
      generalize ps[k] = b at hb
      have hb' : (ps.map ints)[k]? = some (ints b) := by rw [List.getElem?_map, hb]; rfl
      obtain ⟨ad, X, cX, hA, hadB, hcell, hX⟩ := (HP.out.below hB.out).at_ hb'
      rw [ints_length] at hcell hX
      subst hA
      have Hb := Lib.hid hb
      have HX := Lib.hid hX
      have hfl := flat_le ps k b hb
      clear hb hb' hX
      go_wp2_with (at_builtin; refine wpList_append_any _ rfl (.tmp 11) (.tmp 15) _ rfl w.heap.size 5 i0 _ 1 1 Try.underlying29 hi0 hz0 hz1 hz2 rfl (by omega) u3 _ _ rfl hO.out w.heap.size X b.length cX (u8s (ints b)) rfl HX.out (by simp [u8s, Value.oneCell']) (by simp only [maxLen]; omega) (by omega) hB.out.size ?_; intro v2 w2 hown2 hg2 hat2; have HO2 := Lib.hid hown2; have HG2 := Lib.hid hg2; clear hown2 hg2 hat2)
      go_roundw
      case rel => exact ⟨k + 1, by omega, by go_num, by rw [take_flat ps k b Hb.out, List.length_append, u8s_app]; exact HO2.out, hB.out.grown HG2.out hB.out.size (fun j e => own_block_ge hO.out e)⟩
      case measure => simp [intOf]; omega
    · obtain rfl : k = ps.length := by omega
      have hO2 := hO.out
      rw [List.take_length] at hO2
      obtain ⟨fl, hfl⟩ : ∃ fl, fl = ps.flatten := ⟨_, rfl⟩
      rw [← hfl] at hO2 hlen
      have HFL := Lib.hid hfl
      clear hfl
      obtain ⟨X, cX, hu⟩ : ∃ X cX, u3 = .slice X fl.length cX := by
        rcases hO2.2 with ⟨h1, h2⟩ | ⟨g, cap, cur, h1, _⟩
        · exact ⟨none, 0, by rw [h1, h2]⟩
        · exact ⟨_, _, h1⟩
      subst hu
      have HO2 := Lib.hid hO2
      clear hO2 hO
      go_wp2_with fail
      refine (sum_any X cX fl hlen _ (Reads.of_own HO2.out)).mono ?_
      rintro e w3 ⟨rfl, hB3⟩
      have HB3 := Lib.hid hB3
      clear hB3
      go_wp2_with fail
      go_ret
      exact ⟨by rw [← HFL.out]; rfl, hB.out.trans (HB3.out.mono hB.out.size)⟩
theorem parts_blk2 (w : World) (g : Nat) (t : TypeId) (X Y : Option Addr) (b d : List B8) (n n' c c' : Nat) (hn : n = b.length) (hn' : n' = d.length) (hb : Blk w g t #[.slice X n c, .slice Y n' c']) (hR : Reads w w.heap.size 1 X b.length (u8s (ints b))) (hS : Reads w w.heap.size 1 Y d.length (u8s (ints d))) :
    Parts w w.heap.size (some ⟨g, 0, none⟩) ([b, d].map ints) := by
  subst hn; subst hn'
  refine ⟨[.slice X b.length c, .slice Y d.length c'], ⟨rfl, fun _ => ⟨_, rfl, hb.lt, ?_⟩⟩, ?_⟩
  · intro j u hu
    match j with
    | 0 => cases hu; exact hb.cell 0
    | 1 => cases hu; rw [add_flat]; exact hb.cell 1
    | j + 2 => simp at hu
  · intro i l hl
    match i with
    | 0 => cases hl; exact ⟨X, c, by rw [ints_length]; rfl, by rw [ints_length]; exact hR⟩
    | 1 => cases hl; exact ⟨Y, c', by rw [ints_length]; rfl, by rw [ints_length]; exact hS⟩
    | i + 2 => simp at hl

end Go.Proofs.Ytgnaadaihncgeaa.MarkRef
