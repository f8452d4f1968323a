/- The contracts of mark.each (an iterator over the bytes of all parts), mark.from, mark.Of, mark.On: the mark of bytes, for all parts below the heap's size. -/
import Derived.Outline
import Derived.Test.YtgnaadaihncgeaaMarkWalks
import Derived.Test.YtgnaadaihncgeaaSeqKit
namespace Go.Proofs.Ytgnaadaihncgeaa.MarkSeq
open Go.RowKit Go.Shelf MarkMath MarkWalks Mem SeqKit
attribute [local go_sem] Oper.semAt_some
set_option linter.unusedVariables false

/-- mark.each boxes its parts; the iterator holds the box. -/
theorem each_in (F : Fence) (n : Nat) (hf : F.fn 22) (hro : F.round = none) (v : Value) (w : World) (hv : v.oneCell' = true) :
    CallsIn F n Try.prog 22 #[v] w fun e w' => e = .returned (.func (.func 24) #[] #[.pointer (some ⟨w.heap.size, 0, none⟩)]) ∧ w' = w.alloc (.cells #[v] 36) := by
  refine callsIn_of_wp Try.func22 rfl hf ?_ hro
  simp only [Try.ntmps22, List.size_toArray, List.length_cons, List.length_nil, Nat.reduceAdd, Nat.reduceSub, Array.replicate_succ, Array.replicate_zero, List.push_toArray, List.append_toArray, List.nil_append, List.cons_append]
  gi_wp2
  go_ret
  exact ⟨rfl, rfl⟩

/-- A byte. -/
abbrev B8 := { x : Int // 0 ≤ x ∧ x ≤ 255 }
def ints (l : List B8) : List Int := l.map (·.1)
theorem ints_length (l : List B8) : (ints l).length = l.length := by simp [ints]
theorem ints_bytes (l : List B8) : isBytes (ints l) := by
  intro x hx
  simp only [ints, List.mem_map] at hx
  obtain ⟨y, _, rfl⟩ := hx
  exact y.2
theorem of_bytes : ∀ l : List Int, isBytes l → ∃ b : List B8, ints b = l
  | [], _ => ⟨[], rfl⟩
  | x :: l, h => by
    obtain ⟨b, hb⟩ := of_bytes l (fun y hy => h y (by simp [hy]))
    exact ⟨⟨x, h x (by simp)⟩ :: b, by simp [ints] at hb ⊢; exact hb⟩

theorem take_flat (ps : List (List B8)) (i : Nat) (b : List B8) (h : ps[i]? = some b) : (ps.take (i + 1)).flatten = (ps.take i).flatten ++ b := by
  have hi : i < ps.length := (List.getElem?_eq_some_iff.1 h).1
  have hb : ps[i] = b := (List.getElem?_eq_some_iff.1 h).2
  rw [List.take_succ_eq_append_getElem hi, hb]
  simp
theorem room (ps : List (List B8)) (i j : Nat) (b : List B8) (h : ps[i]? = some b) (hj : j < b.length) : ((ps.take i).flatten ++ b.take j).length < ps.flatten.length := by
  have e := take_flat ps i b h
  have e2 : ps.flatten = (ps.take (i + 1)).flatten ++ (ps.drop (i + 1)).flatten := by rw [← List.flatten_append, List.take_append_drop]
  rw [e2, e]
  simp only [List.length_append, List.length_take]
  omega

set_option maxRecDepth 100000 in
set_option maxHeartbeats 2000000 in
/-- The iterator: every byte of every part, in order, for every loop body that keeps what lay below n₀. -/
theorem each1_in (F : Fence) (n : Nat) (hf : F.fn 24) (hro : F.round = none) (hn : 1 ≤ n) (l Bp n₀ : Nat) (A : Option Addr) (c : Nat) (ps : List (List B8)) (hlen : ps.length ≤ 4611686018427387904) (hlens : ∀ b ∈ ps, b.length ≤ 4611686018427387904)
    (J Jx : List B8 → World → Prop)
    (hY : ∀ pre x W, J pre W → pre.length < ps.flatten.length → YieldAt F (n - 1) Try.prog l #[Value.int .u8 x.1] W fun e W' =>
      (e = .returned (.bool true) ∧ J (pre ++ [x]) W' ∧ Below n₀ W W') ∨ (e = .returned (.bool false) ∧ Jx (pre ++ [x]) W'))
    (W : World) (hBp : W.cell? ⟨Bp, 0, none⟩ = some (.slice A ps.length c)) (hP : Parts W n₀ A (ps.map ints)) (h0 : J [] W) :
    CallsIn F n Try.prog 24 #[.func (.yield l) #[] #[], .pointer (some ⟨Bp, 0, none⟩)] W fun e W' => (∃ v, e = .returned v) ∧
      ((∃ ys, ys = ps.flatten ∧ J ys W') ∨ (∃ pre, True ∧ Jx pre W')) := by
  refine callsIn_of_wp Try.func24 rfl hf ?_ hro
  simp only [Try.ntmps24, List.size_toArray, List.length_cons, List.length_nil, Nat.reduceAdd, Nat.reduceSub, Array.replicate_succ, Array.replicate_zero, List.push_toArray, List.append_toArray, List.nil_append, List.cons_append]
  have HY := Lib.hid hY
  have HL := Lib.hid hlens
  have HP := Lib.hid hP
  clear hY hlens hP
  gi_wp2
  gi_loopw [9] (fun i wr => ∃ k : Nat, k ≤ ps.length ∧ i = .int .i64 k ∧ Hid (J (ps.take k).flatten wr) ∧ Hid (Below n₀ W wr))
    (fun i _ => ps.length - (intOf i).toNat)
  case atStart => exact ⟨0, Nat.zero_le _, rfl, h0, Below.refl _ _⟩
  case round =>
    obtain ⟨k, hk, rfl, hJ, hB⟩ := hrel
    obtain ⟨wo, rfl⟩ : ∃ wo : World, wo = wr := ⟨_, rfl⟩
    by_cases hlt : k < ps.length
    · have hb : ps[k]? = some ps[k] := List.getElem?_eq_getElem hlt
      generalize ps[k] = b at hb
      have hbl : b.length ≤ 4611686018427387904 := HL.out b (List.mem_of_getElem? hb)
      have hb' : (ps.map ints)[k]? = some (ints b) := by rw [List.getElem?_map, hb]; rfl
      obtain ⟨ad, X, cX, hA, hadB, hcell, hX⟩ := (HP.out.below hB.out).at_ hb'
      rw [ints_length] at hcell hX
      subst hA
      have Hb := Lib.hid hb
      have HX := Lib.hid hX
      clear hb hb' hX
      gi_wp2
      gi_loopw [15] (fun j wi => ∃ m : Nat, m ≤ b.length ∧ j = .int .i64 m ∧ Hid (J ((ps.take k).flatten ++ b.take m) wi) ∧ Hid (Below n₀ wo wi))
        (fun j _ => b.length - (intOf j).toNat)
      case atStart => exact ⟨0, Nat.zero_le _, rfl, by simpa using hJ, Below.refl _ _⟩
      case round =>
        obtain ⟨m, hm, rfl, hJ2, hB2⟩ := hrel
        by_cases hlt2 : m < b.length
        · have hx : (u8s (ints b))[m]? = some (.int .u8 b[m].1) := by simp [u8s, ints, hlt2]
          obtain ⟨ad2, u, hX2, had2, hu, hc2⟩ := (HX.out.below hB2.out).at_ hlt2
          rw [hx] at hu
          cases hu
          subst hX2
          obtain ⟨fn, tmps, assign, body, hy, hR⟩ := HY.out _ b[m] wr hJ2.out (room ps k m b Hb.out hlt2)
          have HR := Lib.hid hR
          clear hR hx
          gi_wp2
          refine HR.out.mono ?_
          rintro e W3 (⟨rfl, hJ3, hk3⟩ | ⟨rfl, hJx3⟩)
          · have HJ3 := Lib.hid hJ3
            have HK3 := Lib.hid hk3
            clear hJ3 hk3
            gi_wp2
            go_roundw
            case rel => exact ⟨m + 1, by omega, by go_num, by rw [List.take_succ_eq_append_getElem hlt2, ← List.append_assoc]; exact HJ3.out, hB2.out.trans HK3.out⟩
            case measure => simp [intOf]; omega
          · have HJ3 := Lib.hid hJx3
            clear hJx3
            gi_wp2
            refine bodyPost_ret (results_none rfl _ _ _) rfl ?_
            exact ⟨⟨_, rfl⟩, .inr ⟨_, trivial, HJ3.out⟩⟩
        · obtain rfl : m = b.length := by omega
          gi_wp2
          go_roundw
          case rel => exact ⟨k + 1, by omega, by go_num, by have e := take_flat ps k b Hb.out; have h2 := hJ2.out; rw [List.take_length] at h2; rw [e]; exact h2, hB.out.trans hB2.out⟩
          case measure => simp [intOf]; omega
    · obtain rfl : k = ps.length := by omega
      gi_wp2
      go_end0
      exact ⟨⟨_, rfl⟩, .inl ⟨_, rfl, by have h2 := hJ.out; rw [List.take_length] at h2; exact h2⟩⟩

/-- The iterator's contract. -/
theorem each_stops (F : Fence) (n : Nat) (hf : F.fn 24) (hro : F.round = none) (hn : 1 ≤ n) (Bp n₀ : Nat) (A : Option Addr) (c : Nat) (ps : List (List B8)) (hlen : ps.length ≤ 4611686018427387904) (hlens : ∀ b ∈ ps, b.length ≤ 4611686018427387904)
    (w : World) (hBp : Bp < w.heap.size) (hn₀ : n₀ ≤ w.heap.size) (hc : w.cell? ⟨Bp, 0, none⟩ = some (.slice A ps.length c)) (hP : Parts w n₀ A (ps.map ints)) :
    SeqStopsK F n Try.prog 24 #[.pointer (some ⟨Bp, 0, none⟩)] (fun x : B8 => #[Value.int .u8 x.1]) (Below n₀) (fun ys => ys = ps.flatten) (fun _ => True) ps.flatten.length w := fun l J Jx W hW _ _ hY h0 =>
  each1_in F n hf hro hn l Bp n₀ A c ps hlen hlens J Jx hY W ((hW.cell (p := ⟨Bp, 0, none⟩) hBp).trans hc) (hP.below (hW.mono hn₀)) h0

theorem mk_bytes_snoc (m : Int) (pre : List B8) (x : B8) : mk m (ints (pre ++ [x])) = stp (mk m (ints pre)) x.1 := by simp [ints, mk]

set_option maxRecDepth 100000 in
set_option maxHeartbeats 2000000 in
/-- mark.from: the mark of all bytes of the parts, behind one. -/
theorem from_any (m : Int) (hm0 : 0 ≤ m) (hm1 : m < 4294967291) (A : Option Addr) (c : Nat) (ps : List (List B8)) (hlen : ps.length ≤ 4611686018427387904) (hlens : ∀ b ∈ ps, b.length ≤ 4611686018427387904) (w : World) (hP : Parts w w.heap.size A (ps.map ints)) :
    Calls Try.prog 20 #[.int .u64 m, .slice A ps.length c] w fun e w' => e = .returned (.int .u32 (mk m (ints ps.flatten))) ∧ Below w.heap.size w w' := by
  refine (callsIn_wide (n := 5)).1 ?_
  refine callsIn_of_wp_marks Try.func20 rfl trivial ?_ rfl
  simp only [Try.ntmps20, List.size_toArray, List.length_cons, List.length_nil, Nat.reduceAdd, Nat.reduceSub, Array.replicate_succ, Array.replicate_zero, List.push_toArray, List.append_toArray, List.nil_append, List.cons_append]
  have HL := Lib.hid hlens
  have HP := Lib.hid hP
  clear hlens hP
  gi_wp2_with (refine ⟨trivial, ?_⟩; gi_at_call 22; refine (each_in Fence.wide 4 trivial rfl _ _ rfl).mono ?_; rintro e w' ⟨rfl, rfl⟩)
  have hs := box_new w (.int .u64 m) 40
  have hb := box_new (w.alloc (.cells #[.int .u64 m] 40)) (.slice A ps.length c) 36
  rw [World.size_alloc] at hb
  have hP2 : Parts ((w.alloc (.cells #[.int .u64 m] 40)).alloc (.cells #[.slice A ps.length c] 36)) w.heap.size A (ps.map ints) := HP.out.below (((Below.refl _ w).alloc (Nat.le_refl _) _).alloc (by simp) _)
  refine wpIn_rangeFunc_ownF rfl (by omega) (gf := 24) (lb := #[.pointer (some ⟨w.heap.size + 1, 0, none⟩)]) rfl trivial (enters_of Try.func24 (by kernel_rfl) rfl)
    (each_stops Fence.wide 4 trivial rfl (by omega) (w.heap.size + 1) w.heap.size A c ps hlen HL.out _ (by simp) (by simp; omega) hb.1 hP2) belowK_t (belowK_b (by simp; omega)) (Below.refl _ _) (fun _ => rfl)
    (fun pre W => (W.cell? ⟨w.heap.size, 0, none⟩ = some (.int .u64 (mk m (ints pre))) ∧ W.frozen? ⟨w.heap.size, 0, none⟩ = false) ∧ Below w.heap.size w W)
    (fun _ _ _ => False)
    (OwnFrom.and (Own.from (fun s A B row hs hg hr => ⟨cell_kept hs.1 hg hr, (frozen_kept hs.1 hg hr).trans hs.2⟩) _) (ownFrom_below (Nat.le_refl _) (by simp; omega)))
    (fun _ => Own.from (fun _ _ _ _ hs _ _ => hs) _)
    ⟨⟨cell_over _ hs.1, frozen_over _ hs.1 hs.2⟩, ((Below.refl _ w).alloc (Nat.le_refl _) _).alloc (by simp) _⟩
    (fun x => { tmps := #[.int .u64 m, .slice A ps.length c, .pointer (some ⟨w.heap.size, 0, none⟩), undef, .int .u32 0, .int .u8 x.1, .slice A ps.length c, .func (.func 24) #[] #[.pointer (some ⟨w.heap.size + 1, 0, none⟩)], .int .u8 x.1, undef, undef, undef, undef, undef, undef, undef], defers := [] }) ?assign ?body ?done ?stop
  case assign =>
    intro l x W K hK
    gi_wp2
    exact hK
  case body =>
    rintro l pre x W ⟨⟨hc, hf⟩, hB⟩ _
    have hr := mk_range (ints pre) m hm0 hm1
    obtain ⟨hx0, hx1⟩ := x.2
    obtain ⟨hr0, hr1⟩ := hr
    have HB := Lib.hid hB
    clear hB
    have e1 := mk_bytes_snoc m pre x
    have E1 := Lib.hid e1
    clear e1
    generalize mk m (ints pre) = z at *
    obtain ⟨x, hx⟩ := x
    dsimp only at *
    gi_wp2_with (refine ⟨trivial, ?_⟩; gi_at_call 17; refine (CallsIn.inRound l (callsIn_wide.2 (mixed_any z 65537 (x + 1) _ (by omega) (by omega) (by omega) (by omega)))).mono ?_; rintro e w' ⟨rfl, rfl⟩)
    exact ⟨KeepsOthers.setCell _ _ _, (Below.refl w.heap.size W).setCell (p := ⟨w.heap.size, 0, none⟩) (Nat.le_refl _) _, ⟨by rw [E1.out]; unfold stp; rw [Int.add_assoc]; exact World.cell?_setCell_same' _ _ _ (by rw [hc]; rfl), by rw [World.frozen?_setCell]; exact hf⟩, HB.out.setCell (p := ⟨w.heap.size, 0, none⟩) (Nat.le_refl _) _⟩
  case done =>
    rintro D ys W hD rfl ⟨⟨hc, _⟩, hB⟩ hK
    have hr := mk_range (ints ps.flatten) m hm0 hm1
    obtain ⟨hr0, hr1⟩ := hr
    have HB := Lib.hid hB
    clear hB
    gi_wp2
    refine ⟨by simp, .inl ⟨_, _, rfl, run_takeDeferred hK, ?_⟩⟩
    refine ⟨_, results_tmp rfl _ _ _, rfl, ?_⟩
    exact HB.out.trans (belowK_b (w := w) (Nat.le_refl _) W D _ _ (by simp at hD; omega) hK rfl rfl)
  case stop =>
    rintro D c pre W _ _ h _
    exact h.elim
end Go.Proofs.Ytgnaadaihncgeaa.MarkSeq
