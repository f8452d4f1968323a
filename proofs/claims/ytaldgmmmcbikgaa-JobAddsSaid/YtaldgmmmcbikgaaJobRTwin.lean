/- The reference's Twin. -/
import Derived.Laws.AppendOwn
import Derived.OwnWalk
import Derived.BigQuiet
import Derived.Deep.QuietTactic
import Derived.Deep.MidRow
import Derived.Test.YtaldgmmmcbikgaaJobTwin
namespace Go.Proofs.Ytaldgmmmcbikgaa.JobRTwin
open Go.RowKit Mem PosMath PartMath TurnMath JobMath JobMem JobTwin
set_option linter.unusedVariables false
set_option linter.unusedSimpArgs false

/-- Numbers of one's own, not in the row's block. -/
def IntsNew (w : World) (B : Nat) (ob : Option Nat) (Y : Option Addr) (l : List Int) : Prop := ∀ (i : Nat) (v : Int), l[i]? = some v → ∃ b o, Y = some ⟨b, o, none⟩ ∧ B ≤ b ∧ some b ≠ ob ∧ b < w.heap.size ∧ w.cell? ⟨b, o + i, none⟩ = some (.int .i64 v) ∧ w.frozen? ⟨b, o + i, none⟩ = false
theorem IntsNew.up {w w' : World} {B : Nat} {ob : Option Nat} {Y : Option Addr} {l : List Int} (h : IntsNew w B ob Y l) (hB : Below w.heap.size w w') : IntsNew w' B ob Y l := fun i v hi => by
  obtain ⟨b, o, e, h1, h2, hb, x, y⟩ := h i v hi
  exact ⟨b, o, e, h1, h2, Nat.lt_of_lt_of_le hb hB.size, keep_cell x hB, frozen_keep y hb hB⟩
theorem cell_of_block {w w' : World} {b o : Nat} (h : w'.heap[b]? = w.heap[b]?) : w'.cell? ⟨b, o, none⟩ = w.cell? ⟨b, o, none⟩ := by simp [World.cell?, h]
theorem frozen_of_block {w w' : World} {b o : Nat} (h : w'.heap[b]? = w.heap[b]?) : w'.frozen? ⟨b, o, none⟩ = w.frozen? ⟨b, o, none⟩ := by simp [World.frozen?, h]
theorem IntsNew.grown {w w' : World} {B : Nat} {ob ob' : Option Nat} {Y : Option Addr} {l : List Int} (h : IntsNew w B ob Y l) (hg : w.grownBy w' ob) (ho : ob' = ob ∨ ob' = some w.heap.size) : IntsNew w' B ob' Y l := fun i v hi => by
  obtain ⟨b, o, e, h1, h2, hb, x, y⟩ := h i v hi
  have hk := hg.block b hb h2
  refine ⟨b, o, e, h1, ?_, Nat.lt_of_lt_of_le hb hg.size, (cell_of_block hk).trans x, (frozen_of_block hk).trans y⟩
  rcases ho with rfl | rfl
  · exact h2
  · intro e; simp at e; omega
/-- The reference's copy, so far: k jobs in a row of one's own. -/
def TwinO (w : World) (B : Nat) (v : Value) (l : List JV) (k : Nat) (O : List Value) : Prop :=
  w.ownsRow B 33 16 v k O ∧ ∀ i j, i < k → l[i]? = some j → ∃ Y c, (∀ t u, t < 16 → (j.arr Y c)[t]? = some u → O[i * 16 + t]? = some u) ∧ IntsNew w B v.ownBlock Y j.af
theorem ownsRow_below {w w' : World} {B n size : Nat} {e : TypeId} {v : Value} {xs : List Value} (h : w.ownsRow B e size v n xs) (hb : Below w.heap.size w w') : w'.ownsRow B e size v n xs := by
  refine ⟨h.1, ?_⟩
  rcases h.2 with h2 | ⟨g, cap, cur, e, h1, h2, h3⟩
  · exact .inl h2
  · exact .inr ⟨g, cap, cur, e, h1, (hb.block g (Array.getElem?_eq_some_iff.1 h2).1).trans h2, h3⟩
theorem TwinO.start (w : World) (B : Nat) (l : List JV) : TwinO w B (.slice none 0 0) l 0 [] := ⟨⟨rfl, .inl ⟨rfl, rfl⟩⟩, fun i j h => by omega⟩
theorem TwinO.step {wr w4 w5 : World} {B : Nat} {v v5 : Value} {l : List JV} {k : Nat} {O : List Value} {x : JV} {Y : Option Addr} {c : Nat} (h : TwinO wr B v l k O) (hB : Below wr.heap.size wr w4) (hk : l[k]? = some x) (hY : IntsNew w4 B v.ownBlock Y x.af)
    (hg : w4.grownBy w5 v.ownBlock) (ho : w5.ownsRow B 33 16 v5 (k + 1) (O ++ (x.arr Y c).toList)) (ha : v5.ownBlock = v.ownBlock ∨ v5.ownBlock = some w4.heap.size) : TwinO w5 B v5 l (k + 1) (O ++ (x.arr Y c).toList) := by
  have hlen : O.length = k * 16 := h.1.1
  refine ⟨ho, fun i j hi hj => ?_⟩
  by_cases hik : i = k
  · subst hik
    rw [hk] at hj
    cases hj
    refine ⟨Y, c, fun t u ht hu => ?_, hY.grown hg ha⟩
    rw [List.getElem?_append_right (by omega), show i * 16 + t - O.length = t by omega]
    simpa using hu
  · obtain ⟨Y', c', h1, h2⟩ := h.2 i j (by omega) hj
    refine ⟨Y', c', fun t u ht hu => ?_, (h2.up hB).grown hg ha⟩
    rw [List.getElem?_append_left (by omega)]
    exact h1 t u ht hu
theorem TwinO.own {w : World} {B : Nat} {v : Value} {l : List JV} {O : List Value} (h : TwinO w B v l l.length O) : ∃ X c, v = .slice X l.length c ∧ JobsOwn w B X l := by
  rcases h.1.2 with ⟨rfl, e0⟩ | ⟨g, cap, cur, rfl, hb, hg, hc, hm, hs, ht⟩
  · obtain rfl : l = [] := List.eq_nil_of_length_eq_zero e0
    exact ⟨none, 0, rfl, JobsOwn.nil⟩
  · refine ⟨some ⟨g, 0, none⟩, cap, rfl, fun i j hi => ?_⟩
    have hil := (List.getElem?_eq_some_iff.1 hi).1
    obtain ⟨Y, c, h1, h2⟩ := h.2 i j hil hi
    have kb : Blk w g 33 cur := hg
    refine ⟨g, Y, c, rfl, hb, kb.lt, job_of_cells fun t u ht' hu => ?_, fun t ht' => kb.frozen _, fun _ q z hq => ?_, fun h => by omega⟩
    · have h3 := h1 t u ht' hu
      rw [← ht, List.getElem?_take_of_lt (by omega)] at h3
      rw [kb.cell]
      simpa using h3
    · obtain ⟨b, o, e, a1, a2, a3, a4, a5⟩ := h2 q z hq
      exact ⟨b, o, e, a1, fun e => a2 (by rw [e]; rfl), a3, a4, a5⟩
theorem ints_new {w' : World} {B n : Nat} {e : TypeId} {v : Value} {l : List Int} {ob : Option Nat} (hob : ∀ j, ob = some j → j < B) (hn : n = l.length) (ho : w'.ownsRow B e 1 v n (l.map (Value.int .i64))) : ∃ Y c, v = .slice Y l.length c ∧ IntsNew w' B ob Y l := by
  subst hn
  rcases ho.2 with ⟨rfl, e0⟩ | ⟨g, cap, cur, rfl, hb, hg, hc, hm, hs, ht⟩
  · obtain rfl : l = [] := List.eq_nil_of_length_eq_zero e0
    exact ⟨none, 0, rfl, fun i j h => by simp at h⟩
  · refine ⟨some ⟨g, 0, none⟩, cap, rfl, fun i v hi => ?_⟩
    have hil := (List.getElem?_eq_some_iff.1 hi).1
    have kb : Blk w' g e cur := hg
    refine ⟨g, 0, rfl, hb, fun e => by have := hob g e.symm; omega, kb.lt, ?_, kb.frozen _⟩
    rw [kb.cell, Nat.zero_add]
    have h1 : (l.map (Value.int .i64))[i]? = some (.int .i64 v) := by simp [hi]
    rw [← ht, List.getElem?_take_of_lt (by omega)] at h1
    simpa using h1
theorem IntsNew.less {w : World} {B B' : Nat} {ob : Option Nat} {Y : Option Addr} {l : List Int} (h : IntsNew w B ob Y l) (hB : B' ≤ B) : IntsNew w B' ob Y l := fun i v hi => by
  obtain ⟨b, o, e, h1, h2, hb, x, y⟩ := h i v hi
  exact ⟨b, o, e, Nat.le_trans hB h1, h2, hb, x, y⟩
/-- A store into a new block. -/
theorem IntsNew.far {w : World} {B : Nat} {ob : Option Nat} {Y : Option Addr} {l : List Int} {p : Addr} (u : Value) (h : IntsNew w B ob Y l) (hp : p.block < B) : IntsNew (w.setCell p u) B ob Y l := fun i v hi => by
  obtain ⟨b, o, e, h1, h2, hb, x, y⟩ := h i v hi
  exact ⟨b, o, e, h1, h2, by rw [World.size_setCell]; exact hb, cell_set_far x (by intro e; rw [← e] at hp; simp at hp; omega), by rw [World.frozen?_setCell]; exact y⟩
theorem reads_job (W : World) (n : Nat) (hn : n = W.heap.size) (cs : Array Value) (h : cs.size = 16) : Reads (W.alloc (.cells cs 33)) (n + 1) 16 (some ⟨n, 0, none⟩) 1 cs.toList := by
  subst hn
  exact ⟨by simp [h], fun _ => ⟨_, rfl, by simp, fun j u hu => by rw [add_flat, Nat.zero_add, (Blk.new W _ cs).cell]; simpa using hu⟩⟩
theorem job_one {x : JV} {Y : Option Addr} {c : Nat} (u : Value) (hu : u ∈ (x.arr Y c).toList) : u.oneCell' = true := by
  unfold JV.arr at hu
  simp at hu
  rcases hu with rfl | rfl | rfl | rfl | rfl | rfl | rfl | rfl | rfl | rfl | rfl | rfl | rfl | rfl | rfl | rfl <;> rfl
set_option maxRecDepth 100000 in
set_option maxHeartbeats 4000000 in
theorem rtwin (X : Option Addr) (cap : Nat) (l : List JV) (hl : l.length ≤ 1000) (hla : ∀ j ∈ l, j.af.length ≤ 1000) (w : World) (hX : JobsAt w X l) :
    Calls Try.prog 9 #[.slice X l.length cap] w fun e w' => ∃ X' c', e = .returned (.slice X' l.length c') ∧ JobsOwn w' w.heap.size X' l ∧ Below w.heap.size w w' := by
  obtain ⟨ii, a0, a1, a2, a3⟩ := info_parts int_info
  obtain ⟨ij, b0, b1, b2, b3⟩ := info_parts job_info
  have HII := Lib.hid (And.intro a0 (And.intro a1 (And.intro a2 a3)))
  have HII2 := Lib.hid (And.intro b0 (And.intro b1 (And.intro b2 b3)))
  have HX := Lib.hid hX
  have HLA := Lib.hid hla
  clear hX hla a0 a1 a2 a3 b0 b1 b2 b3
  go_enter Try.func9, Try.ntmps9
  go_wp2_with fail
  go_loopw [3, 4] (fun v i wr => ∃ (k : Nat) (O : List Value) (vv : Value), vv = v ∧ k ≤ l.length ∧ i = .int .i64 k ∧ Hid (TwinO wr w.heap.size vv l k O) ∧ Hid (Below w.heap.size w wr))
    (fun _ i _ => l.length - (intOf i).toNat)
  case atStart => exact ⟨0, [], _, rfl, Nat.zero_le _, rfl, TwinO.start w _ l, Below.refl _ _⟩
  case round =>
    obtain ⟨k, O, v, hv, hk, rfl, hT, hB⟩ := hrel
    subst hv
    by_cases hlt : k < l.length
    · have hg : l[k]? = some l[k] := List.getElem?_eq_getElem hlt
      generalize l[k] = x at hg
      have hki : (k : Int) < (l.length : Int) := by omega
      have hki0 : (0 : Int) ≤ (k : Int) := by omega
      have haf := HLA.out x (List.mem_of_getElem? hg)
      obtain ⟨b, o, Y, c, rfl, hb, hJ, hY⟩ := HX.out.up hB.out k x hg
      have HJ := Lib.hid hJ
      have HG := Lib.hid hg
      have HR := Lib.hid (And.intro ((ints_reads hY).alloc (Nat.le_refl _) (.cells #[.int .i64 x.id, .int .i64 x.us, .int .i64 x.cl, .int .i64 x.x.a, .int .i64 x.x.b, .int .i64 x.x.c, .bool x.x.p, .bool x.x.q, .bool x.x.r, .bool x.x.tn, .int .i64 x.wa, .int .i64 x.pr, .bool x.he, .slice Y x.af.length c, .int .u8 x.st, .int .i64 x.ca] 33)) (And.intro (show ∀ u ∈ x.af.map (Value.int .i64), u.oneCell' = true from fun u hu => by
        obtain ⟨n, _, rfl⟩ := List.mem_map.1 hu
        rfl) (And.intro trivial (show ∀ j, v.ownBlock = some j → j < wr.heap.size + 1 from fun j hj => by have := (hT.out.1.lt j hj).2; omega))))
      have HT := Lib.hid hT.out
      have HBs := Lib.hid hB.out.size
      clear hg hJ hY hT
      go_wp2_with (first | (refine wpList_load_mid rfl 33 _ rfl _ _ rfl _ _ HJ.out.range Try.underlying33 rfl (by kernel_rfl) ?_) | (refine wpList_load_row rfl 33 _ rfl _ rfl 33 #[.int .i64 x.id, .int .i64 x.us, .int .i64 x.cl, .int .i64 x.x.a, .int .i64 x.x.b, .int .i64 x.x.c, .bool x.x.p, .bool x.x.q, .bool x.x.r, .bool x.x.tn, .int .i64 x.wa, .int .i64 x.pr, .bool x.he, .slice Y' x.af.length c2, .int .u8 x.st, .int .i64 x.ca] (0, 0) _ K3.out Try.underlying33 rfl (by kernel_rfl) ?_) | (at_builtin; refine wpList_append_any _ rfl (.const (.slice none 0 0)) (.tmp 17) _ rfl (wr.heap.size + 1) 3 ii (.int .i64 0) 1 8 Try.underlying31 HII.out.1 HII.out.2.1 HII.out.2.2.1 HII.out.2.2.2 rfl (by decide) (.slice none 0 0) 0 [] rfl ⟨rfl, .inl ⟨rfl, rfl⟩⟩ wr.heap.size Y x.af.length c (x.af.map (Value.int .i64)) rfl HR.out.1 HR.out.2.1 (by simp only [maxLen]; omega) (by omega) (by simp) ?_; intro v2 w2 hown hg hat; (obtain ⟨Y', c2, rfl, hI⟩ := ints_new (B := wr.heap.size + 1) (ob := v.ownBlock) HR.out.2.2.2 rfl (by simpa using hown)); have kb2 : Blk w2 wr.heap.size 33 #[.int .i64 x.id, .int .i64 x.us, .int .i64 x.cl, .int .i64 x.x.a, .int .i64 x.x.b, .int .i64 x.x.c, .bool x.x.p, .bool x.x.q, .bool x.x.r, .bool x.x.tn, .int .i64 x.wa, .int .i64 x.pr, .bool x.he, .slice Y x.af.length c, .int .u8 x.st, .int .i64 x.ca] := (Blk.new wr _ _).grown hg (by simp [Value.ownBlock]); have hb2 : Below wr.heap.size wr w2 := (below_alloc (Below.refl _ wr)).grown hg (by simp) (by intro j hj; cases hj); have y13 : w2.cell? ⟨wr.heap.size, 13, none⟩ = some (.slice Y x.af.length c) := kb2.cell 13; have g13 : w2.frozen? ⟨wr.heap.size, 13, none⟩ = false := kb2.frozen 13; have kb3 : Blk (w2.setCell ⟨wr.heap.size, 13, none⟩ (.slice Y' x.af.length c2)) wr.heap.size 33 #[.int .i64 x.id, .int .i64 x.us, .int .i64 x.cl, .int .i64 x.x.a, .int .i64 x.x.b, .int .i64 x.x.c, .bool x.x.p, .bool x.x.q, .bool x.x.r, .bool x.x.tn, .int .i64 x.wa, .int .i64 x.pr, .bool x.he, .slice Y' x.af.length c2, .int .u8 x.st, .int .i64 x.ca] := kb2.set_ 13 _; have K3 := Lib.hid kb3; have HI3 := Lib.hid (IntsNew.far (p := ⟨wr.heap.size, 13, none⟩) (.slice Y' x.af.length c2) hI (by show wr.heap.size < wr.heap.size + 1; omega)); have HB3 := Lib.hid (hb2.setCell (p := ⟨wr.heap.size, 13, none⟩) (Nat.le_refl _) (.slice Y' x.af.length c2)); clear hown hg hat hI kb2 kb3 hb2) | (at_builtin; refine wpList_append_any _ rfl (.tmp 20) (.tmp 22) _ rfl w.heap.size 33 ij (.agg #[.int .i64 0, .int .i64 0, .int .i64 0, .int .i64 0, .int .i64 0, .int .i64 0, .bool false, .bool false, .bool false, .bool false, .int .i64 0, .int .i64 0, .bool false, .slice none 0 0, .int .u8 0, .int .i64 0]) 16 120 Try.underlying27 HII2.out.1 HII2.out.2.1 HII2.out.2.2.1 HII2.out.2.2.2 rfl (by decide) v k O rfl (ownsRow_below HT.out.1 (below_alloc HB3.out)) _ _ 1 1 (x.arr Y' c2).toList rfl (reads_job (w2.setCell ⟨wr.heap.size, 13, none⟩ (.slice Y' x.af.length c2)) w2.heap.size (World.size_setCell ..).symm (x.arr Y' c2) rfl) (fun u hu => job_one u hu) (by simp only [maxLen]; omega) (by omega) (by have := HBs.out; have := HB3.out.size; simp; simp at this; omega) ?_; intro v5 w5 hown hg hat; have H5 := Lib.hid (And.intro hown (And.intro hg hat)); clear hown hg hat))
      go_roundw
      case rel => exact ⟨k + 1, _, v5, rfl, by omega, by go_num, TwinO.step HT.out (below_alloc HB3.out) HG.out ((HI3.out.less (by have := HBs.out; omega)).up (below_alloc (Below.refl _ _))) H5.out.2.1 H5.out.1 (by simpa using H5.out.2.2), (below_alloc (below_up hB.out HB3.out)).grown H5.out.2.1 (by have := HBs.out; have := HB3.out.size; simp; simp at this; omega) (fun j hj => (HT.out.1.lt j hj).1)⟩
      case measure => simp [intOf]; omega
    · obtain rfl : k = l.length := by omega
      go_wp2_with fail
      go_ret
      obtain ⟨X', c', e, h⟩ := hT.out.own
      exact ⟨X', c', by rw [e]; rfl, h, hB.out⟩
end Go.Proofs.Ytaldgmmmcbikgaa.JobRTwin
