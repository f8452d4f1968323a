/- Several texts joined: The reference's Twin. -/
import Derived.Laws.AppendOwn
import Derived.OwnWalk
import Derived.BigQuiet
import Derived.Deep.QuietTactic
import Derived.Deep.MidRow
import Derived.Test.YtfpljpdjohmbaaaGreatY9
import Derived.Shelf.SlSortCmp.NoneTotal
import Derived.Test.YtfpljpdjohmbaaaGreatRows
import Derived.Sort.QuietIn
import Derived.StillTailTactics
import Derived.RangeFuncCalls
import Derived.Maps.Own
import Derived.Maps.OwnOps
import Derived.Maps.OwnSet
import Derived.Maps.Views
import Derived.Test.YtfpljpdjohmbaaaGreatY6
import Derived.Test.YtfpljpdjohmbaaaGreatY7
import Derived.BigRegion
import Derived.Deep.DeepCutAuto
import Derived.Lib.QuietBelow
import Derived.Laws.Rows
import Derived.Test.YtfpljpdjohmbaaaGreatY1
import Derived.Deep.RegionHeld3
import Derived.Test.YtfpljpdjohmbaaaGreatY3
/-! The reference's Twin. -/
namespace Go.Proofs.YtfpljpdjohmbaaaGreat.JobRTwin
open Go.RowKit Mem PosMath PartMath TurnMath JobMath JobMem JobTwin
set_option linter.unusedVariables false
set_option linter.unusedSimpArgs false

/-- Numbers of one's own, not in the row's block. -/
def IntsNew (w : World) (B : Nat) (ob : Option Nat) (Y : Option Addr) (l : List Int) : Prop := ∀ (i : Nat) (v : Int), l[i]? = some v → ∃ b o, Y = some ⟨b, o, none⟩ ∧ B ≤ b ∧ some b ≠ ob ∧ b < w.heap.size ∧ w.cell? ⟨b, o + i, none⟩ = some (.int .i64 v) ∧ w.frozen? ⟨b, o + i, none⟩ = false
theorem IntsNew.up {w w' : World} {B : Nat} {ob : Option Nat} {Y : Option Addr} {l : List Int} (h : IntsNew w B ob Y l) (hB : Below w.heap.size w w') : IntsNew w' B ob Y l := fun i v hi => by
  obtain ⟨b, o, e, h1, h2, hb, x, y⟩ := h i v hi
  exact ⟨b, o, e, h1, h2, Nat.lt_of_lt_of_le hb hB.size, keep_cell x hB, frozen_keep y hb hB⟩
theorem cell_of_block {w w' : World} {b o : Nat} (h : w'.heap[b]? = w.heap[b]?) : w'.cell? ⟨b, o, none⟩ = w.cell? ⟨b, o, none⟩ := by simp [World.cell?, h]
theorem frozen_of_block {w w' : World} {b o : Nat} (h : w'.heap[b]? = w.heap[b]?) : w'.frozen? ⟨b, o, none⟩ = w.frozen? ⟨b, o, none⟩ := by simp [World.frozen?, h]
theorem IntsNew.grown {w w' : World} {B : Nat} {ob ob' : Option Nat} {Y : Option Addr} {l : List Int} (h : IntsNew w B ob Y l) (hg : w.grownBy w' ob) (ho : ob' = ob ∨ ob' = some w.heap.size) : IntsNew w' B ob' Y l := fun i v hi => by
  obtain ⟨b, o, e, h1, h2, hb, x, y⟩ := h i v hi
  have hk := hg.block b hb h2
  refine ⟨b, o, e, h1, ?_, Nat.lt_of_lt_of_le hb hg.size, (cell_of_block hk).trans x, (frozen_of_block hk).trans y⟩
  rcases ho with rfl | rfl
  · exact h2
  · intro e; simp at e; omega
/-- The reference's copy, so far: k jobs in a row of one's own. -/
def TwinO (w : World) (B : Nat) (v : Value) (l : List JV) (k : Nat) (O : List Value) : Prop :=
  w.ownsRow B 33 16 v k O ∧ ∀ i j, i < k → l[i]? = some j → ∃ Y c, (∀ t u, t < 16 → (j.arr Y c)[t]? = some u → O[i * 16 + t]? = some u) ∧ IntsNew w B v.ownBlock Y j.af
theorem ownsRow_below {w w' : World} {B n size : Nat} {e : TypeId} {v : Value} {xs : List Value} (h : w.ownsRow B e size v n xs) (hb : Below w.heap.size w w') : w'.ownsRow B e size v n xs := by
  refine ⟨h.1, ?_⟩
  rcases h.2 with h2 | ⟨g, cap, cur, e, h1, h2, h3⟩
  · exact .inl h2
  · exact .inr ⟨g, cap, cur, e, h1, (hb.block g (Array.getElem?_eq_some_iff.1 h2).1).trans h2, h3⟩
theorem TwinO.start (w : World) (B : Nat) (l : List JV) : TwinO w B (.slice none 0 0) l 0 [] := ⟨⟨rfl, .inl ⟨rfl, rfl⟩⟩, fun i j h => by omega⟩
theorem TwinO.step {wr w4 w5 : World} {B : Nat} {v v5 : Value} {l : List JV} {k : Nat} {O : List Value} {x : JV} {Y : Option Addr} {c : Nat} (h : TwinO wr B v l k O) (hB : Below wr.heap.size wr w4) (hk : l[k]? = some x) (hY : IntsNew w4 B v.ownBlock Y x.af)
    (hg : w4.grownBy w5 v.ownBlock) (ho : w5.ownsRow B 33 16 v5 (k + 1) (O ++ (x.arr Y c).toList)) (ha : v5.ownBlock = v.ownBlock ∨ v5.ownBlock = some w4.heap.size) : TwinO w5 B v5 l (k + 1) (O ++ (x.arr Y c).toList) := by
  have hlen : O.length = k * 16 := h.1.1
  refine ⟨ho, fun i j hi hj => ?_⟩
  by_cases hik : i = k
  · subst hik
    rw [hk] at hj
    cases hj
    refine ⟨Y, c, fun t u ht hu => ?_, hY.grown hg ha⟩
    rw [List.getElem?_append_right (by omega), show i * 16 + t - O.length = t by omega]
    simpa using hu
  · obtain ⟨Y', c', h1, h2⟩ := h.2 i j (by omega) hj
    refine ⟨Y', c', fun t u ht hu => ?_, (h2.up hB).grown hg ha⟩
    rw [List.getElem?_append_left (by omega)]
    exact h1 t u ht hu
theorem TwinO.own {w : World} {B : Nat} {v : Value} {l : List JV} {O : List Value} (h : TwinO w B v l l.length O) : ∃ X c, v = .slice X l.length c ∧ JobsOwn w B X l := by
  rcases h.1.2 with ⟨rfl, e0⟩ | ⟨g, cap, cur, rfl, hb, hg, hc, hm, hs, ht⟩
  · obtain rfl : l = [] := List.eq_nil_of_length_eq_zero e0
    exact ⟨none, 0, rfl, JobsOwn.nil⟩
  · refine ⟨some ⟨g, 0, none⟩, cap, rfl, fun i j hi => ?_⟩
    have hil := (List.getElem?_eq_some_iff.1 hi).1
    obtain ⟨Y, c, h1, h2⟩ := h.2 i j hil hi
    have kb : Blk w g 33 cur := hg
    refine ⟨g, Y, c, rfl, hb, kb.lt, job_of_cells fun t u ht' hu => ?_, fun t ht' => kb.frozen _, fun _ q z hq => ?_, fun h => by omega⟩
    · have h3 := h1 t u ht' hu
      rw [← ht, List.getElem?_take_of_lt (by omega)] at h3
      rw [kb.cell]
      simpa using h3
    · obtain ⟨b, o, e, a1, a2, a3, a4, a5⟩ := h2 q z hq
      exact ⟨b, o, e, a1, fun e => a2 (by rw [e]; rfl), a3, a4, a5⟩
theorem ints_new {w' : World} {B n : Nat} {e : TypeId} {v : Value} {l : List Int} {ob : Option Nat} (hob : ∀ j, ob = some j → j < B) (hn : n = l.length) (ho : w'.ownsRow B e 1 v n (l.map (Value.int .i64))) : ∃ Y c, v = .slice Y l.length c ∧ IntsNew w' B ob Y l := by
  subst hn
  rcases ho.2 with ⟨rfl, e0⟩ | ⟨g, cap, cur, rfl, hb, hg, hc, hm, hs, ht⟩
  · obtain rfl : l = [] := List.eq_nil_of_length_eq_zero e0
    exact ⟨none, 0, rfl, fun i j h => by simp at h⟩
  · refine ⟨some ⟨g, 0, none⟩, cap, rfl, fun i v hi => ?_⟩
    have hil := (List.getElem?_eq_some_iff.1 hi).1
    have kb : Blk w' g e cur := hg
    refine ⟨g, 0, rfl, hb, fun e => by have := hob g e.symm; omega, kb.lt, ?_, kb.frozen _⟩
    rw [kb.cell, Nat.zero_add]
    have h1 : (l.map (Value.int .i64))[i]? = some (.int .i64 v) := by simp [hi]
    rw [← ht, List.getElem?_take_of_lt (by omega)] at h1
    simpa using h1
theorem IntsNew.less {w : World} {B B' : Nat} {ob : Option Nat} {Y : Option Addr} {l : List Int} (h : IntsNew w B ob Y l) (hB : B' ≤ B) : IntsNew w B' ob Y l := fun i v hi => by
  obtain ⟨b, o, e, h1, h2, hb, x, y⟩ := h i v hi
  exact ⟨b, o, e, Nat.le_trans hB h1, h2, hb, x, y⟩
/-- A store into a new block. -/
theorem IntsNew.far {w : World} {B : Nat} {ob : Option Nat} {Y : Option Addr} {l : List Int} {p : Addr} (u : Value) (h : IntsNew w B ob Y l) (hp : p.block < B) : IntsNew (w.setCell p u) B ob Y l := fun i v hi => by
  obtain ⟨b, o, e, h1, h2, hb, x, y⟩ := h i v hi
  exact ⟨b, o, e, h1, h2, by rw [World.size_setCell]; exact hb, cell_set_far x (by intro e; rw [← e] at hp; simp at hp; omega), by rw [World.frozen?_setCell]; exact y⟩
theorem reads_job (W : World) (n : Nat) (hn : n = W.heap.size) (cs : Array Value) (h : cs.size = 16) : Reads (W.alloc (.cells cs 33)) (n + 1) 16 (some ⟨n, 0, none⟩) 1 cs.toList := by
  subst hn
  exact ⟨by simp [h], fun _ => ⟨_, rfl, by simp, fun j u hu => by rw [add_flat, Nat.zero_add, (Blk.new W _ cs).cell]; simpa using hu⟩⟩
theorem job_one {x : JV} {Y : Option Addr} {c : Nat} (u : Value) (hu : u ∈ (x.arr Y c).toList) : u.oneCell' = true := by
  unfold JV.arr at hu
  simp at hu
  rcases hu with rfl | rfl | rfl | rfl | rfl | rfl | rfl | rfl | rfl | rfl | rfl | rfl | rfl | rfl | rfl | rfl <;> rfl
set_option maxRecDepth 100000 in
set_option maxHeartbeats 4000000 in
theorem rtwin (X : Option Addr) (cap : Nat) (l : List JV) (hl : l.length ≤ 1000) (hla : ∀ j ∈ l, j.af.length ≤ 1000) (w : World) (hX : JobsAt w X l) :
    Calls Tryz.prog 5 #[.slice X l.length cap] w fun e w' => ∃ X' c', e = .returned (.slice X' l.length c') ∧ JobsOwn w' w.heap.size X' l ∧ Below w.heap.size w w' := by
  obtain ⟨ii, a0, a1, a2, a3⟩ := info_parts int_info
  obtain ⟨ij, b0, b1, b2, b3⟩ := info_parts job_info
  have HII := Lib.hid (And.intro a0 (And.intro a1 (And.intro a2 a3)))
  have HII2 := Lib.hid (And.intro b0 (And.intro b1 (And.intro b2 b3)))
  have HX := Lib.hid hX
  have HLA := Lib.hid hla
  clear hX hla a0 a1 a2 a3 b0 b1 b2 b3
  go_enter Tryz.func5, Tryz.ntmps5
  go_wp2_with fail
  go_loopw [3, 4] (fun v i wr => ∃ (k : Nat) (O : List Value) (vv : Value), vv = v ∧ k ≤ l.length ∧ i = .int .i64 k ∧ Hid (TwinO wr w.heap.size vv l k O) ∧ Hid (Below w.heap.size w wr))
    (fun _ i _ => l.length - (intOf i).toNat)
  case atStart => exact ⟨0, [], _, rfl, Nat.zero_le _, rfl, TwinO.start w _ l, Below.refl _ _⟩
  case round =>
    obtain ⟨k, O, v, hv, hk, rfl, hT, hB⟩ := hrel
    subst hv
    by_cases hlt : k < l.length
    · have hg : l[k]? = some l[k] := List.getElem?_eq_getElem hlt
      generalize l[k] = x at hg
      have hki : (k : Int) < (l.length : Int) := by omega
      have hki0 : (0 : Int) ≤ (k : Int) := by omega
      have haf := HLA.out x (List.mem_of_getElem? hg)
      obtain ⟨b, o, Y, c, rfl, hb, hJ, hY⟩ := HX.out.up hB.out k x hg
      have HJ := Lib.hid hJ
      have HG := Lib.hid hg
      have HR := Lib.hid (And.intro ((ints_reads hY).alloc (Nat.le_refl _) (.cells #[.int .i64 x.id, .int .i64 x.us, .int .i64 x.cl, .int .i64 x.x.a, .int .i64 x.x.b, .int .i64 x.x.c, .bool x.x.p, .bool x.x.q, .bool x.x.r, .bool x.x.tn, .int .i64 x.wa, .int .i64 x.pr, .bool x.he, .slice Y x.af.length c, .int .u8 x.st, .int .i64 x.ca] 33)) (And.intro (show ∀ u ∈ x.af.map (Value.int .i64), u.oneCell' = true from fun u hu => by
        obtain ⟨n, _, rfl⟩ := List.mem_map.1 hu
        rfl) (And.intro trivial (show ∀ j, v.ownBlock = some j → j < wr.heap.size + 1 from fun j hj => by have := (hT.out.1.lt j hj).2; omega))))
      have HT := Lib.hid hT.out
      have HBs := Lib.hid hB.out.size
      clear hg hJ hY hT
      go_wp2_with (first | (refine wpList_load_mid rfl 33 _ rfl _ _ rfl _ _ HJ.out.range Tryz.underlying33 rfl (by kernel_rfl) ?_) | (refine wpList_load_row rfl 33 _ rfl _ rfl 33 #[.int .i64 x.id, .int .i64 x.us, .int .i64 x.cl, .int .i64 x.x.a, .int .i64 x.x.b, .int .i64 x.x.c, .bool x.x.p, .bool x.x.q, .bool x.x.r, .bool x.x.tn, .int .i64 x.wa, .int .i64 x.pr, .bool x.he, .slice Y' x.af.length c2, .int .u8 x.st, .int .i64 x.ca] (0, 0) _ K3.out Tryz.underlying33 rfl (by kernel_rfl) ?_) | (at_builtin; refine wpList_append_any _ rfl (.const (.slice none 0 0)) (.tmp 17) _ rfl (wr.heap.size + 1) 3 ii (.int .i64 0) 1 8 Tryz.underlying31 HII.out.1 HII.out.2.1 HII.out.2.2.1 HII.out.2.2.2 rfl (by decide) (.slice none 0 0) 0 [] rfl ⟨rfl, .inl ⟨rfl, rfl⟩⟩ wr.heap.size Y x.af.length c (x.af.map (Value.int .i64)) rfl HR.out.1 HR.out.2.1 (by simp only [maxLen]; omega) (by omega) (by simp) ?_; intro v2 w2 hown hg hat; (obtain ⟨Y', c2, rfl, hI⟩ := ints_new (B := wr.heap.size + 1) (ob := v.ownBlock) HR.out.2.2.2 rfl (by simpa using hown)); have kb2 : Blk w2 wr.heap.size 33 #[.int .i64 x.id, .int .i64 x.us, .int .i64 x.cl, .int .i64 x.x.a, .int .i64 x.x.b, .int .i64 x.x.c, .bool x.x.p, .bool x.x.q, .bool x.x.r, .bool x.x.tn, .int .i64 x.wa, .int .i64 x.pr, .bool x.he, .slice Y x.af.length c, .int .u8 x.st, .int .i64 x.ca] := (Blk.new wr _ _).grown hg (by simp [Value.ownBlock]); have hb2 : Below wr.heap.size wr w2 := (below_alloc (Below.refl _ wr)).grown hg (by simp) (by intro j hj; cases hj); have y13 : w2.cell? ⟨wr.heap.size, 13, none⟩ = some (.slice Y x.af.length c) := kb2.cell 13; have g13 : w2.frozen? ⟨wr.heap.size, 13, none⟩ = false := kb2.frozen 13; have kb3 : Blk (w2.setCell ⟨wr.heap.size, 13, none⟩ (.slice Y' x.af.length c2)) wr.heap.size 33 #[.int .i64 x.id, .int .i64 x.us, .int .i64 x.cl, .int .i64 x.x.a, .int .i64 x.x.b, .int .i64 x.x.c, .bool x.x.p, .bool x.x.q, .bool x.x.r, .bool x.x.tn, .int .i64 x.wa, .int .i64 x.pr, .bool x.he, .slice Y' x.af.length c2, .int .u8 x.st, .int .i64 x.ca] := kb2.set_ 13 _; have K3 := Lib.hid kb3; have HI3 := Lib.hid (IntsNew.far (p := ⟨wr.heap.size, 13, none⟩) (.slice Y' x.af.length c2) hI (by show wr.heap.size < wr.heap.size + 1; omega)); have HB3 := Lib.hid (hb2.setCell (p := ⟨wr.heap.size, 13, none⟩) (Nat.le_refl _) (.slice Y' x.af.length c2)); clear hown hg hat hI kb2 kb3 hb2) | (at_builtin; refine wpList_append_any _ rfl (.tmp 20) (.tmp 22) _ rfl w.heap.size 33 ij (.agg #[.int .i64 0, .int .i64 0, .int .i64 0, .int .i64 0, .int .i64 0, .int .i64 0, .bool false, .bool false, .bool false, .bool false, .int .i64 0, .int .i64 0, .bool false, .slice none 0 0, .int .u8 0, .int .i64 0]) 16 120 Tryz.underlying27 HII2.out.1 HII2.out.2.1 HII2.out.2.2.1 HII2.out.2.2.2 rfl (by decide) v k O rfl (ownsRow_below HT.out.1 (below_alloc HB3.out)) _ _ 1 1 (x.arr Y' c2).toList rfl (reads_job (w2.setCell ⟨wr.heap.size, 13, none⟩ (.slice Y' x.af.length c2)) w2.heap.size (World.size_setCell ..).symm (x.arr Y' c2) rfl) (fun u hu => job_one u hu) (by simp only [maxLen]; omega) (by omega) (by have := HBs.out; have := HB3.out.size; simp; simp at this; omega) ?_; intro v5 w5 hown hg hat; have H5 := Lib.hid (And.intro hown (And.intro hg hat)); clear hown hg hat))
      go_roundw
      case rel => exact ⟨k + 1, _, v5, rfl, by omega, by go_num, TwinO.step HT.out (below_alloc HB3.out) HG.out ((HI3.out.less (by have := HBs.out; omega)).up (below_alloc (Below.refl _ _))) H5.out.2.1 H5.out.1 (by simpa using H5.out.2.2), (below_alloc (below_up hB.out HB3.out)).grown H5.out.2.1 (by have := HBs.out; have := HB3.out.size; simp; simp at this; omega) (fun j hj => (HT.out.1.lt j hj).1)⟩
      case measure => simp [intOf]; omega
    · obtain rfl : k = l.length := by omega
      go_wp2_with fail
      go_ret
      obtain ⟨X', c', e, h⟩ := hT.out.own
      exact ⟨X', c', by rw [e]; rfl, h, hB.out⟩
end Go.Proofs.YtfpljpdjohmbaaaGreat.JobRTwin
/-! slices.SortFunc at pairs of numbers, laid at this program. -/
namespace Go.Proofs
open Go.Shelf
def YtfpljpdjohmbaaaGreat.RankLay.sortPairs_ren : Go.Shelf.Ren := ⟨fun | 6 => 17 | 15 => 32 | 14 => 31 | 28 => 61 | 29 => 62 | 20 => 53 | 21 => 54 | 22 => 55 | 23 => 56 | 24 => 57 | 25 => 58 | 26 => 59 | 27 => 60 | 46 => 75 | 47 => 76 | 48 => 77 | 49 => 78 | 50 => 79 | 57 => 87 | n => n, fun | 22 => 51 | 24 => 52 | 25 => 56 | 3 => 3 | 39 => 69 | 0 => 0 | 53 => 96 | 55 => 98 | 4 => 4 | 46 => 89 | 45 => 88 | 50 => 93 | 5 => 5 | 9 => 9 | 66 => 109 | 70 => 113 | 76 => 126 | 77 => 39 | n => n, fun | n => n⟩
theorem YtfpljpdjohmbaaaGreat.RankLay.sortPairs : SlLaysF0.n6 Tryz.prog YtfpljpdjohmbaaaGreat.RankLay.sortPairs_ren :=
  { mixed := by kernel_rfl
    f6 := ⟨ "slices.SortFunc[[][2]int,[2]int]", by decide, Tryz.func17.trans (congrArg some (by kernel_rfl))⟩
    f14 := ⟨ "slices.pdqsortCmpFunc[[2]int]", by decide, Tryz.func31.trans (congrArg some (by kernel_rfl))⟩
    f15 := Tryz.func32.trans (congrArg some (by kernel_rfl))
    f20 := ⟨ "slices.insertionSortCmpFunc[[2]int]", by decide, Tryz.func53.trans (congrArg some (by kernel_rfl))⟩
    f21 := ⟨ "slices.heapSortCmpFunc[[2]int]", by decide, Tryz.func54.trans (congrArg some (by kernel_rfl))⟩
    f22 := ⟨ "slices.breakPatternsCmpFunc[[2]int]", by decide, Tryz.func55.trans (congrArg some (by kernel_rfl))⟩
    f23 := ⟨ "slices.choosePivotCmpFunc[[2]int]", by decide, Tryz.func56.trans (congrArg some (by kernel_rfl))⟩
    f24 := ⟨ "slices.reverseRangeCmpFunc[[2]int]", by decide, Tryz.func57.trans (congrArg some (by kernel_rfl))⟩
    f25 := ⟨ "slices.partialInsertionSortCmpFunc[[2]int]", by decide, Tryz.func58.trans (congrArg some (by kernel_rfl))⟩
    f26 := ⟨ "slices.partitionEqualCmpFunc[[2]int]", by decide, Tryz.func59.trans (congrArg some (by kernel_rfl))⟩
    f27 := ⟨ "slices.partitionCmpFunc[[2]int]", by decide, Tryz.func60.trans (congrArg some (by kernel_rfl))⟩
    f28 := Tryz.func61.trans (congrArg some (by kernel_rfl))
    f29 := Tryz.func62.trans (congrArg some (by kernel_rfl))
    f46 := ⟨ "slices.siftDownCmpFunc[[2]int]", by decide, Tryz.func75.trans (congrArg some (by kernel_rfl))⟩
    f47 := Tryz.func76.trans (congrArg some (by kernel_rfl))
    f48 := Tryz.func77.trans (congrArg some (by kernel_rfl))
    f49 := ⟨ "slices.medianAdjacentCmpFunc[[2]int]", by decide, Tryz.func78.trans (congrArg some (by kernel_rfl))⟩
    f50 := ⟨ "slices.medianCmpFunc[[2]int]", by decide, Tryz.func79.trans (congrArg some (by kernel_rfl))⟩
    f57 := ⟨ "slices.order2CmpFunc[[2]int]", by decide, Tryz.func87.trans (congrArg some (by kernel_rfl))⟩
    t0 := Tryz.underlying0
    a0 := Tryz.isAgg0
    z0 := Tryz.sizeOf0
    v0 := Tryz.zeroValue0
    t3 := Tryz.underlying3
    a3 := Tryz.isAgg3
    z3 := Tryz.sizeOf3
    v3 := Tryz.zeroValue3
    t4 := Tryz.underlying4
    a4 := Tryz.isAgg4
    z4 := Tryz.sizeOf4
    v4 := Tryz.zeroValue4
    t5 := Tryz.underlying5
    a5 := Tryz.isAgg5
    z5 := Tryz.sizeOf5
    v5 := Tryz.zeroValue5
    t9 := Tryz.underlying9
    a9 := Tryz.isAgg9
    z9 := Tryz.sizeOf9
    v9 := Tryz.zeroValue9
    t22 := Tryz.underlying51
    a22 := Tryz.isAgg51
    z22 := Tryz.sizeOf51
    v22 := Tryz.zeroValue51
    t25 := Tryz.underlying56
    a25 := Tryz.isAgg56
    z25 := Tryz.sizeOf56
    v25 := Tryz.zeroValue56
    t39 := Tryz.underlying69
    a39 := Tryz.isAgg69
    z39 := Tryz.sizeOf69
    v39 := Tryz.zeroValue69
    t45 := Tryz.underlying88
    a45 := Tryz.isAgg88
    z45 := Tryz.sizeOf88
    v45 := Tryz.zeroValue88
    t46 := Tryz.underlying89
    a46 := Tryz.isAgg89
    z46 := Tryz.sizeOf89
    v46 := Tryz.zeroValue89
    t50 := Tryz.underlying93
    a50 := Tryz.isAgg93
    z50 := Tryz.sizeOf93
    v50 := Tryz.zeroValue93
    t53 := Tryz.underlying96
    a53 := Tryz.isAgg96
    z53 := Tryz.sizeOf96
    v53 := Tryz.zeroValue96
    t55 := Tryz.underlying98
    a55 := Tryz.isAgg98
    z55 := Tryz.sizeOf98
    v55 := Tryz.zeroValue98
    t66 := Tryz.underlying109
    a66 := Tryz.isAgg109
    z66 := Tryz.sizeOf109
    v66 := Tryz.zeroValue109
    t70 := Tryz.underlying113
    a70 := Tryz.isAgg113
    z70 := Tryz.sizeOf113
    v70 := Tryz.zeroValue113
    t76 := Tryz.underlying126
    a76 := Tryz.isAgg126
    z76 := Tryz.sizeOf126
    v76 := Tryz.zeroValue126
    t77 := Tryz.underlying39
    a77 := Tryz.isAgg39
    z77 := Tryz.sizeOf39
    v77 := Tryz.zeroValue39 }

end Go.Proofs
/-! A region that draws its order and only reads, within a round of a range over a function: one walk in the text's order serves every order, as outside of a round. No conditions but those named. -/
namespace Go.Proofs.YtfpljpdjohmbaaaGreat.Round
set_option linter.unusedVariables false

theorem uponIn_round {F : Fence} {n : Nat} {P : Program} {o : Oper} {a : Act} {K : Act → World → Prop} {Q : Exit → Act → World → Prop} (l : Nat) {r : Result Next} (h : o.uponIn F n P a K Q r) : o.uponIn (F.inRound l) n P a K Q r := h
theorem wpOpIn_round {F : Fence} {n : Nat} {P : Program} {ops : Array Oper} {i : Nat} {a : Act} {w : World} {K K' : Act → World → Prop} {Q : Exit → Act → World → Prop} (l : Nat) (hro : F.round = none)
    (hd : ∀ (j : Nat) (o : Oper), ops[j]? = some o → ∀ c, o.op ≠ .defer c) (hK : ∀ a w, K a w → K' a w) (h : wpOpIn F n P ops Q i K a w) : wpOpIn (F.inRound l) n P ops Q i K' a w := by
  have h2 := wpOpIn_mono hK h
  unfold wpOpIn at h2 ⊢
  split
  · rename_i ho; simp only [ho] at h2; exact h2
  · rename_i o ho
    simp only [ho] at h2
    split
    · rename_i hw
      simp only [hw, if_true] at h2
      obtain ⟨ha, hu⟩ := h2
      refine ⟨ha, uponIn_round l ?_⟩
      have e1 : o.semAt F.round a.eval = execOp a.eval o := by rw [hro, Oper.semAt_none]
      have e2 : o.semAt (F.inRound l).round a.eval = execOp a.eval o := Oper.semAt_some l a.eval o (hd i o ho)
      rw [e1] at hu
      rw [e2]
      exact hu
    · rename_i hw; simp only [hw] at h2; exact h2
theorem wpAnyIn_round {F : Fence} {n : Nat} {P : Program} {md : Region.Mode} {ops : Array Oper} {Q : Exit → Act → World → Prop} (l : Nat) (hro : F.round = none)
    (hd : ∀ (j : Nat) (o : Oper), ops[j]? = some o → ∀ c, o.op ≠ .defer c) : ∀ (fuel : Nat) (listed : Array Bool) (a : Act) (w : World), wpAnyIn F n P md ops Q fuel listed a w → wpAnyIn (F.inRound l) n P md ops Q fuel listed a w
  | 0, _, _, _, h => h
  | fuel + 1, _, _, _, h => ⟨h.1, fun i hi => wpOpIn_round l hro hd (fun a w => wpAnyIn_round l hro hd fuel _ a w) (h.2 i hi)⟩

def noDeferB (ops : Array Oper) : Bool := ops.all fun o => match o.op with | .defer _ => false | _ => true
theorem noDefer_of {ops : Array Oper} (h : noDeferB ops = true) (j : Nat) (o : Oper) (ho : ops[j]? = some o) (c) : o.op ≠ .defer c := by
  unfold noDeferB at h
  rw [Array.all_eq_true'] at h
  have := h o (Array.mem_of_getElem? ho)
  intro e
  rw [e] at this
  cases this

theorem quiet_round {F : Fence} {n : Nat} {P : Program} {id : Nat} {Q : Exit → Act → World → Prop} {a : Act} {w : World} {l : List Oper} (lp : Nat) (hro : F.round = none) (hm : P.follows .mixedOrders = true) (hB : Region.lexB .any l.toArray = true) (hd : noDeferB l.toArray = true)
    (h : wpQuietIn F n P l.toArray (fun w' => ∃ n, w' = w.drewN n) (fun a' => ∀ w', (∃ n, w' = w.drewN n) → Q .normal a' w') l a) : (Code.region id l.toArray true).wpIn (F.inRound lp) n P Q a w := by
  simp only [Region.lexB, Bool.and_eq_true] at hB
  refine wpIn_region_any hm (wpAnyIn_round lp hro (noDefer_of hd) _ _ _ _ (wpAnyIn_of_quiet (C := fun w' => ∃ n, w' = w.drewN n) (Q := fun a' => ∀ w', (∃ n, w' = w.drewN n) → Q .normal a' w') hro (fun _ w' hw' h => h w' hw') _ _ _ _ ⟨1, rfl⟩ ?_))
  have := wpAnyQIn_lex (F := F) (n := n) (C := fun w' => ∃ n, w' = w.drewN n) (md := .any) hB.1 l.toArray.toList 0 (Array.replicate l.toArray.size false) a (by simp) (by simpa using hB.2) (by simpa using h)
  simpa using this

/-! From a region outside of any fence. -/
theorem uponIn_of_upon {n : Nat} {P : Program} {o : Oper} {a : Act} {K K' : Act → World → Prop} {Q : Exit → Act → World → Prop} (l : Nat) (hK : ∀ a w, K a w → K' a w) {r : Result Next} (h : o.upon P a K Q r) : o.uponIn (Fence.wide.inRound l) n P a K' Q r := by
  cases r with
  | ok x w' =>
    cases x with
    | value v => exact hK _ _ h
    | skip => exact hK _ _ h
    | defer d => exact hK _ _ h
    | enter f args =>
      refine ⟨fun hd => by simp [Fence.wide] at hd, CallsIn.inRound l (callsIn_wide.2 (Calls.mono h ?_))⟩
      intro e w'' he
      cases e with
      | returned v => exact hK _ _ he
      | panicked c => exact he
      | outgrown => exact he
    | row r args =>
      refine ⟨fun hd => by simp [Fence.wide] at hd, fun c cs _ => ?_⟩
      obtain ⟨v, w'', hr, hs⟩ := h c cs
      exact ⟨v, w'', hK _ _ hr, stepsIn_wide.2 hs⟩
    | _ => exact h.elim
  | halt x w' =>
    cases x with
    | panic v => exact h
    | _ => exact h.elim
theorem wpOpIn_of_wpOp {n : Nat} {P : Program} {ops : Array Oper} {i : Nat} {a : Act} {w : World} {K K' : Act → World → Prop} {Q : Exit → Act → World → Prop} (l : Nat) (hno : ¬ LetsOut Q)
    (hd : ∀ (j : Nat) (o : Oper), ops[j]? = some o → ∀ c, o.op ≠ .defer c) (hK : ∀ a w, K a w → K' a w) (h : wpOp P ops Q i K a w) : wpOpIn (Fence.wide.inRound l) n P ops Q i K' a w := by
  unfold wpOp at h
  unfold wpOpIn
  split
  · rename_i ho; simp only [ho] at h; exact hK _ _ h
  · rename_i o ho
    simp only [ho] at h
    split
    · rename_i hw
      simp only [hw, if_true] at h
      rcases h with h | h
      · refine ⟨fun _ _ => trivial, ?_⟩
        have e2 : o.semAt (Fence.wide.inRound l).round a.eval = execOp a.eval o := Oper.semAt_some l a.eval o (hd i o ho)
        rw [e2]
        exact uponIn_of_upon l hK h
      · exact absurd h.2 hno
    · rename_i hw; simp only [hw] at h; exact ⟨fun _ _ => trivial, hK _ _ h⟩
theorem wpAnyIn_of_wpAny {n : Nat} {P : Program} {md : Region.Mode} {ops : Array Oper} {Q : Exit → Act → World → Prop} (l : Nat) (hno : ¬ LetsOut Q)
    (hd : ∀ (j : Nat) (o : Oper), ops[j]? = some o → ∀ c, o.op ≠ .defer c) : ∀ (fuel : Nat) (listed : Array Bool) (a : Act) (w : World), wpAny P md ops Q fuel listed a w → wpAnyIn (Fence.wide.inRound l) n P md ops Q fuel listed a w
  | 0, _, _, _, h => h
  | fuel + 1, _, _, _, h => ⟨h.1, fun i hi => wpOpIn_of_wpOp l hno hd (fun a w => wpAnyIn_of_wpAny l hno hd fuel _ a w) (h.2 i hi)⟩

/-- Reads, then one operation more: in a round. -/
theorem still_round {n : Nat} {P : Program} {id : Nat} {Q : Exit → Act → World → Prop} {a : Act} {w : World} {l : List Oper} (lp : Nat) (k : Nat) (hno : ¬ LetsOut Q) (hm : P.follows .mixedOrders = true) (hB : Region.lexTailB .any l.toArray k = true) (hd : noDeferB l.toArray = true)
    (h : wpStill P l.toArray w.drew (fun a' => wpList P l.toArray Q (l.drop k) a' w.drew) (l.take k) a) : (Code.region id l.toArray true).wpIn (Fence.wide.inRound lp) n P Q a w := by
  simp only [Region.lexTailB, Bool.and_eq_true, decide_eq_true_eq] at hB
  obtain ⟨⟨⟨⟨hsel, hn⟩, hs⟩, hc⟩, hlex⟩ := hB
  have hn' : k < l.length := by simpa using hn
  have htl : (l.take k).length = k := by simp; omega
  have hdl : (l.drop k).length = l.toArray.size - k := by simp
  have inv0 : HeadInv .any l.toArray k (Array.replicate l.toArray.size false) :=
    ⟨by simp, fun j oj _ hl => (by rw [getD_replicate_false] at hl; cases hl), fun t _ ht => getD_in (by simpa using ht) (getD_replicate_false _ _)⟩
  have H := wpAnyL_lex (md := .any) (g := l.toArray.size - k) hsel hs hc hn (l.take k) 0 _ a (fun j hj => by
    have hj' : j < k := by rw [htl] at hj; exact hj
    simp [hj']) (by simpa using htl) inv0 (by rw [htl]; exact hlex) h
  refine wpIn_region_any hm (wpAnyIn_of_wpAny lp hno (noDefer_of hd) _ _ _ _ ?_)
  have := wpAny_of_head (Q' := Q) (g := l.toArray.size - k) (fun listed a' hL => by
    have := wpAny_of_seq (md := .any) (Q' := Q) (l.drop k) k listed a' { w with drawn := w.drawn + 1 } (fun j => by simp [List.getElem?_drop]) (by rw [hdl]; exact hL.1) hL.2
    rwa [hdl] at this) _ _ _ H
  rw [htl, show k + (l.toArray.size - k) = l.toArray.size by omega] at this
  exact this

/-- Reads, then one operation more: outside of a round, the draw folded. -/
theorem still_tail {P : Program} {id : Nat} {Q : Exit → Act → World → Prop} {a : Act} {w : World} {l : List Oper} (k : Nat) (hm : P.follows .mixedOrders = true) (hB : Region.lexTailB .any l.toArray k = true)
    (h : wpStill P l.toArray w.drew (fun a' => wpList P l.toArray Q (l.drop k) a' w.drew) (l.take k) a) : (Code.region id l.toArray true).wp P Q a w := wp_region_still_tail k hm hB h
end Go.Proofs.YtfpljpdjohmbaaaGreat.Round
/-! deps.states, and what the closures read of it. -/
namespace Go.Proofs.YtfpljpdjohmbaaaGreat.DepsStates
open Go.Maps Go.RowKit Mem PosMath PartMath TurnMath JobMath JobMem
set_option linter.unusedVariables false
set_option linter.unusedSimpArgs false

theorem law : Keyed Tryz.prog 3 := int_keyed Tryz.underlying3
theorem zeroU (w : World) : (zeroValue 5).run Tryz.prog w = .ok (.int .u8 0) w := by kernel_rfl
/-- A map of states in memory: f says each number's; a number that it has not has 0. -/
def StAt (w : World) (b : Nat) (f : Int → Int) (n : Nat) : Prop := ∃ D : DataW Unit, w.ownsMap Tryz.prog 3 (plainElem Tryz.prog 5) b n D ∧ IsMap D ∧ ∀ k : Int, D.atKey (.int .i64 k) (.lit (.int .u8 0)) = .lit (.int .u8 (f k))
theorem StAt.new (w : World) : StAt (w.alloc (.map #[] 0)) w.heap.size (fun _ => 0) 0 := ⟨.map [], World.ownsMap_made _ _ _ _, isMap_empty, fun k => rfl⟩
theorem StAt.up {w w' : World} {b n : Nat} {f : Int → Int} (h : StAt w b f n) (hB : Below w.heap.size w w') : StAt w' b f n := by
  obtain ⟨D, ⟨es, clock, hb, h2⟩, h3⟩ := h
  exact ⟨D, ⟨es, clock, (hB.block b (Array.getElem?_eq_some_iff.1 hb).1).trans hb, h2⟩, h3⟩
theorem StAt.lt {w : World} {b n : Nat} {f : Int → Int} (h : StAt w b f n) : b < w.heap.size := by
  obtain ⟨D, h1, _⟩ := h
  exact h1.lt
theorem StAt.far {w : World} {b n : Nat} {f : Int → Int} (h : StAt w b f n) {p : Addr} (hp : b ≠ p.block) (u : Value) : StAt (w.setCell p u) b f n := by
  obtain ⟨D, ⟨es, clock, hb, h2⟩, h3⟩ := h
  exact ⟨D, ⟨es, clock, (Below.heap_setCell w p u b hp).trans hb, h2⟩, h3⟩
def stUpd (f : Int → Int) (k v : Int) : Int → Int := fun n => if n = k then v else f n
theorem StAt.put {w w' : World} {b n : Nat} {f : Int → Int} {D : DataW Unit} {k v : Int} (hD : IsMap D) (hat : ∀ k : Int, D.atKey (.int .i64 k) (.lit (.int .u8 0)) = .lit (.int .u8 (f k)))
    (hown : w'.ownsMap Tryz.prog 3 (plainElem Tryz.prog 5) b (n + 1) (D.put (.int .i64 k) (.lit (.int .u8 v)))) : StAt w' b (stUpd f k v) (n + 1) := by
  refine ⟨_, hown, ?_, fun m => ?_⟩
  · obtain ⟨es, rfl⟩ := hD
    exact ⟨_, rfl⟩
  · unfold stUpd
    by_cases h : m = k
    · subst h
      rw [if_pos rfl]
      exact atKey_put_same (k := .int .i64 m) hD (show WideAt.IsKeyLit (.int .i64 m) from trivial) _ _
    · rw [if_neg h, atKey_put_other (by simpa using h)]
      exact hat m
/-- The states of a table's jobs. -/
def stOf (l : List JV) : Int → Int := l.foldl (fun f j => stUpd f j.id j.st) (fun _ => 0)
theorem stOf_snoc (l : List JV) (x : JV) : stOf (l ++ [x]) = stUpd (stOf l) x.id x.st := by
  unfold stOf
  rw [List.foldl_append]
  rfl
end Go.Proofs.YtfpljpdjohmbaaaGreat.DepsStates
/-! deps.Settle: a table settled. -/
namespace Go.Proofs.YtfpljpdjohmbaaaGreat.DepsSettle
open Go.Maps Go.RowKit Mem PosMath PartMath TurnMath TurnMap JobMath JobIndex JobMem JobTable JobTwin DepsStates Lay Round
set_option linter.unusedVariables false
set_option linter.unusedSimpArgs false

/-- A job is cancelled. -/
def cancel (j : JV) : JV := { j with st := 5, he := false }
def ill (f : Int → Int) (j : JV) : Bool := decide (j.st = 1) && j.af.any (fun v => decide (3 < f v))
/-- k jobs gone through: the table, and the states. -/
def stepS (l : List JV) : Nat → List JV × (Int → Int)
  | 0 => (l, stOf l)
  | k + 1 => if ill (stepS l k).2 ((stepS l k).1.getD k default) = true then ((stepS l k).1.set k (cancel ((stepS l k).1.getD k default)), stUpd (stepS l k).2 ((stepS l k).1.getD k default).id 5) else stepS l k
def settleV (l : List JV) : List JV := (stepS l l.length).1
theorem stepS_len (l : List JV) : ∀ k, (stepS l k).1.length = l.length
  | 0 => rfl
  | k + 1 => by
    unfold stepS
    split
    · simp [stepS_len l k]
    · exact stepS_len l k
/-- What is ahead stands as it did. -/
theorem stepS_at (l : List JV) : ∀ k i, k ≤ i → (stepS l k).1[i]? = l[i]?
  | 0, i, _ => rfl
  | k + 1, i, h => by
    unfold stepS
    split
    · simp only
      rw [List.getElem?_set_ne (by omega)]
      exact stepS_at l k i (by omega)
    · exact stepS_at l k i (by omega)
theorem stepS_yes {l : List JV} {k : Nat} {x : JV} (hx : l[k]? = some x) (h : ill (stepS l k).2 x = true) : stepS l (k + 1) = ((stepS l k).1.set k (cancel x), stUpd (stepS l k).2 x.id 5) := by
  have e : (stepS l k).1.getD k default = x := by
    rw [List.getD_eq_getElem?_getD, stepS_at l k k (Nat.le_refl _), hx]
    rfl
  show (if ill (stepS l k).2 ((stepS l k).1.getD k default) = true then _ else _) = _
  rw [e, if_pos h]
theorem stepS_no {l : List JV} {k : Nat} {x : JV} (hx : l[k]? = some x) (h : ill (stepS l k).2 x = false) : stepS l (k + 1) = stepS l k := by
  have e : (stepS l k).1.getD k default = x := by
    rw [List.getD_eq_getElem?_getD, stepS_at l k k (Nat.le_refl _), hx]
    rfl
  show (if ill (stepS l k).2 ((stepS l k).1.getD k default) = true then _ else _) = _
  rw [e, if_neg (by simp [h])]
theorem job_cancel {w : World} {b o : Nat} {j : JV} {Y : Option Addr} {c : Nat} (h : JobAt w b o j Y c) : JobAt ((w.setCell ⟨b, o + 14, none⟩ (.int .u8 5)).setCell ⟨b, o + 12, none⟩ (.bool false)) b o (cancel j) Y c := by
  obtain ⟨x0, x1, x2, x3, x4, x5, x6, x7, x8, x9, x10, x11, x12, x13, x14, x15⟩ := h
  exact ⟨cell_set_far (cell_set_far x0 (by simp)) (by simp), cell_set_far (cell_set_far x1 (by simp)) (by simp), cell_set_far (cell_set_far x2 (by simp)) (by simp), cell_set_far (cell_set_far x3 (by simp)) (by simp), cell_set_far (cell_set_far x4 (by simp)) (by simp), cell_set_far (cell_set_far x5 (by simp)) (by simp), cell_set_far (cell_set_far x6 (by simp)) (by simp), cell_set_far (cell_set_far x7 (by simp)) (by simp), cell_set_far (cell_set_far x8 (by simp)) (by simp), cell_set_far (cell_set_far x9 (by simp)) (by simp), cell_set_far (cell_set_far x10 (by simp)) (by simp), cell_set_far (cell_set_far x11 (by simp)) (by simp), World.cell?_setCell_same _ _ _ (cell_set_far x12 (by simp)), cell_set_far (cell_set_far x13 (by simp)) (by simp), cell_set_far (World.cell?_setCell_same _ _ _ x14) (by simp), cell_set_far (cell_set_far x15 (by simp)) (by simp)⟩
theorem JobsOwn.cancel {w : World} {B g k : Nat} {l : List JV} {x : JV} (h : JobsOwn w B (some ⟨g, 0, none⟩) l) (hk : l[k]? = some x) :
    JobsOwn ((w.setCell ⟨g, k * 16 + 14, none⟩ (.int .u8 5)).setCell ⟨g, k * 16 + 12, none⟩ (.bool false)) B (some ⟨g, 0, none⟩) (l.set k (cancel x)) := fun i j hi => by
  have hkl := (List.getElem?_eq_some_iff.1 hk).1
  have hil : i < l.length := by have := (List.getElem?_eq_some_iff.1 hi).1; simpa using this
  have hset : ∀ {q : JV} {Y c}, JobAt w g (i * 16) q Y c → i ≠ k → JobAt ((w.setCell ⟨g, k * 16 + 14, none⟩ (.int .u8 5)).setCell ⟨g, k * 16 + 12, none⟩ (.bool false)) g (i * 16) q Y c := fun hq hne =>
    JobAt.far (JobAt.far hq _ _ (fun t ht => by simp <;> omega)) _ _ (fun t ht => by simp <;> omega)
  by_cases hik : i = k
  · subst hik
    rw [List.getElem?_set_self hkl] at hi
    cases hi
    obtain ⟨g', Y, c, e, h1, hg, hx, f, a, _⟩ := h i x hk
    have e' : g' = g := by simp at e; exact e.symm
    subst e'
    exact ⟨g', Y, c, rfl, h1, by rw [World.size_setCell, World.size_setCell]; exact hg, job_cancel hx, (f.set_ _ _).set_ _ _, fun _ => ((a hkl).set_ _ _).set_ _ _, fun h => by simp at h; omega⟩
  · rw [List.getElem?_set_ne (fun e => hik e.symm)] at hi
    obtain ⟨g', Y, c, e, h1, hg, hx, f, a, _⟩ := h i j hi
    have e' : g' = g := by simp at e; exact e.symm
    subst e'
    exact ⟨g', Y, c, rfl, h1, by rw [World.size_setCell, World.size_setCell]; exact hg, hset hx hik, (f.set_ _ _).set_ _ _, fun _ => ((a hil).set_ _ _).set_ _ _, fun h => by simp at h; omega⟩
/-- What lies in cells lies in no map. -/
theorem cell_grown_map {w w' : World} {k : TypeId} {P : Program} {R : Value → Option (DataW Unit × List MemPlace)} {bm n : Nat} {D : DataW Unit} (hm : w.ownsMap P k R bm n D) (hg : w.grownBy w' (some bm)) {a : Addr} {v : Value} (h : w.cell? a = some v) : w'.cell? a = some v ∧ w'.frozen? a = w.frozen? a := by
  obtain ⟨es, clock, he, _⟩ := hm
  have hne : a.block ≠ bm := by
    intro e
    have h2 : w.cell? a = none := by unfold World.cell?; rw [e, he]
    rw [h2] at h
    cases h
  have hb := hg.block a.block (cell_lt h) (by simpa using hne)
  exact ⟨(World.cell?_of_block (w := w) hb).trans h, World.frozen?_of_block (w := w) hb⟩
theorem JobAt.lift {w w' : World} (hc : ∀ a v, w.cell? a = some v → w'.cell? a = some v) {b o : Nat} {j : JV} {Y : Option Addr} {c : Nat} (h : JobAt w b o j Y c) : JobAt w' b o j Y c := by
  obtain ⟨x0, x1, x2, x3, x4, x5, x6, x7, x8, x9, x10, x11, x12, x13, x14, x15⟩ := h
  exact ⟨hc _ _ x0, hc _ _ x1, hc _ _ x2, hc _ _ x3, hc _ _ x4, hc _ _ x5, hc _ _ x6, hc _ _ x7, hc _ _ x8, hc _ _ x9, hc _ _ x10, hc _ _ x11, hc _ _ x12, hc _ _ x13, hc _ _ x14, hc _ _ x15⟩
theorem JobsOwn.grown_map {w w' : World} {k : TypeId} {P : Program} {R : Value → Option (DataW Unit × List MemPlace)} {bm n : Nat} {D : DataW Unit} (hm : w.drew.ownsMap P k R bm n D) (hg : w.drew.grownBy w' (some bm)) {B : Nat} {X : Option Addr} {l : List JV} (h : JobsOwn w B X l) : JobsOwn w' B X l := fun i j hi => by
  obtain ⟨g, Y, c, e, h1, hgs, hx, f, a, _⟩ := h i j hi
  have hil := (List.getElem?_eq_some_iff.1 hi).1
  have hsz : w.heap.size ≤ w'.heap.size := hg.size
  refine ⟨g, Y, c, e, h1, Nat.lt_of_lt_of_le hgs hsz, JobAt.lift (fun a v h => (cell_grown_map hm hg (w := w.drew) h).1) hx, fun t ht => ?_, fun hik q z hq => ?_, fun h => by omega⟩
  · obtain ⟨u, hu, _⟩ := job_cell hx t ht
    rw [(cell_grown_map hm hg (w := w.drew) hu).2]
    exact f t ht
  · obtain ⟨b, o, e2, a1, a2, a3, a4, a5⟩ := a hil q z hq
    refine ⟨b, o, e2, a1, a2, Nat.lt_of_lt_of_le a3 hsz, (cell_grown_map hm hg (w := w.drew) a4).1, ?_⟩
    rw [(cell_grown_map hm hg (w := w.drew) a4).2]
    exact a5
end Go.Proofs.YtfpljpdjohmbaaaGreat.DepsSettle
/-! What is settled may be, and is settled: plain. -/
namespace Go.Proofs.YtfpljpdjohmbaaaGreat.DepsMath
open Go.RowKit Mem PosMath PartMath TurnMath TurnFitsV JobMath JobCheck DepsStates DepsSettle
set_option linter.unusedVariables false

/-- Ids rise strictly. -/
def Up (l : List JV) : Prop := l.Pairwise fun x y => x.id < y.id
theorem up_of {l : List JV} (h : risesK l l.length = true) : Up l := by
  have h' := risesK_iff.1 h
  unfold Up
  rw [List.pairwise_iff_getElem]
  intro i j hi hj hij
  have key : ∀ d, ∀ (hd : i + (d + 1) < l.length), (l[i]'hi).id < (l[i + (d + 1)]'hd).id := by
    intro d
    induction d with
    | zero =>
      intro hd
      have := h' i (by omega)
      simpa [List.getD_eq_getElem?_getD, List.getElem?_eq_getElem hi, List.getElem?_eq_getElem hd] using this
    | succ d ih =>
      intro hd
      have h1 := ih (by omega)
      have h2 := h' (i + (d + 1)) (by omega)
      have hd' : i + (d + 1) < l.length := by omega
      have hd2 : i + (d + 1) + 1 < l.length := by omega
      have h3 : (l[i + (d + 1)]'hd').id < (l[i + (d + 1) + 1]'hd2).id := by
        simpa [List.getD_eq_getElem?_getD, List.getElem?_eq_getElem hd', List.getElem?_eq_getElem hd2] using h2
      exact Int.lt_trans h1 h3
  obtain ⟨d, rfl⟩ : ∃ d, j = i + (d + 1) := ⟨j - i - 1, by omega⟩
  exact key d hj
theorem of_up {l : List JV} (h : Up l) : risesK l l.length = true := by
  refine risesK_iff.2 fun i hi => ?_
  have h1 := List.pairwise_iff_getElem.1 h i (i + 1) (by omega) hi (by omega)
  simpa [List.getD_eq_getElem?_getD, List.getElem?_eq_getElem hi, List.getElem?_eq_getElem (show i < l.length by omega)] using h1
theorem Up.lt {l : List JV} (h : Up l) {i j : Nat} {x y : JV} (hx : l[i]? = some x) (hy : l[j]? = some y) (hl : x.id < y.id) : i < j := by
  obtain ⟨hi, rfl⟩ := List.getElem?_eq_some_iff.1 hx
  obtain ⟨hj, rfl⟩ := List.getElem?_eq_some_iff.1 hy
  rcases Nat.lt_trichotomy i j with h1 | h1 | h1
  · exact h1
  · subst h1; omega
  · have := List.pairwise_iff_getElem.1 h j i hj hi h1
    omega
/-- A state is its job's. -/
theorem stOf_none : ∀ {l : List JV} {f : Int → Int} {n : Int}, (∀ j ∈ l, j.id ≠ n) → l.foldl (fun f j => stUpd f j.id j.st) f n = f n
  | [], _, _, _ => rfl
  | x :: t, f, n, h => by
    rw [List.foldl_cons, stOf_none fun j hj => h j (List.mem_cons_of_mem _ hj)]
    unfold stUpd
    rw [if_neg fun e => h x (List.mem_cons_self ..) e.symm]
theorem stOf_fold : ∀ {l : List JV} {f : Int → Int} {x : JV}, Up l → x ∈ l → l.foldl (fun f j => stUpd f j.id j.st) f x.id = x.st
  | [], _, _, _, h => by cases h
  | y :: t, f, x, hu, hx => by
    have hu' := List.pairwise_cons.1 hu
    rw [List.foldl_cons]
    rcases List.mem_cons.1 hx with rfl | hx
    · rw [stOf_none fun j hj => by have := hu'.1 j hj; omega]
      unfold stUpd
      rw [if_pos rfl]
    · exact stOf_fold hu'.2 hx
theorem stOf_mem {l : List JV} {x : JV} (hu : Up l) (hx : x ∈ l) : stOf l x.id = x.st := stOf_fold hu hx
theorem stOf_not {l : List JV} {n : Int} (h : ∀ j ∈ l, j.id ≠ n) : stOf l n = 0 := stOf_none h
/-- What settling leaves of each job. -/
theorem stepS_past {l : List JV} {k : Nat} (hk : l.length ≤ k) : stepS l (k + 1) = stepS l k := by
  have hd : (stepS l k).1.getD k default = default := by
    rw [List.getD_eq_getElem?_getD, List.getElem?_eq_none (by rw [stepS_len]; omega)]; rfl
  show (if ill (stepS l k).2 ((stepS l k).1.getD k default) = true then _ else _) = _
  rw [hd]
  exact if_neg (by unfold ill; simp [default, instInhabitedJV.default])
theorem stepS_each (l : List JV) : ∀ (k i : Nat) (x : JV), l[i]? = some x → (stepS l k).1[i]? = some x ∨ (x.st = 1 ∧ (stepS l k).1[i]? = some (cancel x))
  | 0, i, x, h => .inl h
  | k + 1, i, x, h => by
    have ih := stepS_each l k i x h
    by_cases hk : k < l.length
    · have hg : l[k]? = some l[k] := List.getElem?_eq_getElem hk
      generalize l[k] = y at hg
      have hil := (List.getElem?_eq_some_iff.1 h).1
      cases hi : ill (stepS l k).2 y
      · rw [stepS_no hg hi]; exact ih
      · rw [stepS_yes hg hi]
        by_cases e : i = k
        · subst e
          rw [hg] at h
          cases h
          refine .inr ⟨?_, ?_⟩
          · unfold ill at hi
            simp at hi
            exact hi.1
          · simp only
            rw [List.getElem?_set_self (by rw [stepS_len]; exact hil)]
        · simp only
          rw [List.getElem?_set_ne (fun h => e h.symm)]
          exact ih
    · have e : stepS l (k + 1) = stepS l k := stepS_past (by omega)
      rw [e]; exact ih
theorem stepS_ids (l : List JV) (k : Nat) : (stepS l k).1.map (fun j => j.id) = l.map (fun j => j.id) := by
  refine List.ext_getElem? fun i => ?_
  rw [List.getElem?_map, List.getElem?_map]
  cases h : l[i]? with
  | none => rw [List.getElem?_eq_none (by rw [stepS_len]; exact List.getElem?_eq_none_iff.1 h)]
  | some x =>
    rcases stepS_each l k i x h with e | ⟨_, e⟩ <;> rw [e] <;> rfl
theorem up_ids {l m : List JV} (h : l.map (fun j => j.id) = m.map (fun j => j.id)) (hu : Up m) : Up l := by
  have h1 : (m.map (fun j => j.id)).Pairwise (· < ·) := List.pairwise_map.2 hu
  rw [← h] at h1
  exact List.pairwise_map.1 h1
theorem has_ids {l m : List JV} (h : l.map (fun j => j.id) = m.map (fun j => j.id)) (n : Int) : hasB l n = hasB m n := by
  have e : ∀ l : List JV, hasB l n = (l.map (fun j => j.id)).any (fun k => decide (k = n)) := fun l => by unfold hasB; rw [List.any_map]; rfl
  rw [e, e, h]
theorem stOf_eq {l m : List JV} (hl : Up l) (hm : Up m) {n : Int} (h : ∀ j : JV, j.id = n → (j ∈ l ↔ j ∈ m)) : stOf l n = stOf m n := by
  by_cases hx : ∃ j ∈ l, j.id = n
  · obtain ⟨j, hj, rfl⟩ := hx
    rw [stOf_mem hl hj, stOf_mem hm ((h j rfl).1 hj)]
  · rw [stOf_not (fun j hj e => hx ⟨j, hj, e⟩), stOf_not (fun j hj e => hx ⟨j, (h j e).2 hj, e⟩)]
theorem stepS_up {l : List JV} (hu : Up l) (k : Nat) : Up (stepS l k).1 := up_ids (stepS_ids l k) hu
theorem stepS_cur {l : List JV} {k : Nat} {x : JV} (h : l[k]? = some x) : (stepS l k).1[k]? = some x := (stepS_at l k k (Nat.le_refl _)).trans h
theorem stepS_states {l : List JV} (hu : Up l) : ∀ (k : Nat) (n : Int), (stepS l k).2 n = stOf (stepS l k).1 n
  | 0, n => rfl
  | k + 1, n => by
    have ih := stepS_states hu k
    by_cases hk : k < l.length
    · have hg : l[k]? = some l[k] := List.getElem?_eq_getElem hk
      generalize l[k] = x at hg
      cases hi : ill (stepS l k).2 x
      · rw [stepS_no hg hi]; exact ih n
      · have hcur := stepS_cur hg
        have hup := stepS_up hu (k + 1)
        have hup0 := stepS_up hu k
        rw [stepS_yes hg hi] at hup ⊢
        simp only at hup ⊢
        have hkl : k < (stepS l k).1.length := by rw [stepS_len]; exact hk
        unfold stUpd
        by_cases hn : n = x.id
        · rw [if_pos hn, hn]
          have hm : cancel x ∈ (stepS l k).1.set k (cancel x) := List.mem_of_getElem? (i := k) (by rw [List.getElem?_set_self hkl])
          have := stOf_mem hup hm
          exact this.symm
        · rw [if_neg hn, ih n]
          refine stOf_eq hup0 hup fun j hj => ?_
          constructor
          · intro hm
            obtain ⟨i, hi'⟩ := List.mem_iff_getElem?.1 hm
            have hik : k ≠ i := fun e => by
              subst e
              rw [hcur] at hi'
              cases hi'
              exact hn hj.symm
            exact List.mem_of_getElem? (i := i) (by rw [List.getElem?_set_ne hik]; exact hi')
          · intro hm
            obtain ⟨i, hi'⟩ := List.mem_iff_getElem?.1 hm
            have hik : k ≠ i := fun e => by
              subst e
              rw [List.getElem?_set_self hkl] at hi'
              cases hi'
              exact hn hj.symm
            rw [List.getElem?_set_ne hik] at hi'
            exact List.mem_of_getElem? hi'
    · rw [stepS_past (by omega)]; exact ih n
/-- What has been gone through stays. -/
theorem stepS_keep {l : List JV} {i : Nat} : ∀ {k k' : Nat}, k ≤ k' → i < k → (stepS l k').1[i]? = (stepS l k).1[i]? := by
  intro k k' h hi
  obtain ⟨d, rfl⟩ : ∃ d, k' = k + d := ⟨k' - k, by omega⟩
  induction d with
  | zero => rfl
  | succ d ih =>
    rw [← ih (by omega)]
    by_cases hk : k + d < l.length
    · have hg : l[k + d]? = some l[k + d] := List.getElem?_eq_getElem hk
      generalize l[k + d] = x at hg
      cases hil : ill (stepS l (k + d)).2 x
      · rw [show k + (d + 1) = k + d + 1 from rfl, stepS_no hg hil]
      · rw [show k + (d + 1) = k + d + 1 from rfl, stepS_yes hg hil]
        simp only
        rw [List.getElem?_set_ne (by omega)]
    · rw [show k + (d + 1) = k + d + 1 from rfl, stepS_past (by omega)]
/-- Each waits for jobs ahead of it in the table alone. -/
def Clos (l : List JV) : Prop := ∀ (i : Nat) (x : JV), l[i]? = some x → ∀ v ∈ x.af, ∃ (i' : Nat) (y : JV), i' < i ∧ l[i']? = some y ∧ y.id = v
/-- Settled: none that waits has one that ended otherwise than well. -/
def Calm (l : List JV) : Prop := ∀ j ∈ l, j.st = 1 → ∀ v ∈ j.af, stOf l v ≤ 3
theorem calm_steps {l : List JV} (h : Calm l) : ∀ k, stepS l k = (l, stOf l)
  | 0 => rfl
  | k + 1 => by
    by_cases hk : k < l.length
    · have hg : l[k]? = some l[k] := List.getElem?_eq_getElem hk
      have hmem := List.getElem_mem hk
      generalize l[k] = x at hg hmem
      have hi : ill (stepS l k).2 x = false := by
        rw [calm_steps h k]
        unfold ill
        by_cases h1 : x.st = 1
        · rw [decide_eq_true h1, Bool.true_and, List.any_eq_false]
          intro v hv
          have := h x hmem h1 v hv
          simp
          omega
        · rw [decide_eq_false h1]; rfl
      rw [stepS_no hg hi]; exact calm_steps h k
    · rw [stepS_past (by omega)]; exact calm_steps h k
theorem calm_settled {l : List JV} (h : Calm l) : settleV l = l := by unfold settleV; rw [calm_steps h]
theorem settled_calm {l : List JV} (hu : Up l) (hc : Clos l) : Calm (settleV l) := by
  intro j hj hs v hv
  obtain ⟨i, hi⟩ := List.mem_iff_getElem?.1 hj
  unfold settleV at hi
  have hil : i < l.length := by have := (List.getElem?_eq_some_iff.1 hi).1; rwa [stepS_len] at this
  have hg : l[i]? = some l[i] := List.getElem?_eq_getElem hil
  generalize l[i] = x at hg
  have hjx : j = x := by
    rcases stepS_each l l.length i x hg with e | ⟨_, e⟩
    · rw [e] at hi; exact (Option.some.inj hi).symm
    · rw [e] at hi
      have := (Option.some.inj hi).symm
      rw [this] at hs
      simp [cancel] at hs
  subst hjx
  have hno : ill (stepS l i).2 j = false := by
    cases h : ill (stepS l i).2 j
    · rfl
    · exfalso
      have h1 : (stepS l (i + 1)).1[i]? = some (cancel j) := by
        rw [stepS_yes hg h]
        simp only
        rw [List.getElem?_set_self (by rw [stepS_len]; exact hil)]
      have h2 := stepS_keep (l := l) (i := i) (k := i + 1) (k' := l.length) (by omega) (by omega)
      rw [h1, hi] at h2
      have := Option.some.inj h2
      rw [this] at hs
      simp [cancel] at hs
  obtain ⟨i', y, hii, hy, rfl⟩ := hc i j hg v hv
  have hle : (stepS l i).2 y.id ≤ 3 := by
    unfold ill at hno
    rw [decide_eq_true hs, Bool.true_and, List.any_eq_false] at hno
    have := hno y.id hv
    simp at this
    omega
  rw [stepS_states hu] at hle
  have hkeep := stepS_keep (l := l) (i := i') (k := i) (k' := l.length) (by omega) hii
  have hy2 : ∃ z, (stepS l i).1[i']? = some z ∧ z.id = y.id := by
    rcases stepS_each l i i' y hy with e | ⟨_, e⟩
    · exact ⟨_, e, rfl⟩
    · exact ⟨_, e, rfl⟩
  obtain ⟨z, hz, hzi⟩ := hy2
  rw [← hzi] at hle ⊢
  rw [stOf_mem (stepS_up hu i) (List.mem_of_getElem? hz)] at hle
  have hz2 : (stepS l l.length).1[i']? = some z := hkeep.trans hz
  unfold settleV
  rw [stOf_mem (stepS_up hu l.length) (List.mem_of_getElem? hz2)]
  exact hle
theorem up_take {l : List JV} (h : Up l) (n : Nat) : Up (l.take n) := h.sublist (List.take_sublist n l)
theorem clos_take {l : List JV} (h : Clos l) (n : Nat) : Clos (l.take n) := fun i x hi v hv => by
  have hil : i < n := by have := (List.getElem?_eq_some_iff.1 hi).1; simp at this; omega
  rw [List.getElem?_take_of_lt hil] at hi
  obtain ⟨i', y, h1, h2, h3⟩ := h i x hi v hv
  exact ⟨i', y, h1, by rw [List.getElem?_take_of_lt (by omega)]; exact h2, h3⟩
theorem calm_take {l : List JV} (hu : Up l) (hc : Clos l) (h : Calm l) (n : Nat) : Calm (l.take n) := fun j hj hs v hv => by
  obtain ⟨i, hi⟩ := List.mem_iff_getElem?.1 hj
  have hil : i < n := by have := (List.getElem?_eq_some_iff.1 hi).1; simp at this; omega
  obtain ⟨i', y, h1, h2, rfl⟩ := clos_take hc n i j hi v hv
  rw [List.getElem?_take_of_lt hil] at hi
  rw [stOf_mem (up_take hu n) (List.mem_of_getElem? h2)]
  rw [List.getElem?_take_of_lt (by omega)] at h2
  have := h j (List.mem_of_getElem? hi) hs y.id hv
  rwa [stOf_mem hu (List.mem_of_getElem? h2)] at this
theorem settled_clos {l : List JV} (hc : Clos l) : Clos (settleV l) := fun i x hi v hv => by
  unfold settleV at hi ⊢
  have hil : i < l.length := by have := (List.getElem?_eq_some_iff.1 hi).1; rwa [stepS_len] at this
  have hg : l[i]? = some l[i] := List.getElem?_eq_getElem hil
  generalize l[i] = q at hg
  have haf : x.af = q.af := by
    rcases stepS_each l l.length i q hg with e | ⟨_, e⟩
    · rw [e] at hi; rw [← Option.some.inj hi]
    · rw [e] at hi; rw [← Option.some.inj hi]; rfl
  rw [haf] at hv
  obtain ⟨i', y, h1, h2, h3⟩ := hc i q hg v hv
  rcases stepS_each l l.length i' y h2 with e | ⟨_, e⟩
  · exact ⟨i', _, h1, e, h3⟩
  · exact ⟨i', _, h1, e, h3⟩
theorem firstBad_zero {f : JV → Int} : ∀ {l : List JV}, firstBad f l = 0 → ∀ j ∈ l, f j = 0
  | [], _, j, hj => by cases hj
  | y :: t, h, j, hj => by
    unfold firstBad at h
    by_cases hy : f y = 0
    · rw [if_neg (by simp [hy])] at h
      rcases List.mem_cons.1 hj with rfl | hj
      · exact hy
      · exact firstBad_zero h j hj
    · rw [if_pos hy] at h; exact absurd h hy
/-- A table that may be. -/
structure TOk (f : JV → Int) (l : List JV) : Prop where
  len : l.length ≤ 24
  each : ∀ j ∈ l, f j = 0
  rise : Up l
  there : ∀ j ∈ l, thereB l j = true
theorem tok_of {f : JV → Int} {l : List JV} (h : tableF f l = 0) : TOk f l := by
  unfold tableF at h
  split at h
  · omega
  · rename_i h0
    split at h
    · rename_i h1; exact absurd h h1
    · rename_i h1
      split at h
      · omega
      · rename_i h2
        split at h
        · omega
        · rename_i h3
          exact ⟨by omega, firstBad_zero (by simpa using h1), up_of (by simpa using h2), by simpa [List.all_eq_true] using h3⟩
theorem of_tok {f : JV → Int} {l : List JV} (h : TOk f l) : tableF f l = 0 :=
  tableF_ok (by have := h.len; omega) (fun i y _ hy => h.each y (List.mem_of_getElem? hy)) (of_up h.rise) (fun i y _ hy => h.there y (List.mem_of_getElem? hy))
theorem tableV_of {d0 d1 d2 bo fr tr ag : Int} {ks : List Cls} {l : List JV} (h : tableV d0 d1 d2 bo fr tr ag ks l = 0) : CfgOk d0 d1 d2 bo fr tr ag ks ∧ TOk (checkV d0 d1 d2 ks) l := by
  unfold tableV at h
  split at h
  · rename_i hc; exact ⟨hc, tok_of h⟩
  · omega
theorem tableV_to {d0 d1 d2 bo fr tr ag : Int} {ks : List Cls} {l : List JV} (hc : CfgOk d0 d1 d2 bo fr tr ag ks) (h : TOk (checkV d0 d1 d2 ks) l) : tableV d0 d1 d2 bo fr tr ag ks l = 0 := by
  unfold tableV
  rw [if_pos hc, of_tok h]
theorem ris_lt {top : Int} : ∀ {l : List Int} {last : Int}, risB top last l = true → ∀ v ∈ l, v < top
  | [], _, _, v, hv => by cases hv
  | y :: t, last, h, v, hv => by
    unfold risB at h
    rw [Bool.and_eq_true, Bool.and_eq_true, decide_eq_true_eq, decide_eq_true_eq] at h
    rcases List.mem_cons.1 hv with rfl | hv
    · exact h.1.2
    · exact ris_lt h.2 v hv
theorem check_zero {d0 d1 d2 : Int} {ks : List Cls} {j : JV} (h : checkV d0 d1 d2 ks j = 0) : plainB ks.length j = true ∧ afterB j = true := by
  unfold checkV at h
  split at h
  · omega
  · rename_i h1
    split at h
    · omega
    · rename_i h2
      exact ⟨by simpa using h1, by simpa using h2⟩
theorem tok_clos {d0 d1 d2 : Int} {ks : List Cls} {l : List JV} (h : TOk (checkV d0 d1 d2 ks) l) : Clos l := by
  intro i x hi v hv
  have hx := List.mem_of_getElem? hi
  have h1 := h.there x hx
  unfold thereB at h1
  rw [List.all_eq_true] at h1
  have h2 := h1 v hv
  unfold hasB at h2
  rw [List.any_eq_true] at h2
  obtain ⟨y, hy, e⟩ := h2
  have e' : y.id = v := by simpa using e
  obtain ⟨i', hi'⟩ := List.mem_iff_getElem?.1 hy
  have ha := (check_zero (h.each x hx)).2
  unfold afterB at ha
  rw [Bool.and_eq_true] at ha
  have hlt := ris_lt ha.2 v hv
  exact ⟨i', y, h.rise.lt hi' hi (by omega), hi', e'⟩
theorem check_cancel {d0 d1 d2 : Int} {ks : List Cls} {j : JV} (h : checkV d0 d1 d2 ks j = 0) : checkV d0 d1 d2 ks (cancel j) = 0 := by
  have hp := (check_zero h).1
  have hp2 : plainB ks.length (cancel j) = true := by
    unfold plainB at hp ⊢
    unfold cancel
    simp only [Bool.and_eq_true] at hp ⊢
    refine ⟨⟨hp.1.1, hp.1.2⟩, ⟨rfl, rfl⟩, rfl⟩
  unfold checkV at h ⊢
  rw [if_neg (by simp [hp])] at h
  rw [if_neg (by simp [hp2])]
  exact h
theorem settled_at {l : List JV} {j : JV} (hj : j ∈ settleV l) : ∃ x ∈ l, j = x ∨ (x.st = 1 ∧ j = cancel x) := by
  obtain ⟨i, hi⟩ := List.mem_iff_getElem?.1 hj
  unfold settleV at hi
  have hil : i < l.length := by have := (List.getElem?_eq_some_iff.1 hi).1; rwa [stepS_len] at this
  have hg : l[i]? = some l[i] := List.getElem?_eq_getElem hil
  have hm := List.getElem_mem hil
  generalize l[i] = x at hg hm
  refine ⟨x, hm, ?_⟩
  rcases stepS_each l l.length i x hg with e | ⟨h1, e⟩
  · rw [e] at hi; exact .inl (Option.some.inj hi).symm
  · rw [e] at hi; exact .inr ⟨h1, (Option.some.inj hi).symm⟩
theorem tok_settled {d0 d1 d2 : Int} {ks : List Cls} {l : List JV} (h : TOk (checkV d0 d1 d2 ks) l) : TOk (checkV d0 d1 d2 ks) (settleV l) := by
  refine ⟨by have := h.len; unfold settleV; rw [stepS_len]; exact this, fun j hj => ?_, stepS_up h.rise _, fun j hj => ?_⟩
  · obtain ⟨x, hx, rfl | ⟨_, rfl⟩⟩ := settled_at hj
    · exact h.each _ hx
    · exact check_cancel (h.each _ hx)
  · obtain ⟨x, hx, e⟩ := settled_at hj
    have haf : j.af = x.af := by rcases e with rfl | ⟨_, rfl⟩ <;> rfl
    have h1 := h.there x hx
    unfold thereB at h1 ⊢
    rw [haf, List.all_eq_true]
    rw [List.all_eq_true] at h1
    intro v hv
    rw [show hasB (settleV l) v = hasB l v from has_ids (stepS_ids l l.length) v]
    exact h1 v hv
theorem tok_take {d0 d1 d2 : Int} {ks : List Cls} {l : List JV} (h : TOk (checkV d0 d1 d2 ks) l) (n : Nat) : TOk (checkV d0 d1 d2 ks) (l.take n) := by
  refine ⟨by have := h.len; simp; omega, fun j hj => h.each j (List.mem_of_mem_take hj), up_take h.rise n, fun j hj => ?_⟩
  obtain ⟨i, hi⟩ := List.mem_iff_getElem?.1 hj
  unfold thereB
  rw [List.all_eq_true]
  intro v hv
  obtain ⟨i', y, _, hy, e⟩ := clos_take (tok_clos h) n i j hi v hv
  unfold hasB
  rw [List.any_eq_true]
  exact ⟨y, List.mem_of_getElem? hy, by simp [e]⟩
theorem stOf_le {l : List JV} (hu : Up l) (h : ∀ j ∈ l, j.st ≤ 3) (v : Int) : stOf l v ≤ 3 := by
  by_cases hx : ∃ j ∈ l, j.id = v
  · obtain ⟨j, hj, rfl⟩ := hx
    rw [stOf_mem hu hj]; exact h j hj
  · rw [stOf_not fun j hj e => hx ⟨j, hj, e⟩]; omega
/-- What DepsIdle says. -/
theorem idle_plain {d0 d1 d2 bo fr tr ag : Int} {ks : List Cls} {l : List JV} (h : tableV d0 d1 d2 bo fr tr ag ks l = 0) :
    (l.any (fun j => decide (3 < j.st)) = false → settleV l = l) ∧ ∀ n, tableV d0 d1 d2 bo fr tr ag ks ((settleV l).take n) = 0 ∧ settleV ((settleV l).take n) = (settleV l).take n := by
  obtain ⟨hc, hT⟩ := tableV_of h
  refine ⟨fun hi => calm_settled fun j hj _ v _ => stOf_le hT.rise (fun j hj => ?_) v, fun n => ⟨tableV_to hc (tok_take (tok_settled hT) n), ?_⟩⟩
  · rw [List.any_eq_false] at hi
    have := hi j hj
    simp at this
    omega
  · have hC := tok_clos hT
    exact calm_settled (calm_take (stepS_up hT.rise _) (settled_clos hC) (settled_calm hT.rise hC) n)
theorem atV_up {l : List JV} (hu : Up l) {i : Nat} {y : JV} (hy : l[i]? = some y) : atV l y.id = i :=
  atV_at hy rfl fun k x hk hx e => by
    have := hu
    obtain ⟨h1, rfl⟩ := List.getElem?_eq_some_iff.1 hx
    obtain ⟨h2, rfl⟩ := List.getElem?_eq_some_iff.1 hy
    have := List.pairwise_iff_getElem.1 hu k i h1 h2 hk
    omega
/-- What DepsSettles says. -/
theorem settles_plain {d0 d1 d2 bo fr tr ag : Int} {ks : List Cls} {l : List JV} (h : tableV d0 d1 d2 bo fr tr ag ks l = 0) :
    tableV d0 d1 d2 bo fr tr ag ks (settleV l) = 0 ∧ settleV (settleV l) = settleV l ∧ ∀ (i : Nat) (p q : JV), l[i]? = some p → (settleV l)[i]? = some q →
      (q = p ∨ (p.st = 1 ∧ q = cancel p)) ∧ (q.st = 1 → ∀ v ∈ q.af, ∃ (i' : Nat) (y : JV), atV (settleV l) v = i' ∧ i' < i ∧ (settleV l)[i']? = some y ∧ y.st ≤ 3) := by
  obtain ⟨hc, hT⟩ := tableV_of h
  have hC := tok_clos hT
  have hU := stepS_up hT.rise l.length
  have hcalm := settled_calm hT.rise hC
  refine ⟨tableV_to hc (tok_settled hT), calm_settled hcalm, fun i p q hp hq => ⟨?_, fun hs v hv => ?_⟩⟩
  · have hq2 : (stepS l l.length).1[i]? = some q := hq
    rcases stepS_each l l.length i p hp with e | ⟨h1, e⟩
    · rw [e] at hq2; exact .inl (Option.some.inj hq2).symm
    · rw [e] at hq2; exact .inr ⟨h1, (Option.some.inj hq2).symm⟩
  · obtain ⟨i', y, h1, h2, rfl⟩ := settled_clos hC i q hq v hv
    refine ⟨i', y, atV_up hU h2, h1, h2, ?_⟩
    have := hcalm q (List.mem_of_getElem? hq) hs y.id hv
    have e : stOf (settleV l) y.id = y.st := stOf_mem hU (List.mem_of_getElem? h2)
    rwa [e] at this
end Go.Proofs.YtfpljpdjohmbaaaGreat.DepsMath
/-! Keys and orders, plain. -/
namespace Go.Proofs.YtfpljpdjohmbaaaGreat.RankMath
open Go.RowKit Mem PosMath PartMath TurnMath TurnFitsV JobMath JobCheck DepsMath
open Go.Sort (SWO)
set_option linter.unusedVariables false
set_option linter.unusedSimpArgs false

def keyV (ks : List Cls) (ag : Int) (j : JV) : Int := ((clsOf ks j.cl).1 + j.pr) * ag - j.ca
def waitsB (j : JV) : Bool := decide (j.st = 1) && !j.he
def pairV (ks : List Cls) (ag : Int) (j : JV) : Int × Int := (-(keyV ks ag j), j.id)

def cmpP (x y : Int × Int) : Int := if cmpI x.1 y.1 ≠ 0 then cmpI x.1 y.1 else cmpI x.2 y.2
def leP (x y : Int × Int) : Bool := !(ltOf cmpP) y x
def ordP (l : List (Int × Int)) : List (Int × Int) := l.mergeSort leP
/-- Those that wait, the pairs that they are ordered by. -/
def pairs (ks : List Cls) (ag : Int) (l : List JV) : List (Int × Int) := (l.filter waitsB).map (pairV ks ag)
def orderV (ks : List Cls) (ag : Int) (l : List JV) : List Int := (ordP (pairs ks ag l)).map (·.2)
theorem lt_iff (x y : Int × Int) : ltOf cmpP x y = true ↔ x.1 < y.1 ∨ (x.1 = y.1 ∧ x.2 < y.2) := by
  unfold ltOf cmpP cmpI
  rw [decide_eq_true_eq]
  repeat' split
  all_goals omega
theorem lt_false (x y : Int × Int) : ltOf cmpP x y = false ↔ ¬ (x.1 < y.1 ∨ (x.1 = y.1 ∧ x.2 < y.2)) := by
  rw [← lt_iff, Bool.not_eq_true]
theorem swo : SWO (ltOf cmpP) := by
  refine ⟨fun x => ?_, fun x y z h1 h2 => ?_, fun x y z h1 h2 => ?_⟩
  · rw [lt_false]; omega
  · rw [lt_iff] at *; omega
  · rw [lt_false] at *; omega
theorem parts (x y : Int × Int) (h1 : ltOf cmpP x y = false) (h2 : ltOf cmpP y x = false) : x = y := by
  rw [lt_false] at *
  exact Prod.ext (by omega) (by omega)
theorem le_iff (x y : Int × Int) : leP x y = true ↔ x.1 < y.1 ∨ (x.1 = y.1 ∧ x.2 ≤ y.2) := by
  unfold leP
  rw [Bool.not_eq_true', lt_false]
  omega
theorem le_anti (x y : Int × Int) (h1 : leP x y = true) (h2 : leP y x = true) : x = y := by
  rw [le_iff] at *
  exact Prod.ext (by omega) (by omega)
theorem ord_perm (l : List (Int × Int)) : (ordP l).Perm l := List.mergeSort_perm l leP
theorem ord_sorted (l : List (Int × Int)) : (ordP l).Pairwise fun x y => leP x y = true :=
  List.pairwise_mergeSort (fun a b c h1 h2 => by rw [le_iff] at *; omega) (fun a b => by
    rw [Bool.or_eq_true, le_iff, le_iff]; omega) l
theorem ord_uniq {l m : List (Int × Int)} (hp : m.Perm l) (hs : m.Pairwise fun x y => leP x y = true) : m = ordP l :=
  List.Perm.eq_of_pairwise (fun a b _ _ h1 h2 => le_anti a b h1 h2) hs (ord_sorted l) (hp.trans (ord_perm l).symm)
theorem order_len (ks : List Cls) (ag : Int) (l : List JV) : (orderV ks ag l).length = (l.filter waitsB).length := by
  unfold orderV
  rw [List.length_map, (ord_perm _).length_eq]
  unfold pairs
  rw [List.length_map]
/-- Who is in the order. -/
theorem order_at {ks : List Cls} {ag : Int} {l : List JV} {i : Nat} {p : Int × Int} (h : (ordP (pairs ks ag l))[i]? = some p) : ∃ (k : Nat) (j : JV), l[k]? = some j ∧ waitsB j = true ∧ p = pairV ks ag j := by
  have h1 := (ord_perm _).mem_iff.1 (List.mem_of_getElem? h)
  unfold pairs at h1
  obtain ⟨j, hj, rfl⟩ := List.mem_map.1 h1
  obtain ⟨hj, hw⟩ := List.mem_filter.1 hj
  obtain ⟨k, hk⟩ := List.mem_iff_getElem?.1 hj
  exact ⟨k, j, hk, hw, rfl⟩
theorem order_get {ks : List Cls} {ag : Int} {l : List JV} {i : Nat} {n : Int} (h : (orderV ks ag l)[i]? = some n) : ∃ p, (ordP (pairs ks ag l))[i]? = some p ∧ p.2 = n := by
  unfold orderV at h
  rw [List.getElem?_map] at h
  cases hp : (ordP (pairs ks ag l))[i]? with
  | none => rw [hp] at h; cases h
  | some p => rw [hp] at h; exact ⟨p, rfl, Option.some.inj h⟩
theorem pairs_nodup {ks : List Cls} {ag : Int} {l : List JV} (hu : Up l) : (ordP (pairs ks ag l)).Pairwise fun x y => x.2 ≠ y.2 := by
  have h1 : (pairs ks ag l).Pairwise fun x y => x.2 ≠ y.2 := by
    unfold pairs
    refine List.pairwise_map.2 ?_
    refine List.Pairwise.imp ?_ (List.Pairwise.filter waitsB hu)
    intro a b hab
    show a.id ≠ b.id
    omega
  exact (ord_perm _).symm.pairwise h1 fun hxy => hxy.symm
/-- Two neighbours. -/
theorem order_next {ks : List Cls} {ag : Int} {l : List JV} (hu : Up l) {i : Nat} {p q : Int × Int} (hp : (ordP (pairs ks ag l))[i]? = some p) (hq : (ordP (pairs ks ag l))[i + 1]? = some q) : p.1 < q.1 ∨ (p.1 = q.1 ∧ p.2 < q.2) := by
  obtain ⟨h1, rfl⟩ := List.getElem?_eq_some_iff.1 hp
  obtain ⟨h2, rfl⟩ := List.getElem?_eq_some_iff.1 hq
  have a := List.pairwise_iff_getElem.1 (ord_sorted (pairs ks ag l)) i (i + 1) h1 h2 (by omega)
  have b := List.pairwise_iff_getElem.1 (pairs_nodup (ks := ks) (ag := ag) hu) i (i + 1) h1 h2 (by omega)
  rw [le_iff] at a
  omega
/-- All came as much later. -/
def shift (by_ : Int) (j : JV) : JV := { j with ca := j.ca + by_ }
theorem order_shift (ks : List Cls) (ag by_ : Int) (l : List JV) : orderV ks ag (l.map (shift by_)) = orderV ks ag l := by
  have e : pairs ks ag (l.map (shift by_)) = (pairs ks ag l).map fun p => (p.1 + by_, p.2) := by
    unfold pairs
    rw [List.filter_map, List.map_map, List.map_map]
    have e1 : (waitsB ∘ shift by_) = waitsB := rfl
    rw [e1]
    refine List.map_congr_left fun j _ => ?_
    show (-(((clsOf ks j.cl).1 + j.pr) * ag - (j.ca + by_)), j.id) = (-(((clsOf ks j.cl).1 + j.pr) * ag - j.ca) + by_, j.id)
    exact Prod.ext (by simp; omega) rfl
  unfold orderV
  rw [e]
  have h2 : ordP ((pairs ks ag l).map fun p => (p.1 + by_, p.2)) = (ordP (pairs ks ag l)).map fun p => (p.1 + by_, p.2) := by
    unfold ordP
    rw [List.map_mergeSort]
    intro a _ b _
    have : leP a b = true ↔ leP (a.1 + by_, a.2) (b.1 + by_, b.2) = true := by rw [le_iff, le_iff]; simp only; omega
    exact Bool.eq_iff_iff.2 this
  rw [h2, List.map_map]
  rfl
/-- One of them ended. -/
def done (j : JV) : JV := { j with st := 3, he := false }
theorem filter_set {l : List JV} {at_ : Nat} {x : JV} (hu : Up l) (hx : l[at_]? = some x) : (l.set at_ (done x)).filter waitsB = (l.filter waitsB).filter fun j => decide (j.id ≠ x.id) := by
  induction l generalizing at_ with
  | nil => simp at hx
  | cons y t ih =>
    have hu' := List.pairwise_cons.1 hu
    cases at_ with
    | zero =>
      simp at hx
      subst hx
      rw [List.set_cons_zero]
      have h1 : waitsB (done y) = false := rfl
      rw [List.filter_cons_of_neg (by simp [h1])]
      have h2 : (t.filter waitsB).filter (fun j => decide (j.id ≠ y.id)) = t.filter waitsB := by
        refine List.filter_eq_self.2 fun j hj => ?_
        have := hu'.1 j (List.mem_filter.1 hj).1
        simp
        omega
      cases hw : waitsB y
      · rw [List.filter_cons_of_neg (by simp [hw]), h2]
      · rw [List.filter_cons_of_pos hw, List.filter_cons_of_neg (by simp), h2]
    | succ n =>
      have hx' : t[n]? = some x := by simpa using hx
      rw [List.set_cons_succ]
      have hne : y.id ≠ x.id := by
        have := hu'.1 x (List.mem_of_getElem? hx')
        omega
      cases hw : waitsB y
      · rw [List.filter_cons_of_neg (by simp [hw]), List.filter_cons_of_neg (by simp [hw]), ih hu'.2 hx']
      · rw [List.filter_cons_of_pos hw, List.filter_cons_of_pos hw, List.filter_cons_of_pos (by simp [hne]), ih hu'.2 hx']
theorem order_done {ks : List Cls} {ag : Int} {l : List JV} {at_ : Nat} {x : JV} (hu : Up l) (hx : l[at_]? = some x) : orderV ks ag (l.set at_ (done x)) = (orderV ks ag l).filter fun n => decide (n ≠ x.id) := by
  have e : ordP (pairs ks ag (l.set at_ (done x))) = (ordP (pairs ks ag l)).filter fun p => decide (p.2 ≠ x.id) := by
    refine (ord_uniq ?_ (List.Pairwise.filter _ (ord_sorted _))).symm
    refine ((ord_perm (pairs ks ag l)).filter _).trans ?_
    unfold pairs
    rw [filter_set hu hx, List.filter_map]
    exact List.Perm.refl _
  unfold orderV
  rw [e, List.filter_map]
  rfl
theorem tok_done {d0 d1 d2 : Int} {ks : List Cls} {l : List JV} {at_ : Nat} {x : JV} (h : TOk (checkV d0 d1 d2 ks) l) (hx : l[at_]? = some x) : TOk (checkV d0 d1 d2 ks) (l.set at_ (done x)) := by
  have hl := (List.getElem?_eq_some_iff.1 hx).1
  have hids : (l.set at_ (done x)).map (fun j => j.id) = l.map (fun j => j.id) := by
    rw [List.map_set]
    refine List.ext_getElem? fun i => ?_
    by_cases e : at_ = i
    · subst e
      rw [List.getElem?_set_self (by simpa using hl), List.getElem?_map, hx]
      rfl
    · rw [List.getElem?_set_ne e]
  have hm : ∀ j ∈ l.set at_ (done x), j ∈ l ∨ j = done x := fun j hj => (List.mem_or_eq_of_mem_set hj)
  have hxm := List.mem_of_getElem? hx
  refine ⟨by simpa using h.len, fun j hj => ?_, up_ids hids h.rise, fun j hj => ?_⟩
  · rcases hm j hj with h1 | rfl
    · exact h.each j h1
    · have h0 := h.each x hxm
      have hp := (check_zero h0).1
      have hp2 : plainB ks.length (done x) = true := by
        unfold plainB at hp ⊢
        unfold done
        simp only [Bool.and_eq_true] at hp ⊢
        refine ⟨⟨hp.1.1, hp.1.2⟩, ⟨rfl, rfl⟩, rfl⟩
      unfold checkV at h0 ⊢
      rw [if_neg (by simp [hp])] at h0
      rw [if_neg (by simp [hp2])]
      exact h0
  · unfold thereB
    rw [List.all_eq_true]
    intro v hv
    rw [has_ids hids]
    have haf : ∃ q ∈ l, q.af = j.af := by
      rcases hm j hj with h1 | rfl
      · exact ⟨j, h1, rfl⟩
      · exact ⟨x, hxm, rfl⟩
    obtain ⟨q, hq, e⟩ := haf
    have := h.there q hq
    unfold thereB at this
    rw [List.all_eq_true] at this
    exact this v (e ▸ hv)
/-- A key's size: nothing wraps. -/
theorem key_small {d0 d1 d2 bo fr tr ag : Int} {ks : List Cls} {j : JV} (hc : CfgOk d0 d1 d2 bo fr tr ag ks) (h : checkV d0 d1 d2 ks j = 0) :
    -1000 ≤ (clsOf ks j.cl).1 ∧ (clsOf ks j.cl).1 ≤ 1000 ∧ -1000 ≤ j.pr ∧ j.pr ≤ 1000 ∧ 1 ≤ ag ∧ ag ≤ 1048576 ∧ 0 ≤ j.ca ∧ j.ca ≤ 1099511627776 ∧
    -2097152000 ≤ ((clsOf ks j.cl).1 + j.pr) * ag ∧ ((clsOf ks j.cl).1 + j.pr) * ag ≤ 2097152000 ∧ 0 ≤ j.cl ∧ j.cl ≤ (ks.length : Int) - 1 := by
  have hp := (check_zero h).1
  have hcl := plain_cl hp
  unfold plainB at hp
  simp only [Bool.and_eq_true] at hp
  have hpr := hp.1.2.1
  have hca := hp.1.2.2
  unfold CfgOk at hc
  obtain ⟨_, _, _, _, hag, _, hks⟩ := hc
  unfold inB at hpr hca hag
  simp only [Bool.and_eq_true, decide_eq_true_eq] at hpr hca hag
  obtain ⟨m, hm, hml, hget⟩ := cls_at hcl.1 hcl.2
  rw [List.all_eq_true] at hks
  have hk := hks _ (List.mem_of_getElem? hget)
  unfold clsB inB at hk
  simp only [Bool.and_eq_true, decide_eq_true_eq] at hk
  have h1 := hk.1.1.1
  generalize (clsOf ks j.cl).1 = P at *
  have hs1 : -2000 ≤ P + j.pr := by omega
  have hs2 : P + j.pr ≤ 2000 := by omega
  refine ⟨by omega, by omega, by omega, by omega, by omega, by omega, by omega, by omega, ?_, ?_, hcl.1, hcl.2⟩
  · rcases Int.le_total 0 (P + j.pr) with h0 | h0
    · have := Int.mul_nonneg h0 (show (0 : Int) ≤ ag by omega)
      omega
    · have h2 := Int.mul_le_mul (show -(P + j.pr) ≤ 2000 by omega) hag.2 (by omega) (by omega)
      rw [Int.neg_mul] at h2
      omega
  · rcases Int.le_total 0 (P + j.pr) with h0 | h0
    · have h2 := Int.mul_le_mul hs2 hag.2 (by omega) (by omega)
      omega
    · have h2 := Int.mul_nonneg (show (0 : Int) ≤ -(P + j.pr) by omega) (show (0 : Int) ≤ ag by omega)
      rw [Int.neg_mul] at h2
      omega
end Go.Proofs.YtfpljpdjohmbaaaGreat.RankMath
/-! A region that draws its order and only reads (and calls what makes memory): a load of a whole box, of a whole row's element, in one step. No conditions but those named. -/
namespace Go.Proofs.YtfpljpdjohmbaaaGreat.QuietRow
open Go.Sort Go.RowKit Mem
set_option linter.unusedVariables false

theorem quiet_load_row {P : Program} {ops : Array Oper} {w : World} {Q : Act → Prop} {rest : List Oper} {o : Oper} {a : Act} (hw : Region.wanted o (yielded ops a.tmps) = true) (ty : TypeId) (x : Operand) (ho : o.op = .load ty x) (g : Nat) (hx : a.eval x = .pointer (some ⟨g, 0, none⟩))
    (t : TypeId) (cs : Array Value) (hk : Blk w g t cs) (d : TypeDesc) (hu : P.underlying ty = some d) (hd : (match d with | .struct _ | .array _ _ => true | _ => false) = true) (hi : (P.info? ty).map (·.size) = some cs.size)
    (h : wpQuiet P ops (fun w' => ∃ p : Regrown, w' = grow (redrawn w p.d) p.os) Q rest (a.put o.dst (.agg cs))) : wpQuiet P ops (fun w' => ∃ p : Regrown, w' = grow (redrawn w p.d) p.os) Q (o :: rest) a := by
  refine BigFrame.wpQuiet_want hw fun K hK => ⟨.agg cs, fun w' hw' => ?_, hK _ h⟩
  obtain ⟨p, rfl⟩ := hw'
  have hg : (grow (redrawn w p.d) p.os).heap[g]? = some (.cells cs t (0, 0)) := ((below_regrown w p.d p.os).block g hk.lt).trans hk
  unfold Oper.quietAt execOp
  simp only [ho, hx, Instr.loadAt, Instr.sureAddr, Sem.run_bind, Sem.run_pure, Result.andThen_ok, run_loadVar_row _ g t ty cs (0, 0) d hg hu hd hi]
  exact ⟨rfl, rfl⟩
theorem quiet_load_mid {P : Program} {ops : Array Oper} {w : World} {Q : Act → Prop} {rest : List Oper} {o : Oper} {a : Act} (hw : Region.wanted o (yielded ops a.tmps) = true) (ty : TypeId) (x : Operand) (ho : o.op = .load ty x) (b off : Nat) (hx : a.eval x = .pointer (some ⟨b, off, none⟩))
    (cs : List Value) (hc : w.rangeAt b off cs) (d : TypeDesc) (hu : P.underlying ty = some d) (hd : d.isRow = true) (hi : (P.info? ty).map (·.size) = some cs.length)
    (h : wpQuiet P ops (fun w' => ∃ p : Regrown, w' = grow (redrawn w p.d) p.os) Q rest (a.put o.dst (.agg cs.toArray))) : wpQuiet P ops (fun w' => ∃ p : Regrown, w' = grow (redrawn w p.d) p.os) Q (o :: rest) a := by
  refine BigFrame.wpQuiet_want hw fun K hK => ⟨.agg cs.toArray, fun w' hw' => ?_, hK _ h⟩
  obtain ⟨p, rfl⟩ := hw'
  have hc' : (grow (redrawn w p.d) p.os).rangeAt b off cs := fun j v hj => cell_regrown (hc j v hj) _ _
  unfold Oper.quietAt execOp
  simp only [ho, hx, Instr.loadAt, Instr.sureAddr, Sem.run_bind, Sem.run_pure, Result.andThen_ok, run_loadVar_mid _ b off ty cs d hc' hu hd hi]
  exact ⟨rfl, rfl⟩
end Go.Proofs.YtfpljpdjohmbaaaGreat.QuietRow
/-! Many cells of one block stored into one after another; what stays. -/
namespace Go.Proofs.YtfpljpdjohmbaaaGreat.SetList
open Go.RowKit Mem DepsStates
set_option linter.unusedVariables false

theorem below_set1 {w W : World} {g i : Nat} {v : Value} (hg : w.heap.size ≤ g) (h : Below w.heap.size w W) : Below w.heap.size w (W.setCell ⟨g, i, none⟩ v) := h.setCell (p := ⟨g, i, none⟩) hg v
theorem below_sets {w : World} {g : Nat} (hg : w.heap.size ≤ g) : ∀ {vs : List Value} {W : World} {i : Nat}, Below w.heap.size w W → Below w.heap.size w (World.setCells W g i vs)
  | [], _, _, h => h
  | _ :: _, _, _, h => by rw [World.setCells]; exact below_sets hg (below_set1 hg h)
theorem blk_sets_far {g g' : Nat} {t : TypeId} {cs : Array Value} (hg : g' ≠ g) : ∀ {vs : List Value} {W : World} {i : Nat}, Blk W g' t cs → Blk (World.setCells W g i vs) g' t cs
  | [], _, _, h => h
  | v :: _, _, i, h => by rw [World.setCells]; exact blk_sets_far hg (h.far (p := ⟨g, i, none⟩) hg v)
theorem st_sets_far {g b n : Nat} {f : Int → Int} (hg : b ≠ g) : ∀ {vs : List Value} {W : World} {i : Nat}, StAt W b f n → StAt (World.setCells W g i vs) b f n
  | [], _, _, h => h
  | v :: _, _, i, h => by rw [World.setCells]; exact st_sets_far hg (h.far (p := ⟨g, i, none⟩) hg v)
theorem take_set {l : List Value} {i : Nat} (v : Value) (hi : i < l.length) : (l.set i v).take (i + 1) = l.take i ++ [v] := by
  rw [List.take_add_one, List.getElem?_set_self hi]
  congr 1
  refine List.ext_getElem? fun k => ?_
  by_cases hk : k < i
  · rw [List.getElem?_take_of_lt hk, List.getElem?_take_of_lt hk, List.getElem?_set_ne (by omega)]
  · rw [List.getElem?_eq_none (by simp; omega), List.getElem?_eq_none (by simp; omega)]
theorem blk_sets {g : Nat} {t : TypeId} : ∀ {vs : List Value} {W : World} {i : Nat} {cs : Array Value}, Blk W g t cs → cs.size = i + vs.length → Blk (World.setCells W g i vs) g t (cs.toList.take i ++ vs).toArray
  | [], W, i, cs, h, hs => by
    have e : (cs.toList.take i ++ []).toArray = cs := by
      simp at hs
      rw [List.append_nil, List.take_of_length_le (by simp; omega)]
    rw [e]; exact h
  | v :: t, W, i, cs, h, hs => by
    have h1 := blk_sets (vs := t) (W := W.setCell ⟨g, i, none⟩ v) (i := i + 1) (h.set_ i v) (by simp at hs ⊢; omega)
    have e : (cs.setIfInBounds i v).toList.take (i + 1) ++ t = cs.toList.take i ++ v :: t := by
      rw [Array.toList_setIfInBounds, take_set v (by simp at hs ⊢; omega), List.append_assoc]
      rfl
    rw [e] at h1
    rw [World.setCells]
    exact h1
theorem blk_sets0 {g : Nat} {t : TypeId} {vs : List Value} {W : World} {cs : Array Value} (h : Blk W g t cs) (hs : cs.size = vs.length) : Blk (World.setCells W g 0 vs) g t vs.toArray := by
  have := blk_sets (vs := vs) (i := 0) h (by simpa using hs)
  simpa using this
theorem size_sets {g : Nat} : ∀ {vs : List Value} {W : World} {i : Nat}, (World.setCells W g i vs).heap.size = W.heap.size
  | [], _, _ => rfl
  | _ :: _, _, _ => by rw [World.setCells]; rw [size_sets, World.size_setCell]
theorem blk_new_of {W : World} {n : Nat} (h : W.heap.size = n) (t : TypeId) (cs : Array Value) : Blk (W.alloc (.cells cs t)) n t cs := by
  subst h; exact Blk.new _ _ _
theorem there_of {W : World} {g : Nat} {t : TypeId} {cs : Array Value} {n : Nat} (h : Blk W g t cs) (hn : cs.size = n) : W.there g 0 n := fun j hj => by
  rw [Nat.zero_add, h.cell, h.frozen]
  exact ⟨by rw [Array.getElem?_eq_getElem (by omega)]; rfl, rfl⟩
theorem range_of {W : World} {g : Nat} {t : TypeId} {cs : List Value} (h : Blk W g t cs.toArray) : W.rangeAt g 0 cs := fun i v hi => by
  rw [Nat.zero_add, h.cell]
  simpa using hi
theorem range_up {w w' : World} {b o : Nat} {cs : List Value} (h : w.rangeAt b o cs) (hB : Below w.heap.size w w') : w'.rangeAt b o cs := fun i v hi => keep_cell (h i v hi) hB
theorem reads_new (W : World) (t : TypeId) (n : Nat) (hn : n = W.heap.size) (cs : List Value) : Reads (W.alloc (.cells cs.toArray t)) (n + 1) cs.length (some ⟨n, 0, none⟩) 1 cs := by
  subst hn
  exact ⟨by simp, fun _ => ⟨_, rfl, by simp, fun j u hu => by rw [add_flat, Nat.zero_add, (Blk.new W _ _).cell]; simpa using hu⟩⟩
theorem grown_of_below {w W : World} (h : Below w.heap.size w W) (row : Option Nat) : w.grownBy W row := ⟨h.os, h.tape, h.output, h.size, fun k hk _ => h.block k hk⟩
theorem grown_trans {w W W' : World} {row : Option Nat} (h : w.grownBy W row) (h2 : W.grownBy W' row) : w.grownBy W' row :=
  ⟨h2.os.trans h.os, h2.tape.trans h.tape, h2.output.trans h.output, Nat.le_trans h.size h2.size, fun k hk hne => (h2.block k (Nat.lt_of_lt_of_le hk h.size) hne).trans (h.block k hk hne)⟩
theorem range_grown {w W : World} {row : Option Nat} (hg : w.grownBy W row) {b o : Nat} {cs : List Value} (h : w.rangeAt b o cs) (hne : some b ≠ row) : W.rangeAt b o cs := fun i v hi => hg.cell (h i v hi) hne
end Go.Proofs.YtfpljpdjohmbaaaGreat.SetList
/-! rank.key, rank.Key; what slices.SortFunc compares by. -/
namespace Go.Proofs.YtfpljpdjohmbaaaGreat.RankKey
open Go.Sort (grow alloc_eq_grow grow_grow drew_grow)
open Go.RowKit Mem PosMath PartMath PartClass PartCheck TurnMath TurnWalks TurnFitsV JobMath JobIndex JobPlain JobAfter JobCheck RankMath QuietRow SetList
set_option linter.unusedVariables false
set_option linter.unusedSimpArgs false

set_option maxRecDepth 100000 in
set_option maxHeartbeats 4000000 in
theorem key_any (d0 d1 d2 bo fr tr ag : Int) (K : Option Addr) (kc : Nat) (ks : List Cls) (j : JV) (Y : Option Addr) (cj : Nat) (hlk : ks.length ≤ 4611686018427387904) (h : CfgOk d0 d1 d2 bo fr tr ag ks) (h2 : checkV d0 d1 d2 ks j = 0) (w : World) (hk : ClsAt w w.heap.size K ks) :
    Calls Tryz.prog 13 #[.agg #[.int .i64 d0, .int .i64 d1, .int .i64 d2, .int .i64 bo, .int .i64 fr, .int .i64 tr, .int .i64 ag, .slice K ks.length kc], .agg #[.int .i64 j.id, .int .i64 j.us, .int .i64 j.cl, .int .i64 j.x.a, .int .i64 j.x.b, .int .i64 j.x.c, .bool j.x.p, .bool j.x.q, .bool j.x.r, .bool j.x.tn, .int .i64 j.wa, .int .i64 j.pr, .bool j.he, .slice Y j.af.length cj, .int .u8 j.st, .int .i64 j.ca]] w fun e w' => e = .returned (.int .i64 (keyV ks ag j)) ∧ Below w.heap.size w w' := by
  obtain ⟨p0, p1, r0, r1, a0, a1, c0, c1, m0, m1, l0, l1⟩ := key_small h h2
  obtain ⟨m, hm, hml, hget⟩ := cls_at l0 l1
  obtain ⟨kb, ko, hKe, hkb, y0, _⟩ := hk m _ hget
  have HKE := Lib.hid hKe
  have HKB := Lib.hid (And.intro hkb y0)
  unfold keyV
  generalize (clsOf ks j.cl).1 = P at *
  have HM := Lib.hid hm
  have hmi : (m : Int) < (ks.length : Int) := by omega
  have hmi0 : (0 : Int) ≤ (m : Int) := by omega
  have f1 : IntKind.i64.wrap (P + j.pr) = P + j.pr := IntWalk.i64_in _ (by omega)
  have f2 : IntKind.i64.wrap ((P + j.pr) * ag) = (P + j.pr) * ag := IntWalk.i64_in _ (by omega)
  have f3 : IntKind.i64.wrap ((P + j.pr) * ag - j.ca) = (P + j.pr) * ag - j.ca := IntWalk.i64_in _ (by omega)
  clear hm hk hget hkb y0 hKe h h2 p0 p1 r0 r1 a0 a1 c0 c1 m0 m1 l0 l1 hml
  go_enter Tryz.func13, Tryz.ntmps13
  go_upto_region 1 with fail
  have kc0 : Blk ((w.alloc (.cells #[.int .i64 d0, .int .i64 d1, .int .i64 d2, .int .i64 bo, .int .i64 fr, .int .i64 tr, .int .i64 ag, .slice K ks.length kc] 26)).alloc (.cells #[.int .i64 j.id, .int .i64 j.us, .int .i64 j.cl, .int .i64 j.x.a, .int .i64 j.x.b, .int .i64 j.x.c, .bool j.x.p, .bool j.x.q, .bool j.x.r, .bool j.x.tn, .int .i64 j.wa, .int .i64 j.pr, .bool j.he, .slice Y j.af.length cj, .int .u8 j.st, .int .i64 j.ca] 33)) w.heap.size 26 #[.int .i64 d0, .int .i64 d1, .int .i64 d2, .int .i64 bo, .int .i64 fr, .int .i64 tr, .int .i64 ag, .slice K ks.length kc] := (Blk.new w _ _).alloc _
  have kj0 : Blk ((w.alloc (.cells #[.int .i64 d0, .int .i64 d1, .int .i64 d2, .int .i64 bo, .int .i64 fr, .int .i64 tr, .int .i64 ag, .slice K ks.length kc] 26)).alloc (.cells #[.int .i64 j.id, .int .i64 j.us, .int .i64 j.cl, .int .i64 j.x.a, .int .i64 j.x.b, .int .i64 j.x.c, .bool j.x.p, .bool j.x.q, .bool j.x.r, .bool j.x.tn, .int .i64 j.wa, .int .i64 j.pr, .bool j.he, .slice Y j.af.length cj, .int .u8 j.st, .int .i64 j.ca] 33)) (w.heap.size + 1) 33 #[.int .i64 j.id, .int .i64 j.us, .int .i64 j.cl, .int .i64 j.x.a, .int .i64 j.x.b, .int .i64 j.x.c, .bool j.x.p, .bool j.x.q, .bool j.x.r, .bool j.x.tn, .int .i64 j.wa, .int .i64 j.pr, .bool j.he, .slice Y j.af.length cj, .int .u8 j.st, .int .i64 j.ca] := blk1 w _ _
  have hb0 : Below w.heap.size w ((w.alloc (.cells #[.int .i64 d0, .int .i64 d1, .int .i64 d2, .int .i64 bo, .int .i64 fr, .int .i64 tr, .int .i64 ag, .slice K ks.length kc] 26)).alloc (.cells #[.int .i64 j.id, .int .i64 j.us, .int .i64 j.cl, .int .i64 j.x.a, .int .i64 j.x.b, .int .i64 j.x.c, .bool j.x.p, .bool j.x.q, .bool j.x.r, .bool j.x.tn, .int .i64 j.wa, .int .i64 j.pr, .bool j.he, .slice Y j.af.length cj, .int .u8 j.st, .int .i64 j.ca] 33)) := below_alloc (below_alloc (Below.refl _ _))
  generalize ((w.alloc (.cells #[.int .i64 d0, .int .i64 d1, .int .i64 d2, .int .i64 bo, .int .i64 fr, .int .i64 tr, .int .i64 ag, .slice K ks.length kc] 26)).alloc (.cells #[.int .i64 j.id, .int .i64 j.us, .int .i64 j.cl, .int .i64 j.x.a, .int .i64 j.x.b, .int .i64 j.x.c, .bool j.x.p, .bool j.x.q, .bool j.x.r, .bool j.x.tn, .int .i64 j.wa, .int .i64 j.pr, .bool j.he, .slice Y j.af.length cj, .int .u8 j.st, .int .i64 j.ca] 33)) = w0 at *
  have HB0 := Lib.hid hb0
  have KC0 := Lib.hid kc0
  have KJ0 := Lib.hid kj0
  clear hb0
  have x7 : w0.cell? ⟨w.heap.size, 7, none⟩ = some (.slice (some ⟨kb, ko, none⟩) ks.length kc) := by rw [← HKE.out]; exact kc0.cell 7
  have x6 : w0.cell? ⟨w.heap.size, 6, none⟩ = some (.int .i64 ag) := kc0.cell 6
  have z2 : w0.cell? ⟨w.heap.size + 1, 2, none⟩ = some (.int .i64 (m : Int)) := by rw [← HM.out]; exact kj0.cell 2
  have z11 : w0.cell? ⟨w.heap.size + 1, 11, none⟩ = some (.int .i64 j.pr) := kj0.cell 11
  have z15 : w0.cell? ⟨w.heap.size + 1, 15, none⟩ = some (.int .i64 j.ca) := kj0.cell 15
  have y0 : w0.cell? ⟨kb, ko + m * 4, none⟩ = some (.int .i64 P) := (HB0.out.cell (p := ⟨kb, ko + m * 4, none⟩) HKB.out.1).trans HKB.out.2
  clear kc0 kj0
  have kq0 := cell_regrown x7
  have kq1 := cell_regrown x6
  have kq2 := cell_regrown z2
  have kq3 := cell_regrown z11
  have kq4 := cell_regrown z15
  have kq5 := cell_regrown y0
  refine wp_region_quiet_below (by kernel_rfl) (by kernel_rfl) ?_
  repeat (first | go_big_quiet_step (first | fail))
  refine wpQuiet_nil ?_
  intro _ hw'
  obtain ⟨⟨dq, osq⟩, hw''⟩ := hw'
  subst hw''
  have hBq := below_regrown w0 dq osq
  clear kq0 kq1 kq2 kq3 kq4 kq5
  generalize grow (redrawn w0 dq) osq = w1 at *
  have HB1 := Lib.hid (below_up HB0.out hBq)
  go_wp2_with fail
  go_ret
  exact ⟨rfl, HB1.out⟩
theorem CheckV_zero {d0 d1 d2 bo fr tr ag : Int} {ks : List Cls} {j : JV} (h : CheckV d0 d1 d2 bo fr tr ag ks j = 0) : CfgOk d0 d1 d2 bo fr tr ag ks ∧ checkV d0 d1 d2 ks j = 0 := by
  unfold CheckV at h
  split at h
  · rename_i hc; exact ⟨hc, h⟩
  · omega
theorem CheckV_ok {d0 d1 d2 bo fr tr ag : Int} {ks : List Cls} {j : JV} (hc : CfgOk d0 d1 d2 bo fr tr ag ks) (h : checkV d0 d1 d2 ks j = 0) : CheckV d0 d1 d2 bo fr tr ag ks j = 0 := by
  unfold CheckV
  rw [if_pos hc]; exact h
set_option maxRecDepth 100000 in
set_option maxHeartbeats 4000000 in
theorem rKey_any (d0 d1 d2 bo fr tr ag : Int) (K : Option Addr) (kc : Nat) (ks : List Cls) (j : JV) (Y : Option Addr) (cj : Nat) (hlk : ks.length ≤ 4611686018427387904) (hla : j.af.length ≤ 4611686018427387904) (w : World) (hk : ClsAt w w.heap.size K ks) (hY : IntsAt w Y j.af) :
    Calls Tryz.prog 6 #[.agg #[.int .i64 d0, .int .i64 d1, .int .i64 d2, .int .i64 bo, .int .i64 fr, .int .i64 tr, .int .i64 ag, .slice K ks.length kc], .agg #[.int .i64 j.id, .int .i64 j.us, .int .i64 j.cl, .int .i64 j.x.a, .int .i64 j.x.b, .int .i64 j.x.c, .bool j.x.p, .bool j.x.q, .bool j.x.r, .bool j.x.tn, .int .i64 j.wa, .int .i64 j.pr, .bool j.he, .slice Y j.af.length cj, .int .u8 j.st, .int .i64 j.ca]] w fun e w' => e = .returned (.tuple #[.int .i64 (if CheckV d0 d1 d2 bo fr tr ag ks j = 0 then keyV ks ag j else 0), .int .i64 (CheckV d0 d1 d2 bo fr tr ag ks j)]) ∧ Below w.heap.size w w' := by
  have HCK := Lib.hid (fun w hk hY => jCheck d0 d1 d2 bo fr tr ag K kc ks j Y cj hlk hla w hk hY)
  have HKY := Lib.hid (fun h w hk => key_any d0 d1 d2 bo fr tr ag K kc ks j Y cj hlk (CheckV_zero h).1 (CheckV_zero h).2 w hk)
  have HK := Lib.hid hk
  have HY := Lib.hid hY
  generalize CheckV d0 d1 d2 bo fr tr ag ks j = V at *
  generalize keyV ks ag j = KV at *
  obtain ⟨R, hR⟩ : ∃ R, R = if V = 0 then KV else 0 := ⟨_, rfl⟩
  rw [← hR]
  have HRV := Lib.hid hR
  clear hk hY hR
  go_enter Tryz.func6, Tryz.ntmps6
  go_upto_region 1 with fail
  have kc0 : Blk ((w.alloc (.cells #[.int .i64 d0, .int .i64 d1, .int .i64 d2, .int .i64 bo, .int .i64 fr, .int .i64 tr, .int .i64 ag, .slice K ks.length kc] 26)).alloc (.cells #[.int .i64 j.id, .int .i64 j.us, .int .i64 j.cl, .int .i64 j.x.a, .int .i64 j.x.b, .int .i64 j.x.c, .bool j.x.p, .bool j.x.q, .bool j.x.r, .bool j.x.tn, .int .i64 j.wa, .int .i64 j.pr, .bool j.he, .slice Y j.af.length cj, .int .u8 j.st, .int .i64 j.ca] 33)) w.heap.size 26 #[.int .i64 d0, .int .i64 d1, .int .i64 d2, .int .i64 bo, .int .i64 fr, .int .i64 tr, .int .i64 ag, .slice K ks.length kc] := (Blk.new w _ _).alloc _
  have kj0 : Blk ((w.alloc (.cells #[.int .i64 d0, .int .i64 d1, .int .i64 d2, .int .i64 bo, .int .i64 fr, .int .i64 tr, .int .i64 ag, .slice K ks.length kc] 26)).alloc (.cells #[.int .i64 j.id, .int .i64 j.us, .int .i64 j.cl, .int .i64 j.x.a, .int .i64 j.x.b, .int .i64 j.x.c, .bool j.x.p, .bool j.x.q, .bool j.x.r, .bool j.x.tn, .int .i64 j.wa, .int .i64 j.pr, .bool j.he, .slice Y j.af.length cj, .int .u8 j.st, .int .i64 j.ca] 33)) (w.heap.size + 1) 33 #[.int .i64 j.id, .int .i64 j.us, .int .i64 j.cl, .int .i64 j.x.a, .int .i64 j.x.b, .int .i64 j.x.c, .bool j.x.p, .bool j.x.q, .bool j.x.r, .bool j.x.tn, .int .i64 j.wa, .int .i64 j.pr, .bool j.he, .slice Y j.af.length cj, .int .u8 j.st, .int .i64 j.ca] := blk1 w _ _
  have hb0 : Below w.heap.size w ((w.alloc (.cells #[.int .i64 d0, .int .i64 d1, .int .i64 d2, .int .i64 bo, .int .i64 fr, .int .i64 tr, .int .i64 ag, .slice K ks.length kc] 26)).alloc (.cells #[.int .i64 j.id, .int .i64 j.us, .int .i64 j.cl, .int .i64 j.x.a, .int .i64 j.x.b, .int .i64 j.x.c, .bool j.x.p, .bool j.x.q, .bool j.x.r, .bool j.x.tn, .int .i64 j.wa, .int .i64 j.pr, .bool j.he, .slice Y j.af.length cj, .int .u8 j.st, .int .i64 j.ca] 33)) := below_alloc (below_alloc (Below.refl _ _))
  generalize ((w.alloc (.cells #[.int .i64 d0, .int .i64 d1, .int .i64 d2, .int .i64 bo, .int .i64 fr, .int .i64 tr, .int .i64 ag, .slice K ks.length kc] 26)).alloc (.cells #[.int .i64 j.id, .int .i64 j.us, .int .i64 j.cl, .int .i64 j.x.a, .int .i64 j.x.b, .int .i64 j.x.c, .bool j.x.p, .bool j.x.q, .bool j.x.r, .bool j.x.tn, .int .i64 j.wa, .int .i64 j.pr, .bool j.he, .slice Y j.af.length cj, .int .u8 j.st, .int .i64 j.ca] 33)) = w0 at *
  have HB0 := Lib.hid hb0
  have KC0 := Lib.hid kc0
  have KJ0 := Lib.hid kj0
  clear hb0
  clear kc0 kj0
  go_wp2_with (first | (refine wpList_load_row rfl 26 _ rfl _ rfl 26 #[.int .i64 d0, .int .i64 d1, .int .i64 d2, .int .i64 bo, .int .i64 fr, .int .i64 tr, .int .i64 ag, .slice K ks.length kc] (0, 0) _ KC0.out Tryz.underlying26 rfl (by kernel_rfl) ?_) | (refine wpList_load_row rfl 33 _ rfl _ rfl 33 #[.int .i64 j.id, .int .i64 j.us, .int .i64 j.cl, .int .i64 j.x.a, .int .i64 j.x.b, .int .i64 j.x.c, .bool j.x.p, .bool j.x.q, .bool j.x.r, .bool j.x.tn, .int .i64 j.wa, .int .i64 j.pr, .bool j.he, .slice Y j.af.length cj, .int .u8 j.st, .int .i64 j.ca] (0, 0) _ KJ0.out Tryz.underlying33 rfl (by kernel_rfl) ?_))
  refine (HCK.out _ (HK.out.up HB0.out) (HY.out.up HB0.out)).mono ?_
  rintro e w1 ⟨rfl, hB1⟩
  have HB1 := Lib.hid (below_up HB0.out hB1)
  have KC1 := Lib.hid (KC0.out.below hB1 KC0.out.lt)
  have KJ1 := Lib.hid (KJ0.out.below hB1 KJ0.out.lt)
  clear hB1 KC0 KJ0 HB0 HCK
  by_cases hv : V = 0
  · have ev : R = KV := by rw [HRV.out, if_pos hv]
    have EV := Lib.hid ev
    clear ev HRV
    subst hv
    go_wp2_with (first | (refine wpList_load_row rfl 26 _ rfl _ rfl 26 #[.int .i64 d0, .int .i64 d1, .int .i64 d2, .int .i64 bo, .int .i64 fr, .int .i64 tr, .int .i64 ag, .slice K ks.length kc] (0, 0) _ KC1.out Tryz.underlying26 rfl (by kernel_rfl) ?_) | (refine wpList_load_row rfl 33 _ rfl _ rfl 33 #[.int .i64 j.id, .int .i64 j.us, .int .i64 j.cl, .int .i64 j.x.a, .int .i64 j.x.b, .int .i64 j.x.c, .bool j.x.p, .bool j.x.q, .bool j.x.r, .bool j.x.tn, .int .i64 j.wa, .int .i64 j.pr, .bool j.he, .slice Y j.af.length cj, .int .u8 j.st, .int .i64 j.ca] (0, 0) _ KJ1.out Tryz.underlying33 rfl (by kernel_rfl) ?_))
    refine (HKY.out (by first | exact trivial | rfl) _ (HK.out.up HB1.out)).mono ?_
    rintro e w2 ⟨rfl, hB2⟩
    have HB2 := Lib.hid (below_up HB1.out hB2)
    clear hB2
    go_wp2_with fail
    go_ret2
    rw [EV.out]
    exact ⟨rfl, HB2.out⟩
  · have ev : R = 0 := by rw [HRV.out, if_neg hv]
    have EV := Lib.hid ev
    clear ev HRV
    have hv' : (V != 0) = true := by simpa using hv
    go_wp2_with fail
    go_ret2
    rw [EV.out]
    exact ⟨rfl, HB1.out⟩
def OrRel (a b : Int) (w : World) (i : Value) (wr : World) : Prop := (i = .int .i64 0 ∨ (i = .int .i64 1 ∧ a = 0) ∨ (i = .int .i64 2 ∧ a = 0 ∧ b = 0)) ∧ wr = w
theorem or_any (g : Nat) (a b : Int) (w : World) (c0 : w.cell? ⟨g, 0, none⟩ = some (.int .i64 a)) (c1 : w.cell? ⟨g, 1, none⟩ = some (.int .i64 b)) :
    Calls Tryz.prog 19 #[.slice (some ⟨g, 0, none⟩) 2 2] w fun e w' => e = .returned (.int .i64 (if a ≠ 0 then a else b)) ∧ w' = w := by
  obtain ⟨R, hR⟩ : ∃ R, R = if a ≠ 0 then a else b := ⟨_, rfl⟩
  rw [← hR]
  have HR := Lib.hid hR
  clear hR
  go_enter Tryz.func19, Tryz.ntmps19
  go_wp2_with fail
  go_loopw [8] (fun i wr => OrRel a b w i wr)
    (fun i _ => 2 - (intOf i).toNat)
  case atStart => exact ⟨.inl rfl, rfl⟩
  case round =>
    obtain ⟨h, rfl⟩ := hrel
    rcases h with rfl | ⟨rfl, ha⟩ | ⟨rfl, ha, hb⟩
    · by_cases ha : a = 0
      · have e1 : (a != 0) = false := by simpa using ha
        have HA := Lib.hid ha
        clear ha
        go_wp2_with fail
        go_roundw
        case rel => exact ⟨.inr (.inl ⟨rfl, HA.out⟩), rfl⟩
        case measure => simp [intOf]
      · have e1 : (a != 0) = true := by simpa using ha
        have ev : R = a := by rw [HR.out, if_pos ha]
        have EV := Lib.hid ev
        clear ev ha
        go_wp2_with fail
        go_ret
        rw [EV.out]
        exact ⟨rfl, rfl⟩
    · have HA := Lib.hid ha
      by_cases hb : b = 0
      · have e1 : (b != 0) = false := by simpa using hb
        have HB := Lib.hid hb
        clear ha hb
        go_wp2_with fail
        go_roundw
        case rel => exact ⟨.inr (.inr ⟨rfl, HA.out, HB.out⟩), rfl⟩
        case measure => simp [intOf]
      · have e1 : (b != 0) = true := by simpa using hb
        have ev : R = b := by rw [HR.out, if_neg (by simp [ha])]
        have EV := Lib.hid ev
        clear ev ha hb
        go_wp2_with fail
        go_ret
        rw [EV.out]
        exact ⟨rfl, rfl⟩
    · have ev : R = 0 := by rw [HR.out, if_neg (by simp [ha]), hb]
      have EV := Lib.hid ev
      clear ev ha hb
      go_wp2_with fail
      go_ret
      rw [EV.out]
      exact ⟨rfl, rfl⟩
theorem grow_more {w w0 : World} {os : Array Obj} (h : w0 = grow w os) (o : Obj) : ∃ q os', (w0.alloc o).drew = grow (w.drewN q) os' := ⟨1, os ++ #[o], by rw [alloc_eq_grow, h, grow_grow, drew_grow]; rfl⟩
set_option maxRecDepth 100000 in
set_option maxHeartbeats 4000000 in
theorem less_any (a b c d : Int) (w : World) : Calls Tryz.prog 18 #[.agg #[.int .i64 a, .int .i64 b], .agg #[.int .i64 c, .int .i64 d]] w fun e w' => e = .returned (.int .i64 (cmpP (a, b) (c, d))) ∧ ∃ q os', w' = grow (w.drewN q) os' := by
  go_enter Tryz.func18, Tryz.ntmps18
  go_upto_region 1 with fail
  have x0 : ((w.alloc (.cells #[.int .i64 a, .int .i64 b] 52)).alloc (.cells #[.int .i64 c, .int .i64 d] 52)).cell? ⟨w.heap.size, 0, none⟩ = some (.int .i64 a) := ((Blk.new w _ _).alloc _).cell 0
  have x1 : ((w.alloc (.cells #[.int .i64 a, .int .i64 b] 52)).alloc (.cells #[.int .i64 c, .int .i64 d] 52)).cell? ⟨w.heap.size, 1, none⟩ = some (.int .i64 b) := ((Blk.new w _ _).alloc _).cell 1
  have x2 : ((w.alloc (.cells #[.int .i64 a, .int .i64 b] 52)).alloc (.cells #[.int .i64 c, .int .i64 d] 52)).cell? ⟨w.heap.size + 1, 0, none⟩ = some (.int .i64 c) := (blk1 w _ _).cell 0
  have x3 : ((w.alloc (.cells #[.int .i64 a, .int .i64 b] 52)).alloc (.cells #[.int .i64 c, .int .i64 d] 52)).cell? ⟨w.heap.size + 1, 1, none⟩ = some (.int .i64 d) := (blk1 w _ _).cell 1
  obtain ⟨R, hR⟩ : ∃ R, R = cmpP (a, b) (c, d) := ⟨_, rfl⟩
  have HO := Lib.hid (fun (g : Nat) (W : World) (h0 : W.cell? ⟨g, 0, none⟩ = some (.int .i64 (cmpI a c))) (h1 : W.cell? ⟨g, 1, none⟩ = some (.int .i64 (cmpI b d))) => (show Calls Tryz.prog 19 #[.slice (some ⟨g, 0, none⟩) 2 2] W (fun e w' => e = .returned (.int .i64 R) ∧ w' = W) from by rw [hR]; exact or_any g _ _ W h0 h1))
  have HRR := Lib.hid hR
  clear hR
  have HW : Hid (((w.alloc (.cells #[.int .i64 a, .int .i64 b] 52)).alloc (.cells #[.int .i64 c, .int .i64 d] 52)) = grow w #[.cells #[.int .i64 a, .int .i64 b] 52, .cells #[.int .i64 c, .int .i64 d] 52]) := Lib.hid (by rw [alloc_eq_grow, alloc_eq_grow, grow_grow]; rfl)
  generalize ((w.alloc (.cells #[.int .i64 a, .int .i64 b] 52)).alloc (.cells #[.int .i64 c, .int .i64 d] 52)) = w0 at *
  refine wp_region_held_drew (S := (fun W => W.cell? ⟨w.heap.size, 0, none⟩ = some (.int .i64 a) ∧ W.cell? ⟨w.heap.size, 1, none⟩ = some (.int .i64 b) ∧ W.cell? ⟨w.heap.size + 1, 0, none⟩ = some (.int .i64 c) ∧ W.cell? ⟨w.heap.size + 1, 1, none⟩ = some (.int .i64 d))) (by kernel_rfl) ?_ (fun hHeld => ?_)
  · exact ⟨x0, x1, x2, x3⟩
  refine' wpAnyH_take (i := 0) (v := ?v1) rfl (by kernel_rfl) (by kernel_rfl) (by kernel_rfl) (fun _ _ _ h => h) (Or.inl ⟨by rfl, ?y1⟩) (by assumption) ?r1
  case y1 => (intro W hSw; (try dsimp only at hSw); go_simp; try with_reducible rfl)
  (try simp only [Act.put, List.setIfInBounds_toArray, List.set_cons_zero, List.set_cons_succ])
  refine' wpAnyH_take (i := 1) (v := ?v2) rfl (by kernel_rfl) (by kernel_rfl) (by kernel_rfl) (fun _ _ _ h => h) (Or.inl ⟨by rfl, ?y2⟩) (by assumption) ?r2
  case y2 => (intro W hSw; (try dsimp only at hSw); go_simp; try with_reducible rfl)
  (try simp only [Act.put, List.setIfInBounds_toArray, List.set_cons_zero, List.set_cons_succ])
  refine' wpAnyH_take (i := 2) (v := ?v3) rfl (by kernel_rfl) (by kernel_rfl) (by kernel_rfl) (fun _ _ _ h => h) (Or.inl ⟨by rfl, ?y3⟩) (by assumption) ?r3
  case y3 => (intro W hSw; (try dsimp only at hSw); go_simp; try with_reducible rfl)
  (try simp only [Act.put, List.setIfInBounds_toArray, List.set_cons_zero, List.set_cons_succ])
  refine' wpAnyH_take (i := 3) (v := ?v4) rfl (by kernel_rfl) (by kernel_rfl) (by kernel_rfl) (fun _ _ _ h => h) (Or.inl ⟨by rfl, ?y4⟩) (by assumption) ?r4
  case y4 => (intro W hSw; (try dsimp only at hSw); go_simp; try with_reducible rfl)
  (try simp only [Act.put, List.setIfInBounds_toArray, List.set_cons_zero, List.set_cons_succ])
  refine' wpAnyH_take (i := 5) (v := ?v5) rfl (by kernel_rfl) (by kernel_rfl) (by kernel_rfl) (fun _ _ _ h => h) (Or.inl ⟨by rfl, ?y5⟩) (by assumption) ?r5
  case y5 => (intro W hSw; (try dsimp only at hSw); go_simp; try with_reducible rfl)
  (try simp only [Act.put, List.setIfInBounds_toArray, List.set_cons_zero, List.set_cons_succ])
  refine' wpAnyH_take (i := 6) (v := ?v6) rfl (by kernel_rfl) (by kernel_rfl) (by kernel_rfl) (fun _ _ _ h => h) (Or.inl ⟨by rfl, ?y6⟩) (by assumption) ?r6
  case y6 => (intro W hSw; (try dsimp only at hSw); go_simp; try with_reducible rfl)
  (try simp only [Act.put, List.setIfInBounds_toArray, List.set_cons_zero, List.set_cons_succ])
  refine' wpAnyH_take (i := 7) (v := ?v7) rfl (by kernel_rfl) (by kernel_rfl) (by kernel_rfl) (fun _ _ _ h => h) (Or.inl ⟨by rfl, ?y7⟩) (by assumption) ?r7
  case y7 => (intro W hSw; (try dsimp only at hSw); go_simp; try with_reducible rfl)
  (try simp only [Act.put, List.setIfInBounds_toArray, List.set_cons_zero, List.set_cons_succ])
  refine' wpAnyH_take (i := 8) (v := ?v8) rfl (by kernel_rfl) (by kernel_rfl) (by kernel_rfl) (fun _ _ _ h => h) (Or.inl ⟨by rfl, ?y8⟩) (by assumption) ?r8
  case y8 => (intro W hSw; (try dsimp only at hSw); go_simp; try with_reducible rfl)
  (try simp only [Act.put, List.setIfInBounds_toArray, List.set_cons_zero, List.set_cons_succ])
  refine wpAnyH_ready (rs := [4]) (by kernel_rfl) (by simp) ?_
  refine AllReadyH.cons (i := 4) rfl (fun K hK => ?_) ?_
  · go_simp
    refine (compare_any _ _ _).mono ?_
    rintro e w' ⟨rfl, rfl⟩
    (try dsimp only)
    refine hK.out _ _ ?_ (fun hHeld => ?_)
    · exact ⟨x0, x1, x2, x3⟩
    clear hK K
    (try simp only [Act.put, List.setIfInBounds_toArray, List.set_cons_zero, List.set_cons_succ])
    refine wpAnyH_ready (rs := [9]) (by kernel_rfl) (by simp) ?_
    refine AllReadyH.cons (i := 9) rfl (fun K hK => ?_) ?_
    · go_simp
      refine (compare_any _ _ _).mono ?_
      rintro e w' ⟨rfl, rfl⟩
      (try dsimp only)
      refine hK.out _ _ ?_ (fun hHeld => ?_)
      · exact ⟨x0, x1, x2, x3⟩
      clear hK K
      (try simp only [Act.put, List.setIfInBounds_toArray, List.set_cons_zero, List.set_cons_succ])
      refine wpAnyH_ready (rs := [10]) (by kernel_rfl) (by simp) ?_
      refine AllReadyH.cons (i := 10) rfl (fun K hK => ?_) ?_
      · go_simp
        refine hK.out _ _ ?_ (fun hHeld => ?_)
        · exact ⟨cell_over _ x0, cell_over _ x1, cell_over _ x2, cell_over _ x3⟩
        clear hK K
        (try simp only [Act.put, List.setIfInBounds_toArray, List.set_cons_zero, List.set_cons_succ])
        refine wpAnyH_ready (rs := [11]) (by kernel_rfl) (by simp) ?_
        refine AllReadyH.cons (i := 11) rfl (fun K hK => ?_) ?_
        · go_simp
          refine (HO.out _ _ ((Blk.new w0 _ _).drew.cell 0) ((Blk.new w0 _ _).drew.cell 1)).mono ?_
          rintro e w' ⟨rfl, rfl⟩
          (try dsimp only)
          refine hK.out _ _ ?_ (fun hHeld => ?_)
          · exact ⟨cell_over _ x0, cell_over _ x1, cell_over _ x2, cell_over _ x3⟩
          clear hK K
          (try simp only [Act.put, List.setIfInBounds_toArray, List.set_cons_zero, List.set_cons_succ])
          refine wpAnyH_ready (rs := [12]) (by kernel_rfl) (by simp) ?_
          refine AllReadyH.cons (i := 12) rfl (fun K hK => ?_) ?_
          · go_simp
            refine hK.out _ _ ?_ (fun hHeld => ?_)
            · exact ⟨cell_over _ x0, cell_over _ x1, cell_over _ x2, cell_over _ x3⟩
            clear hK K
            (try simp only [Act.put, List.setIfInBounds_toArray, List.set_cons_zero, List.set_cons_succ])
            refine wpAnyH_done (by kernel_rfl) ?_ _
            go_wp2_with fail
            go_ret
            exact ⟨by rw [← HRR.out]; rfl, grow_more HW.out _⟩
          exact AllReadyH.nil
        exact AllReadyH.nil
      exact AllReadyH.nil
    exact AllReadyH.nil
  exact AllReadyH.nil
end Go.Proofs.YtfpljpdjohmbaaaGreat.RankKey
/-! slices.SortFunc at pairs of numbers, in a row of one's own. -/
namespace Go.Proofs.YtfpljpdjohmbaaaGreat.RankSort
open Go.Shelf Mem TurnMath JobMath RankMath RankKey RankLay JobRTwin
open Go.RowKit (Below)
open Go.Sort (Holds HoldsK putRowK flatK SWO SortedIn PermIn grow)
set_option linter.unusedVariables false
set_option linter.unusedSimpArgs false

def encP (x : Int × Int) : List Value := [.int .i64 x.1, .int .i64 x.2]
def flatP (l : List (Int × Int)) : List Value := l.flatMap encP
theorem flat_len : ∀ l : List (Int × Int), (flatP l).length = l.length * 2
  | [] => rfl
  | x :: l => by
    have : flatP (x :: l) = encP x ++ flatP l := by simp [flatP]
    rw [this, List.length_append, flat_len l, List.length_cons]
    show 2 + _ = _
    omega
theorem flat_get : ∀ (l : List (Int × Int)) (i j : Nat) (x : Int × Int), l[i]? = some x → j < 2 → (flatP l)[i * 2 + j]? = (encP x)[j]?
  | [], _, _, _, h, _ => by simp at h
  | y :: l, 0, j, x, h, hj => by
    simp at h
    subst h
    have : flatP (y :: l) = encP y ++ flatP l := by simp [flatP]
    rw [this, Nat.zero_mul, Nat.zero_add, List.getElem?_append_left (show j < 2 from hj)]
  | y :: l, i + 1, j, x, h, hj => by
    have : flatP (y :: l) = encP y ++ flatP l := by simp [flatP]
    rw [this, List.getElem?_append_right (show 2 ≤ (i + 1) * 2 + j by omega), show (i + 1) * 2 + j - (encP y).length = i * 2 + j from by show (i + 1) * 2 + j - 2 = _; omega]
    exact flat_get l i j x (by simpa using h) hj
theorem flat_snoc (l : List (Int × Int)) (x : Int × Int) : flatP (l ++ [x]) = flatP l ++ encP x := by simp [flatP]
/-- A slice of pairs. -/
def PairsAt (w : World) (v : Value) (l : List (Int × Int)) : Prop := ∃ X c, v = .slice X l.length c ∧ ∀ (i : Nat) (q : Int × Int), l[i]? = some q → ∃ b, X = some ⟨b, 0, none⟩ ∧ b < w.heap.size ∧ w.cell? ⟨b, i * 2, none⟩ = some (.int .i64 q.1) ∧ w.cell? ⟨b, i * 2 + 1, none⟩ = some (.int .i64 q.2)
theorem holds_of {w : World} {g : Nat} {cur : Array Value} {t : TypeId} {fr : Nat × Nat} {ps : List (Int × Int)} (hg : w.heap[g]? = some (.cells cur t fr)) (hfr : ∀ i, i < ps.length * 2 → w.frozen? ⟨g, i, none⟩ = false) (ht : cur.toList.take (ps.length * 2) = flatP ps) : HoldsK encP 2 w g 0 ps.toArray := fun t htt => by
  rw [Go.Sort.size_flatK] at htt
  have htt' : t < ps.length * 2 := by simpa using htt
  have hi : t / 2 < ps.length := by omega
  have hcell : cur[t]? = (encP ps[t / 2])[t % 2]? := by
    have h1 := flat_get ps (t / 2) (t % 2) _ (List.getElem?_eq_getElem hi) (Nat.mod_lt _ (by omega))
    rw [show t / 2 * 2 + t % 2 = t by omega, ← ht, List.getElem?_take_of_lt htt'] at h1
    rw [← h1]; simp
  have hget : (flatK encP 2 ps.toArray)[t]! = (encP ps.toArray[t / 2]!)[t % 2]! := Go.Sort.get_flatK _ _ _ _ (by simpa using htt')
  have hdi : ps.toArray[t / 2]! = ps[t / 2] := by
    rw [getElem!_pos ps.toArray _ (by simpa using hi)]
    simp
  constructor
  · simp only [World.cell?, hg, Nat.zero_add]
    rw [hget, hdi]
    have h7 : t % 2 < (encP ps[t / 2]).length := Nat.mod_lt _ (show 0 < 2 by omega)
    rw [getElem!_pos (encP ps[t / 2]) (t % 2) h7]
    rw [List.getElem?_eq_getElem h7] at hcell
    simpa using hcell
  · rw [Nat.zero_add]; exact hfr t htt'
theorem cmp_lays (blk off size : Nat) (w : World) : CmpLays Tryz.prog 18 #[] encP 2 cmpP blk off size w := fun m os dk _ x y => less_any x.1 x.2 y.1 y.2 _
theorem sort_below {w : World} {B blk off n : Nat} {d : Array (Int × Int)} {os : Array Obj} (h : B ≤ blk) (hw : B ≤ w.heap.size) : Below B w (sortWorldK encP 2 w blk off n d os) := by
  refine ⟨rfl, rfl, rfl, size_sortWorldK_c .., fun j hj => ?_⟩
  have hne : blk ≠ j := by omega
  have hjs : j < w.heap.size := by omega
  unfold sortWorldK putRowK Go.Sort.putRow
  simp [grow, Go.Sort.mapBlock, Go.Sort.ahead, Array.getElem?_append, hjs, Array.getElem?_modify, hne]
  rw [Array.getElem_modify, if_neg hne]
set_option maxHeartbeats 2000000 in
theorem sortP_any (BB : Nat) (v : Value) (ps : List (Int × Int)) (w : World) (hl : ps.length ≤ 1000) (hB : BB ≤ w.heap.size) (hown : w.ownsRow BB 52 2 v ps.length (flatP ps)) :
    Calls Tryz.prog 17 #[v, .func (.func 18) #[] #[]] w fun e w' => e = .returned (.tuple #[]) ∧ Below BB w w' ∧ PairsAt w' v (ordP ps) := by
  rcases hown.2 with ⟨rfl, h0⟩ | ⟨g, cap, cur, rfl, hb, hg, hc, hm, hs, ht⟩
  · obtain rfl : ps = [] := List.eq_nil_of_length_eq_zero h0
    refine (AnyF.slices_SortFunc_none sortPairs none 0 _ w).mono ?_
    rintro e w' ⟨rfl, rfl⟩
    have e : ordP [] = [] := by simp [ordP]
    rw [e]
    exact ⟨rfl, Below.refl _ _, none, 0, rfl, fun i q hi => by simp at hi⟩
  · have hglt : g < w.heap.size := (Array.getElem?_eq_some_iff.1 hg).1
    have hH : HoldsK encP 2 w g 0 ps.toArray := holds_of hg (fun i hi => by simp [World.frozen?, hg]) ht
    have h := AnyQ.slices_SortFunc_total sortPairs 2 (fun w => by kernel_rfl) (fun w => by kernel_rfl) encP (fun _ => rfl) (fun x u hu => by simp [encP] at hu; rcases hu with rfl | rfl <;> rfl) cmpP swo 18 #[] g 0 cap ps.toArray w
      (enters_of Tryz.func18 (by kernel_rfl) rfl) (cmp_lays g 0 ps.toArray.size w) hH hglt (by simp; omega) parts
    refine Calls.mono (show Calls Tryz.prog 17 _ w _ from h) ?_
    rintro e w' ⟨rfl, n, os, rfl⟩
    have hol : (ordP ps).length = ps.length := (ord_perm ps).length_eq
    refine ⟨rfl, sort_below hb hB, some ⟨g, 0, none⟩, cap, by rw [hol], fun i q hi => ⟨g, rfl, ?_, ?_⟩⟩
    · exact Nat.lt_of_lt_of_le hglt (size_sortWorldK_c ..)
    · have hH2 := holdsK_sortWorldK_c encP 2 w g 0 ps.toArray (ordP ps).toArray n os hH hglt (by simp [hol])
      have hil := (List.getElem?_eq_some_iff.1 hi).1
      have hiD : i < (ordP ps).toArray.size := by simpa using hil
      have e1 : (ordP ps).toArray[i]! = q := by
        rw [getElem!_pos _ i hiD]
        simpa [hil] using hi
      have c0 := (hH2.cell hiD (show 0 < 2 by omega)).1
      have c1 := (hH2.cell hiD (show 1 < 2 by omega)).1
      rw [e1, Nat.zero_add] at c0 c1
      exact ⟨c0, c1⟩
end Go.Proofs.YtfpljpdjohmbaaaGreat.RankSort
