/- The rotations are a group: plain words; the contracts of tori and same. -/
import Derived.Test.YtcapbkihjjhkjaaTurnAlive
namespace Go.Proofs.Ytcapbkihjjhkjaa.TurnGroupA
open Go.RowKit Mem PosMath PosCheck TurnMath TurnWalks TurnMap TurnSorted TurnAll TurnFitsOf TurnAlive
set_option linter.unusedVariables false
set_option linter.unusedSimpArgs false

/-- Two rotations, one behind the other, are one. -/
def comp : Nat → Nat → Nat
  | 0, 0 => 0
  | 0, 1 => 1
  | 0, 2 => 2
  | 0, 3 => 3
  | 0, 4 => 4
  | 0, 5 => 5
  | 1, 0 => 1
  | 1, 1 => 0
  | 1, 2 => 4
  | 1, 3 => 5
  | 1, 4 => 2
  | 1, 5 => 3
  | 2, 0 => 2
  | 2, 1 => 3
  | 2, 2 => 0
  | 2, 3 => 1
  | 2, 4 => 5
  | 2, 5 => 4
  | 3, 0 => 3
  | 3, 1 => 2
  | 3, 2 => 5
  | 3, 3 => 4
  | 3, 4 => 0
  | 3, 5 => 1
  | 4, 0 => 4
  | 4, 1 => 5
  | 4, 2 => 1
  | 4, 3 => 0
  | 4, 4 => 3
  | 4, 5 => 2
  | 5, 0 => 5
  | 5, 1 => 4
  | 5, 2 => 3
  | 5, 3 => 2
  | 5, 4 => 1
  | 5, 5 => 0
  | _, _ => 0
theorem comp_le (k i : Nat) (hk : k ≤ 5) (hi : i ≤ 5) : comp k i ≤ 5 := by
  have : ∀ k : Fin 6, ∀ i : Fin 6, comp k.1 i.1 ≤ 5 := by decide
  exact this ⟨k, by omega⟩ ⟨i, by omega⟩
theorem comp_on (k j : Nat) (hk : k ≤ 5) (hj : j ≤ 5) : ∃ i, i ≤ 5 ∧ comp k i = j := by
  have : ∀ k : Fin 6, ∀ j : Fin 6, ∃ i : Fin 6, comp k.1 i.1 = j.1 := by decide
  obtain ⟨i, hi⟩ := this ⟨k, by omega⟩ ⟨j, by omega⟩
  exact ⟨i.1, by omega, hi⟩
theorem perm_comp (w : WV) (k i : Nat) (hk : k ≤ 5) (hi : i ≤ 5) : perm (perm w k) i = perm w (comp k i) := by
  match k, hk with
  | 0, _ =>
    match i, hi with
    | 0, _ => rfl
    | 1, _ => rfl
    | 2, _ => rfl
    | 3, _ => rfl
    | 4, _ => rfl
    | 5, _ => rfl
  | 1, _ =>
    match i, hi with
    | 0, _ => rfl
    | 1, _ => rfl
    | 2, _ => rfl
    | 3, _ => rfl
    | 4, _ => rfl
    | 5, _ => rfl
  | 2, _ =>
    match i, hi with
    | 0, _ => rfl
    | 1, _ => rfl
    | 2, _ => rfl
    | 3, _ => rfl
    | 4, _ => rfl
    | 5, _ => rfl
  | 3, _ =>
    match i, hi with
    | 0, _ => rfl
    | 1, _ => rfl
    | 2, _ => rfl
    | 3, _ => rfl
    | 4, _ => rfl
    | 5, _ => rfl
  | 4, _ =>
    match i, hi with
    | 0, _ => rfl
    | 1, _ => rfl
    | 2, _ => rfl
    | 3, _ => rfl
    | 4, _ => rfl
    | 5, _ => rfl
  | 5, _ =>
    match i, hi with
    | 0, _ => rfl
    | 1, _ => rfl
    | 2, _ => rfl
    | 3, _ => rfl
    | 4, _ => rfl
    | 5, _ => rfl
theorem rots_same {w x y : WV} (hx : x ∈ rots w) : y ∈ rots x ↔ y ∈ rots w := by
  obtain ⟨k, hk, rfl⟩ := mem_rots.1 hx
  rw [mem_rots, mem_rots]
  constructor
  · rintro ⟨i, hi, rfl⟩
    exact ⟨comp k i, comp_le k i hk hi, perm_comp w k i hk hi⟩
  · rintro ⟨j, hj, rfl⟩
    obtain ⟨i, hi, e⟩ := comp_on k j hk hj
    exact ⟨i, hi, by rw [perm_comp w k i hk hi, e]⟩
theorem group {w x : WV} (h : WOk w) (hx : x ∈ allL w) : allL x = allL w := by
  have hok := allL_ok h hx
  refine (eq_allL hok.1 ⟨(allL_is h).1, fun y => ?_⟩).symm
  rw [(allL_is h).2 y, hok.2]
  have hx' := ((allL_is h).2 x).1 hx
  by_cases ht : w.tn = true
  · rw [if_pos ht] at hx' ⊢
    rw [if_pos ht]
    exact (rots_same hx').symm
  · rw [if_neg ht] at hx' ⊢
    rw [if_neg ht, hx']
theorem own_mem {w : WV} (h : WOk w) : w ∈ allL w := by
  refine ((allL_is h).2 w).2 ?_
  split
  · exact mem_rots.2 ⟨0, by omega, rfl⟩
  · rfl
theorem rising_nodup {l : List WV} (h : Rising l) : l.Nodup := h.imp fun hlt e => by rw [e] at hlt; omega
theorem nodup_len {l m : List WV} (hl : l.Nodup) (hm : m.Nodup) (h : ∀ x, x ∈ l ↔ x ∈ m) : l.length = m.length := ((List.perm_ext_iff_of_nodup hl hm).2 h).length_eq
theorem ne1 {a b c a' b' c' : Int} {p q r p' q' r' t t' : Bool} (h : ¬ (a = a' ∧ p = p')) : (⟨a, b, c, p, q, r, t⟩ : WV) ≠ ⟨a', b', c', p', q', r', t'⟩ := fun e => h ⟨congrArg WV.a e, congrArg WV.p e⟩
theorem ne2 {a b c a' b' c' : Int} {p q r p' q' r' t t' : Bool} (h : ¬ (b = b' ∧ q = q')) : (⟨a, b, c, p, q, r, t⟩ : WV) ≠ ⟨a', b', c', p', q', r', t'⟩ := fun e => h ⟨congrArg WV.b e, congrArg WV.q e⟩
theorem nodup3 {x y z : WV} (h1 : x ≠ y) (h2 : x ≠ z) (h3 : y ≠ z) : [x, y, z].Nodup := by simp [h1, h2, h3]
theorem many (w : WV) (h : WOk w) (ht : w.tn = true) : (allL w).length = 1 ∨ (allL w).length = 3 ∨ (allL w).length = 6 := by
  have hn := rising_nodup (allL_is h).1
  have hm : ∀ x, x ∈ allL w ↔ x ∈ rots w := fun x => by rw [(allL_is h).2 x, if_pos ht]
  obtain ⟨a, b, c, p, q, r, tn⟩ := w
  have key : ∀ m : List WV, m.Nodup → (∀ x, x ∈ rots ⟨a, b, c, p, q, r, tn⟩ ↔ x ∈ m) → (allL ⟨a, b, c, p, q, r, tn⟩).length = m.length := fun m h1 h2 => nodup_len hn h1 fun x => (hm x).trans (h2 x)
  by_cases e1 : a = b ∧ p = q
  · obtain ⟨rfl, rfl⟩ := e1
    by_cases e2 : a = c ∧ p = r
    · obtain ⟨rfl, rfl⟩ := e2
      left
      exact key [⟨a, a, a, p, p, p, tn⟩] (by simp) fun x => by simp [rots, perm]
    · right; left
      refine key [⟨a, a, c, p, p, r, tn⟩, ⟨a, c, a, p, r, p, tn⟩, ⟨c, a, a, r, p, p, tn⟩] ?_ fun x => ?_
      · exact nodup3 (ne2 e2) (ne1 e2) (ne1 e2)
      · simp only [rots, perm, List.mem_cons, List.not_mem_nil, or_false]
        constructor
        · rintro (h | h | h | h | h | h) <;> simp [h]
        · rintro (h | h | h) <;> simp [h]
  · by_cases e2 : a = c ∧ p = r
    · obtain ⟨rfl, rfl⟩ := e2
      right; left
      refine key [⟨a, b, a, p, q, p, tn⟩, ⟨a, a, b, p, p, q, tn⟩, ⟨b, a, a, q, p, p, tn⟩] ?_ fun x => ?_
      · exact nodup3 (ne2 fun h => e1 ⟨h.1.symm, h.2.symm⟩) (ne1 e1) (ne1 e1)
      · simp only [rots, perm, List.mem_cons, List.not_mem_nil, or_false]
        constructor
        · rintro (h | h | h | h | h | h) <;> simp [h]
        · rintro (h | h | h) <;> simp [h]
    · by_cases e3 : b = c ∧ q = r
      · obtain ⟨rfl, rfl⟩ := e3
        right; left
        refine key [⟨a, b, b, p, q, q, tn⟩, ⟨b, a, b, q, p, q, tn⟩, ⟨b, b, a, q, q, p, tn⟩] ?_ fun x => ?_
        · exact nodup3 (ne1 e1) (ne1 e1) (ne2 e1)
        · simp only [rots, perm, List.mem_cons, List.not_mem_nil, or_false]
          constructor
          · rintro (h | h | h | h | h | h) <;> simp [h]
          · rintro (h | h | h) <;> simp [h]
      · right; right
        refine key (rots ⟨a, b, c, p, q, r, tn⟩) ?_ fun x => Iff.rfl
        have e1' : ¬ (b = a ∧ q = p) := fun h => e1 ⟨h.1.symm, h.2.symm⟩
        have e2' : ¬ (c = a ∧ r = p) := fun h => e2 ⟨h.1.symm, h.2.symm⟩
        have e3' : ¬ (c = b ∧ r = q) := fun h => e3 ⟨h.1.symm, h.2.symm⟩
        simp only [rots, perm, List.nodup_cons, List.mem_cons, List.not_mem_nil, or_false, WV.mk.injEq, not_or, List.nodup_nil, not_false_eq_true, and_true]
        refine ⟨⟨?_, ?_, ?_, ?_, ?_⟩, ⟨?_, ?_, ?_, ?_⟩, ⟨?_, ?_, ?_⟩, ⟨?_, ?_⟩, ?_⟩ <;> (rintro ⟨h1, h2, h3, h4, h5, h6⟩; first | exact e1 ⟨h1, h4⟩ | exact e2 ⟨h1, h4⟩ | exact e3 ⟨h1, h4⟩ | exact e1' ⟨h1, h4⟩ | exact e2' ⟨h1, h4⟩ | exact e3' ⟨h1, h4⟩ | exact e1 ⟨h2, h5⟩ | exact e2 ⟨h2, h5⟩ | exact e3 ⟨h2, h5⟩ | exact e1' ⟨h2, h5⟩ | exact e2' ⟨h2, h5⟩ | exact e3' ⟨h2, h5⟩ | exact e1 ⟨h3, h6⟩ | exact e2 ⟨h3, h6⟩ | exact e3 ⟨h3, h6⟩ | exact e1' ⟨h3, h6⟩ | exact e2' ⟨h3, h6⟩ | exact e3' ⟨h3, h6⟩)
def toriV (x : WV) : Int := bitI x.p + bitI x.q + bitI x.r
theorem rot_like {w x : WV} (h : WOk w) (hx : x ∈ allL w) : toriV x = toriV w ∧ x.a * x.b * x.c = w.a * w.b * w.c := by
  have hx' := ((allL_is h).2 x).1 hx
  split at hx'
  · obtain ⟨k, hk, rfl⟩ := mem_rots.1 hx'
    match k, hk with
    | 0, _ => exact ⟨rfl, rfl⟩
    | 1, _ => exact ⟨by simp [toriV, perm]; omega, by simp [perm]; rw [Int.mul_right_comm]⟩
    | 2, _ => exact ⟨by simp [toriV, perm]; omega, by simp [perm]; rw [Int.mul_comm w.b w.a]⟩
    | 3, _ => exact ⟨by simp [toriV, perm]; omega, by simp [perm]; rw [Int.mul_comm (w.b * w.c) w.a, Int.mul_assoc]⟩
    | 4, _ => exact ⟨by simp [toriV, perm]; omega, by simp [perm]; rw [Int.mul_comm w.c w.a, Int.mul_right_comm]⟩
    | 5, _ => exact ⟨by simp [toriV, perm]; omega, by simp [perm]; rw [Int.mul_comm (w.c * w.b) w.a, Int.mul_comm w.c w.b, Int.mul_assoc]⟩
  · rw [hx']; exact ⟨rfl, rfl⟩
set_option maxRecDepth 100000 in
set_option maxHeartbeats 4000000 in
theorem tori_any (a b c : Int) (p q r tn : Bool) (w : World) : Calls Try.prog 12 #[.agg #[.int .i64 a, .int .i64 b, .int .i64 c, .bool p, .bool q, .bool r, .bool tn]] w fun e w' => e = .returned (.int .i64 (bitI p + bitI q + bitI r)) ∧ Below w.heap.size w w' := by
  go_enter Try.func12, Try.ntmps12
  go_wp2_with fail
  have kx := Blk.new w 25 #[.int .i64 a, .int .i64 b, .int .i64 c, .bool p, .bool q, .bool r, .bool tn]
  have hb0 : Below w.heap.size w (w.alloc (.cells #[.int .i64 a, .int .i64 b, .int .i64 c, .bool p, .bool q, .bool r, .bool tn] 25)) := below_alloc (Below.refl _ _)
  have x3 := kx.cell 3
  have x4 := kx.cell 4
  have x5 := kx.cell 5
  simp only [List.getElem?_toArray, List.getElem?_cons_zero, List.getElem?_cons_succ] at x3 x4 x5
  have HB := Lib.hid hb0
  clear hb0 kx
  generalize w.alloc (.cells #[.int .i64 a, .int .i64 b, .int .i64 c, .bool p, .bool q, .bool r, .bool tn] 25) = w0 at *
  go_loop [3, 4] (fun n i => ∃ k : Nat, k ≤ 3 ∧ i = .int .i64 k ∧ n = .int .i64 (match k with | 0 => 0 | 1 => bitI p | 2 => bitI p + bitI q | _ => bitI p + bitI q + bitI r))
    (fun _ i => 3 - (intOf i).toNat)
  case atStart => exact ⟨0, by omega, rfl, rfl⟩
  case round =>
    obtain ⟨k, hk, rfl, rfl⟩ := hrel
    match k, hk with
    | 0, _ =>
      cases p
      · go_wp2_with fail
        go_round
        case rel => exact ⟨1, by omega, rfl, by simp [bitI]⟩
        case measure => simp [intOf]
      · have f1 : ∀ n : Int, 0 ≤ n → n ≤ 3 → IntKind.i64.wrap (n + 1) = n + 1 := fun n h1 h2 => IntWalk.i64_in _ (by omega)
        skip
        have f2 : IntKind.i64.wrap (0 + 1) = 0 + 1 := f1 _ (by omega) (by omega)
        clear f1
        go_wp2_with fail
        go_round
        case rel => exact ⟨1, by omega, rfl, by simp [bitI]⟩
        case measure => simp [intOf]
    | 1, _ =>
      cases q
      · go_wp2_with fail
        go_round
        case rel => exact ⟨2, by omega, rfl, by simp [bitI]⟩
        case measure => simp [intOf]
      · have f1 : ∀ n : Int, 0 ≤ n → n ≤ 3 → IntKind.i64.wrap (n + 1) = n + 1 := fun n h1 h2 => IntWalk.i64_in _ (by omega)
        have gp := bitI_01 p
        have f2 : IntKind.i64.wrap (bitI p + 1) = bitI p + 1 := f1 _ (by omega) (by omega)
        clear f1
        go_wp2_with fail
        go_round
        case rel => exact ⟨2, by omega, rfl, by simp [bitI]⟩
        case measure => simp [intOf]
    | 2, _ =>
      cases r
      · go_wp2_with fail
        go_round
        case rel => exact ⟨3, by omega, rfl, by simp [bitI]⟩
        case measure => simp [intOf]
      · have f1 : ∀ n : Int, 0 ≤ n → n ≤ 3 → IntKind.i64.wrap (n + 1) = n + 1 := fun n h1 h2 => IntWalk.i64_in _ (by omega)
        have gp := bitI_01 p
        have gq := bitI_01 q
        have f2 : IntKind.i64.wrap ((bitI p + bitI q) + 1) = (bitI p + bitI q) + 1 := f1 _ (by omega) (by omega)
        clear f1
        go_wp2_with fail
        go_round
        case rel => exact ⟨3, by omega, rfl, by simp [bitI]⟩
        case measure => simp [intOf]
    | 3, _ =>
      go_wp2_with fail
      go_ret
      exact ⟨rfl, HB.out⟩
set_option maxRecDepth 100000 in
set_option maxHeartbeats 4000000 in
theorem same_any (X Y : Option Addr) (c1 c2 : Nat) (l : List WV) (hl : l.length ≤ 100) (hw : ∀ x ∈ l, WWf x) (w : World) (h1 : Has w X l) (h2 : Has w Y l) :
    Calls Try.prog 11 #[.slice X l.length c1, .slice Y l.length c2] w fun e w' => e = .returned (.bool true) ∧ Below w.heap.size w w' := by
  have H1 := Lib.hid h1
  have H2 := Lib.hid h2
  have hq : ∀ x ∈ l, ∀ w, (Op.equalIn 10000 25 (.agg x.arr) (.agg x.arr)).run Try.prog w = .ok true w := fun x hx w => by
    have := eq_wants (hw x hx) (hw x hx) w
    simpa using this
  have HQ := Lib.hid hq
  clear h1 h2 hq hw
  go_enter Try.func11, Try.ntmps11
  go_wp2_with fail
  go_loopw [5] (fun i wr => ∃ k : Nat, k ≤ l.length ∧ i = .int .i64 k ∧ Hid (Below w.heap.size w wr))
    (fun i _ => l.length - (intOf i).toNat)
  case atStart => exact ⟨0, Nat.zero_le _, rfl, Below.refl _ _⟩
  case round =>
    obtain ⟨k, hk, rfl, hB⟩ := hrel
    by_cases hlt : k < l.length
    · have hg : l[k]? = some l[k] := List.getElem?_eq_getElem hlt
      generalize l[k] = x at hg
      obtain ⟨b, o, rfl, hb, y0, y1, y2, y3, y4, y5, y6⟩ := (H1.out.up hB.out) k x hg
      obtain ⟨b', o', rfl, hb', z0, z1, z2, z3, z4, z5, z6⟩ := (H2.out.up hB.out) k x hg
      have hki : (k : Int) < (l.length : Int) := by omega
      have hq := HQ.out x (List.mem_of_getElem? hg)
      unfold WV.arr at hq
      clear hg
      go_wp2_with fail
      go_quiet (fail)
      go_wp2_with fail
      go_roundw
      case rel => exact ⟨k + 1, by omega, by go_num, below_drewN hB.out _⟩
      case measure => simp [intOf]; omega
    · obtain rfl : k = l.length := by omega
      go_wp2_with fail
      go_ret
      exact ⟨rfl, hB.out⟩
end Go.Proofs.Ytcapbkihjjhkjaa.TurnGroupA
