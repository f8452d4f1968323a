/- Classes of one's own in memory; configs with other classes; tables all of whose jobs are done: plain. -/
import Derived.Laws.AppendOwn
import Derived.Test.YtfpljpdjohmbaaaDepsWant
import Derived.Test.YtfpljpdjohmbaaaJobCheck
namespace Go.Proofs.Ytfpljpdjohmbaaa.MayMem
open Go.RowKit Mem PosMath PartMath TurnMath TurnFitsV JobMath JobCheck JobMem DepsMath DepsWant
set_option linter.unusedVariables false
set_option linter.unusedSimpArgs false

def flatC (ks : List Cls) : List Value := ks.flatMap fun k => [.int .i64 k.1, .int .i64 k.2.1, .int .i64 k.2.2.1, .int .i64 k.2.2.2]
theorem flatC_cons (k : Cls) (ks : List Cls) : flatC (k :: ks) = [.int .i64 k.1, .int .i64 k.2.1, .int .i64 k.2.2.1, .int .i64 k.2.2.2] ++ flatC ks := by simp [flatC]
theorem flatC_len : ∀ ks : List Cls, (flatC ks).length = ks.length * 4
  | [] => rfl
  | k :: ks => by
    rw [flatC_cons, List.length_append, flatC_len ks]
    show 4 + ks.length * 4 = (ks.length + 1) * 4
    omega
theorem flatC_get : ∀ (ks : List Cls) (i t : Nat) (k : Cls), ks[i]? = some k → t < 4 → (flatC ks)[i * 4 + t]? = [Value.int .i64 k.1, .int .i64 k.2.1, .int .i64 k.2.2.1, .int .i64 k.2.2.2][t]?
  | [], _, _, _, h, _ => by simp at h
  | y :: l, 0, t, k, h, ht => by
    simp at h
    subst h
    rw [flatC_cons, Nat.zero_mul, Nat.zero_add, List.getElem?_append_left (show t < 4 from ht)]
  | y :: l, i + 1, t, k, h, ht => by
    rw [flatC_cons, List.getElem?_append_right (show 4 ≤ (i + 1) * 4 + t by omega)]
    show (flatC l)[(i + 1) * 4 + t - 4]? = _
    rw [show (i + 1) * 4 + t - 4 = i * 4 + t by omega]
    exact flatC_get l i t k (by simpa using h) ht
theorem flatC_one (ks : List Cls) (u : Value) (hu : u ∈ flatC ks) : u.oneCell' = true := by
  unfold flatC at hu
  obtain ⟨k, _, h⟩ := List.mem_flatMap.1 hu
  simp at h
  rcases h with rfl | rfl | rfl | rfl <;> rfl
theorem cls_reads {w : World} {kb ko : Nat} {ks : List Cls} (h : ClsAt w w.heap.size (some ⟨kb, ko, none⟩) ks) (h0 : 0 < ks.length) : Reads w w.heap.size 4 (some ⟨kb, ko, none⟩) ks.length (flatC ks) := by
  refine ⟨by rw [flatC_len], fun _ => ?_⟩
  obtain ⟨b, o, e, hb, _⟩ := h 0 _ (List.getElem?_eq_getElem h0)
  have e2 : b = kb := by simp at e; exact e.1.symm
  subst e2
  refine ⟨_, rfl, hb, fun t u hu => ?_⟩
  have htl := (List.getElem?_eq_some_iff.1 hu).1
  rw [flatC_len] at htl
  have hi : t / 4 < ks.length := by omega
  have hg := List.getElem?_eq_getElem hi
  obtain ⟨b', o', e', _, x0, x1, x2, x3⟩ := h (t / 4) _ hg
  have e3 : b' = b ∧ o' = ko := by simp at e'; exact ⟨e'.1.symm, e'.2.symm⟩
  rw [e3.1, e3.2] at x0 x1 x2 x3
  have hf := flatC_get ks (t / 4) (t % 4) _ hg (Nat.mod_lt _ (by omega))
  rw [show t / 4 * 4 + t % 4 = t by omega, hu] at hf
  rw [add_flat]
  have ht : t = t / 4 * 4 + t % 4 := by omega
  have hm : t % 4 < 4 := Nat.mod_lt _ (by omega)
  generalize t / 4 = q at *
  generalize t % 4 = r at *
  subst ht
  match r, hm with
  | 0, _ => simp at hf; rw [hf, show ko + (q * 4 + 0) = ko + q * 4 by omega]; exact x0
  | 1, _ => simp at hf; rw [hf, show ko + (q * 4 + 1) = ko + q * 4 + 1 by omega]; exact x1
  | 2, _ => simp at hf; rw [hf, show ko + (q * 4 + 2) = ko + q * 4 + 2 by omega]; exact x2
  | 3, _ => simp at hf; rw [hf, show ko + (q * 4 + 3) = ko + q * 4 + 3 by omega]; exact x3
/-- Classes of one's own. -/
def ClsOwn (w : World) (B : Nat) (g : Nat) (ks : List Cls) : Prop := B ≤ g ∧ g < w.heap.size ∧ ∀ (i : Nat) (k : Cls), ks[i]? = some k →
  w.cell? ⟨g, i * 4, none⟩ = some (.int .i64 k.1) ∧ w.cell? ⟨g, i * 4 + 1, none⟩ = some (.int .i64 k.2.1) ∧ w.cell? ⟨g, i * 4 + 2, none⟩ = some (.int .i64 k.2.2.1) ∧ w.cell? ⟨g, i * 4 + 3, none⟩ = some (.int .i64 k.2.2.2) ∧
  w.frozen? ⟨g, i * 4, none⟩ = false ∧ w.frozen? ⟨g, i * 4 + 1, none⟩ = false ∧ w.frozen? ⟨g, i * 4 + 2, none⟩ = false ∧ w.frozen? ⟨g, i * 4 + 3, none⟩ = false
theorem ClsOwn.up {w w' : World} {B g : Nat} {ks : List Cls} (h : ClsOwn w B g ks) (hB : Below w.heap.size w w') : ClsOwn w' B g ks :=
  ⟨h.1, Nat.lt_of_lt_of_le h.2.1 hB.size, fun i k hi => by
    obtain ⟨x0, x1, x2, x3, f0, f1, f2, f3⟩ := h.2.2 i k hi
    exact ⟨keep_cell x0 hB, keep_cell x1 hB, keep_cell x2 hB, keep_cell x3 hB, frozen_keep f0 h.2.1 hB, frozen_keep f1 h.2.1 hB, frozen_keep f2 h.2.1 hB, frozen_keep f3 h.2.1 hB⟩⟩
theorem ClsOwn.at_ {w : World} {B g : Nat} {ks : List Cls} (h : ClsOwn w B g ks) : ClsAt w w.heap.size (some ⟨g, 0, none⟩) ks := fun i k hi => by
  obtain ⟨x0, x1, x2, x3, _⟩ := h.2.2 i k hi
  exact ⟨g, 0, rfl, h.2.1, by rw [Nat.zero_add]; exact x0, by rw [Nat.zero_add]; exact x1, by rw [Nat.zero_add]; exact x2, by rw [Nat.zero_add]; exact x3⟩
theorem ClsOwn.far {w : World} {B g : Nat} {ks : List Cls} (h : ClsOwn w B g ks) {p : Addr} (hp : p.block ≠ g) (u : Value) : ClsOwn (w.setCell p u) B g ks :=
  ⟨h.1, by rw [World.size_setCell]; exact h.2.1, fun i k hi => by
    obtain ⟨x0, x1, x2, x3, f0, f1, f2, f3⟩ := h.2.2 i k hi
    refine ⟨cell_set_far x0 ?_, cell_set_far x1 ?_, cell_set_far x2 ?_, cell_set_far x3 ?_, by rw [World.frozen?_setCell]; exact f0, by rw [World.frozen?_setCell]; exact f1, by rw [World.frozen?_setCell]; exact f2, by rw [World.frozen?_setCell]; exact f3⟩
    all_goals (intro e; rw [← e] at hp; exact hp rfl)⟩
theorem ne_off {g a b : Nat} (h : a ≠ b) : (⟨g, a, none⟩ : Addr) ≠ ⟨g, b, none⟩ := fun e => h (by injection e)
theorem ClsOwn.set_ {w : World} {B g : Nat} {ks : List Cls} (h : ClsOwn w B g ks) (i0 : Nat) (k0 : Cls) (hi0 : i0 < ks.length) :
    ClsOwn ((((w.setCell ⟨g, i0 * 4, none⟩ (.int .i64 k0.1)).setCell ⟨g, i0 * 4 + 1, none⟩ (.int .i64 k0.2.1)).setCell ⟨g, i0 * 4 + 2, none⟩ (.int .i64 k0.2.2.1)).setCell ⟨g, i0 * 4 + 3, none⟩ (.int .i64 k0.2.2.2)) B g (ks.set i0 k0) := by
  have hz : ∀ (o : Nat) (u : Value), o ≠ i0 * 4 → o ≠ i0 * 4 + 1 → o ≠ i0 * 4 + 2 → o ≠ i0 * 4 + 3 → w.cell? ⟨g, o, none⟩ = some u → ((((w.setCell ⟨g, i0 * 4, none⟩ (.int .i64 k0.1)).setCell ⟨g, i0 * 4 + 1, none⟩ (.int .i64 k0.2.1)).setCell ⟨g, i0 * 4 + 2, none⟩ (.int .i64 k0.2.2.1)).setCell ⟨g, i0 * 4 + 3, none⟩ (.int .i64 k0.2.2.2)).cell? ⟨g, o, none⟩ = some u := fun o u n0 n1 n2 n3 hu =>
    cell_set_far (cell_set_far (cell_set_far (cell_set_far hu (ne_off n0)) (ne_off n1)) (ne_off n2)) (ne_off n3)
  have hf : ∀ a, ((((w.setCell ⟨g, i0 * 4, none⟩ (.int .i64 k0.1)).setCell ⟨g, i0 * 4 + 1, none⟩ (.int .i64 k0.2.1)).setCell ⟨g, i0 * 4 + 2, none⟩ (.int .i64 k0.2.2.1)).setCell ⟨g, i0 * 4 + 3, none⟩ (.int .i64 k0.2.2.2)).frozen? a = w.frozen? a := fun a => by simp only [World.frozen?_setCell]
  have hs : ((((w.setCell ⟨g, i0 * 4, none⟩ (.int .i64 k0.1)).setCell ⟨g, i0 * 4 + 1, none⟩ (.int .i64 k0.2.1)).setCell ⟨g, i0 * 4 + 2, none⟩ (.int .i64 k0.2.2.1)).setCell ⟨g, i0 * 4 + 3, none⟩ (.int .i64 k0.2.2.2)).heap.size = w.heap.size := by simp only [World.size_setCell]
  obtain ⟨z0, z1, z2, z3, _⟩ := h.2.2 i0 _ (List.getElem?_eq_getElem hi0)
  have y0 := World.cell?_setCell_same w ⟨g, i0 * 4, none⟩ (.int .i64 k0.1) z0
  have y1 := World.cell?_setCell_same (w.setCell ⟨g, i0 * 4, none⟩ (.int .i64 k0.1)) ⟨g, i0 * 4 + 1, none⟩ (.int .i64 k0.2.1) (cell_set_far z1 (ne_off (by omega)))
  have y2 := World.cell?_setCell_same ((w.setCell ⟨g, i0 * 4, none⟩ (.int .i64 k0.1)).setCell ⟨g, i0 * 4 + 1, none⟩ (.int .i64 k0.2.1)) ⟨g, i0 * 4 + 2, none⟩ (.int .i64 k0.2.2.1) (cell_set_far (cell_set_far z2 (ne_off (by omega))) (ne_off (by omega)))
  have y3 := World.cell?_setCell_same (((w.setCell ⟨g, i0 * 4, none⟩ (.int .i64 k0.1)).setCell ⟨g, i0 * 4 + 1, none⟩ (.int .i64 k0.2.1)).setCell ⟨g, i0 * 4 + 2, none⟩ (.int .i64 k0.2.2.1)) ⟨g, i0 * 4 + 3, none⟩ (.int .i64 k0.2.2.2) (cell_set_far (cell_set_far (cell_set_far z3 (ne_off (by omega))) (ne_off (by omega))) (ne_off (by omega)))
  have v0 : ((((w.setCell ⟨g, i0 * 4, none⟩ (.int .i64 k0.1)).setCell ⟨g, i0 * 4 + 1, none⟩ (.int .i64 k0.2.1)).setCell ⟨g, i0 * 4 + 2, none⟩ (.int .i64 k0.2.2.1)).setCell ⟨g, i0 * 4 + 3, none⟩ (.int .i64 k0.2.2.2)).cell? ⟨g, i0 * 4, none⟩ = some (.int .i64 k0.1) := (cell_set_far (cell_set_far (cell_set_far y0 (ne_off (by omega))) (ne_off (by omega))) (ne_off (by omega)))
  have v1 : ((((w.setCell ⟨g, i0 * 4, none⟩ (.int .i64 k0.1)).setCell ⟨g, i0 * 4 + 1, none⟩ (.int .i64 k0.2.1)).setCell ⟨g, i0 * 4 + 2, none⟩ (.int .i64 k0.2.2.1)).setCell ⟨g, i0 * 4 + 3, none⟩ (.int .i64 k0.2.2.2)).cell? ⟨g, i0 * 4 + 1, none⟩ = some (.int .i64 k0.2.1) := (cell_set_far (cell_set_far y1 (ne_off (by omega))) (ne_off (by omega)))
  have v2 : ((((w.setCell ⟨g, i0 * 4, none⟩ (.int .i64 k0.1)).setCell ⟨g, i0 * 4 + 1, none⟩ (.int .i64 k0.2.1)).setCell ⟨g, i0 * 4 + 2, none⟩ (.int .i64 k0.2.2.1)).setCell ⟨g, i0 * 4 + 3, none⟩ (.int .i64 k0.2.2.2)).cell? ⟨g, i0 * 4 + 2, none⟩ = some (.int .i64 k0.2.2.1) := (cell_set_far y2 (ne_off (by omega)))
  have v3 : ((((w.setCell ⟨g, i0 * 4, none⟩ (.int .i64 k0.1)).setCell ⟨g, i0 * 4 + 1, none⟩ (.int .i64 k0.2.1)).setCell ⟨g, i0 * 4 + 2, none⟩ (.int .i64 k0.2.2.1)).setCell ⟨g, i0 * 4 + 3, none⟩ (.int .i64 k0.2.2.2)).cell? ⟨g, i0 * 4 + 3, none⟩ = some (.int .i64 k0.2.2.2) := y3
  generalize ((((w.setCell ⟨g, i0 * 4, none⟩ (.int .i64 k0.1)).setCell ⟨g, i0 * 4 + 1, none⟩ (.int .i64 k0.2.1)).setCell ⟨g, i0 * 4 + 2, none⟩ (.int .i64 k0.2.2.1)).setCell ⟨g, i0 * 4 + 3, none⟩ (.int .i64 k0.2.2.2)) = W at *
  refine ⟨h.1, by rw [hs]; exact h.2.1, fun i k hi => ?_⟩
  by_cases hik : i = i0
  · subst hik
    rw [List.getElem?_set_self hi0] at hi
    cases hi
    obtain ⟨_, _, _, _, f0, f1, f2, f3⟩ := h.2.2 i _ (List.getElem?_eq_getElem hi0)
    exact ⟨v0, v1, v2, v3, (hf _).trans f0, (hf _).trans f1, (hf _).trans f2, (hf _).trans f3⟩
  · rw [List.getElem?_set_ne (fun e => hik e.symm)] at hi
    obtain ⟨x0, x1, x2, x3, f0, f1, f2, f3⟩ := h.2.2 i k hi
    exact ⟨hz _ _ (by omega) (by omega) (by omega) (by omega) x0, hz _ _ (by omega) (by omega) (by omega) (by omega) x1, hz _ _ (by omega) (by omega) (by omega) (by omega) x2, hz _ _ (by omega) (by omega) (by omega) (by omega) x3, (hf _).trans f0, (hf _).trans f1, (hf _).trans f2, (hf _).trans f3⟩
theorem cls_of_own {w : World} {B n : Nat} {e : TypeId} {v : Value} {ks : List Cls} (hn : n = ks.length) (h0 : 0 < ks.length) (h : w.ownsRow B e 4 v n (flatC ks)) : ∃ g c, v = .slice (some ⟨g, 0, none⟩) ks.length c ∧ ClsOwn w B g ks := by
  subst hn
  rcases h.2 with ⟨rfl, e0⟩ | ⟨g, cap, cur, rfl, hb, hg, hc, hm, hs, ht⟩
  · omega
  · have kb : Blk w g e cur := hg
    refine ⟨g, cap, rfl, hb, kb.lt, fun i k hi => ?_⟩
    have hil := (List.getElem?_eq_some_iff.1 hi).1
    have hc : ∀ t, t < 4 → w.cell? ⟨g, i * 4 + t, none⟩ = [Value.int .i64 k.1, .int .i64 k.2.1, .int .i64 k.2.2.1, .int .i64 k.2.2.2][t]? := fun t ht' => by
      rw [kb.cell, ← flatC_get ks i t k hi ht', ← ht, List.getElem?_take_of_lt (by omega)]
      simp
    exact ⟨hc 0 (by omega), hc 1 (by omega), hc 2 (by omega), hc 3 (by omega), kb.frozen _, kb.frozen _, kb.frozen _, kb.frozen _⟩
/-- Other classes than one, gone through. -/
def oth (ks : List Cls) (c : Int) : Nat → List Cls
  | 0 => ks
  | k + 1 => if (k : Int) = c then oth ks c k else (oth ks c k).set k (0, 1, 1, 1)
theorem oth_len (ks : List Cls) (c : Int) : ∀ k, (oth ks c k).length = ks.length
  | 0 => rfl
  | k + 1 => by unfold oth; split
                · exact oth_len ks c k
                · rw [List.length_set]; exact oth_len ks c k
theorem oth_own (ks : List Cls) (m : Nat) : ∀ k, (oth ks (m : Int) k)[m]? = ks[m]?
  | 0 => rfl
  | k + 1 => by
    unfold oth
    split
    · exact oth_own ks m k
    · rename_i h
      rw [List.getElem?_set_ne (by omega)]
      exact oth_own ks m k
theorem oth_all {ks : List Cls} {c : Int} (h : ks.all clsB = true) : ∀ k, (oth ks c k).all clsB = true
  | 0 => h
  | k + 1 => by
    unfold oth
    split
    · exact oth_all h k
    · rw [List.all_eq_true]
      intro x hx
      rcases List.mem_or_eq_of_mem_set hx with h1 | rfl
      · exact List.all_eq_true.1 (oth_all h k) x h1
      · rfl
theorem cfg_len {d0 d1 d2 bo fr tr ag : Int} {ks : List Cls} (h : CfgOk d0 d1 d2 bo fr tr ag ks) : 1 ≤ ks.length ∧ ks.length ≤ 4 := by
  have := inB_true h.2.2.2.2.2.1
  omega
/-- A job's check hangs on its own class alone. -/
theorem check_oth {d0 d1 d2 bo fr tr ag : Int} {ks : List Cls} {j : JV} (hC : CfgOk d0 d1 d2 bo fr tr ag ks) (h : checkV d0 d1 d2 ks j = 0) (k : Nat) : CheckV d0 d1 d2 bo fr tr ag (oth ks j.cl k) j = 0 := by
  have hp := (check_zero h).1
  have hcl := plain_cl hp
  obtain ⟨m, hm, hml, hget⟩ := cls_at hcl.1 hcl.2
  have hlen := oth_len ks j.cl k
  have hcls : clsOf (oth ks j.cl k) j.cl = clsOf ks j.cl := by
    unfold clsOf
    rw [hm]
    simp only [Int.toNat_natCast, List.getD_eq_getElem?_getD]
    rw [oth_own]
  have hC2 : CfgOk d0 d1 d2 bo fr tr ag (oth ks j.cl k) := by
    obtain ⟨a, b, c, d, e, f, g⟩ := hC
    exact ⟨a, b, c, d, e, by rw [hlen]; exact f, oth_all g k⟩
  unfold CheckV
  rw [if_pos hC2]
  unfold checkV at h ⊢
  rw [hlen]
  have hlim : limB (oth ks j.cl k) j = limB ks j := by unfold limB; rw [hcls]
  rw [hlim]
  exact h
/-- All jobs done. -/
theorem tok_states {d0 d1 d2 : Int} {ks : List Cls} {l : List JV} (h : TOk (checkV d0 d1 d2 ks) l) : TOk (checkV d0 d1 d2 ks) (l.map (inState 3)) := by
  have hids : (l.map (inState 3)).map (fun j => j.id) = l.map (fun j => j.id) := by rw [List.map_map]; rfl
  refine ⟨by rw [List.length_map]; exact h.len, fun j hj => ?_, up_ids hids h.rise, fun j hj => ?_⟩
  · obtain ⟨x, hx, rfl⟩ := List.mem_map.1 hj
    have h0 := h.each x hx
    have hp := (check_zero h0).1
    have hp2 : plainB ks.length (inState 3 x) = true := by
      unfold plainB at hp ⊢
      unfold inState
      simp only [Bool.and_eq_true] at hp ⊢
      exact ⟨⟨hp.1.1, hp.1.2⟩, ⟨rfl, rfl⟩, rfl⟩
    unfold checkV at h0 ⊢
    rw [if_neg (by simp [hp])] at h0
    rw [if_neg (by simp [hp2])]
    exact h0
  · obtain ⟨x, hx, rfl⟩ := List.mem_map.1 hj
    have h1 := h.there x hx
    unfold thereB at h1 ⊢
    rw [List.all_eq_true] at h1 ⊢
    intro v hv
    rw [has_ids hids]
    exact h1 v hv
theorem may_plain {d0 d1 d2 bo fr tr ag : Int} {ks : List Cls} {l : List JV} (h : tableV d0 d1 d2 bo fr tr ag ks l = 0) :
    CfgOk d0 d1 d2 bo fr tr ag ks ∧ (∀ j ∈ l, checkV d0 d1 d2 ks j = 0) ∧ tableV d0 d1 d2 bo fr tr ag ks (l.map (inState 3)) = 0 ∧ (∀ n, tableV d0 d1 d2 bo fr tr ag ks (l.take n) = 0) ∧ l.length ≤ 24 := by
  obtain ⟨hC, hT⟩ := tableV_of h
  exact ⟨hC, hT.each, tableV_to hC (tok_states hT), fun n => tableV_to hC (tok_take hT n), hT.len⟩
end Go.Proofs.Ytfpljpdjohmbaaa.MayMem
