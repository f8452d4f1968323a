/- Several texts joined: slices.Delete of one job. No conditions but those named. -/
import Derived.BigQuiet
import Derived.IntWalk
import Derived.Deep.QuietTactic
import Derived.Deep.DeepCutAuto
import Derived.Deep.RegionLaw
import Derived.Shelf.RegionOpenPlain
import Derived.Laws.IdiomCopy
import Derived.Deep.MidRow
import Derived.Test.YtaldgmmmcbikgaaB1
import Derived.Test.YtaldgmmmcbikgaaJobTwin
import Derived.Test.YtaldgmmmcbikgaaJobRow
/-! slices.Delete of one job. No conditions but those named. -/
namespace Go.Proofs.Ytaldgmmmcbikgaa.JobDel
open Go.RowKit Mem PosMath PartMath TurnMath JobMath JobIndex JobMem JobTwin JobRow AddKit
set_option linter.unusedVariables false
set_option linter.unusedSimpArgs false

theorem below_cells {n0 : Nat} {w : World} {g : Nat} (hg : n0 ≤ g) : ∀ {vs : List Value} {W : World} {i : Nat}, Below n0 w W → Below n0 w (World.setCells W g i vs)
  | [], _, _, h => h
  | v :: _, _, i, h => by rw [World.setCells]; exact below_cells hg (h.setCell (p := ⟨g, i, none⟩) hg v)
theorem heap_cells {g : Nat} : ∀ {vs : List Value} {W : World} {i k : Nat}, k ≠ g → (World.setCells W g i vs).heap[k]? = W.heap[k]?
  | [], _, _, _, _ => rfl
  | v :: _, W, i, _, h => by rw [World.setCells]; rw [heap_cells h]; exact Below.heap_setCell _ _ _ _ h
/-- The cells of a table of one's own. -/
theorem own_cells {w : World} {B g : Nat} {l : List JV} (h : JobsOwn w B (some ⟨g, 0, none⟩) l) {q : Nat} (hq : q < l.length * 16) : ∃ u, w.cell? ⟨g, q, none⟩ = some u ∧ u.oneCell' = true ∧ w.frozen? ⟨g, q, none⟩ = false := by
  have hi : q / 16 < l.length := by omega
  obtain ⟨g', Y, c, e, h1, hg, hx, f, _, _⟩ := h (q / 16) _ (List.getElem?_eq_getElem hi)
  have e' : g' = g := by simp at e; exact e.symm
  subst e'
  obtain ⟨u, hu, h1, _⟩ := job_cell hx (q % 16) (Nat.mod_lt _ (by omega))
  have hf := f (q % 16) (Nat.mod_lt _ (by omega))
  rw [show q / 16 * 16 + q % 16 = q by omega] at hu hf
  exact ⟨u, hu, h1, hf⟩
/-- The cells that are moved. -/
def movedOf (w : World) (g n i : Nat) : List Value := (rawOf w g 0 n).drop ((i + 1) * 16)
theorem moved_len (w : World) (g n i : Nat) : (movedOf w g n i).length = (n - (i + 1)) * 16 := by
  unfold movedOf rawOf
  simp
  omega
theorem moved_get {w : World} {B g : Nat} {l : List JV} (h : JobsOwn w B (some ⟨g, 0, none⟩) l) {i t : Nat} {u : Value} (hu : (movedOf w g l.length i)[t]? = some u) : w.cell? ⟨g, (i + 1) * 16 + t, none⟩ = some u ∧ u.oneCell' = true := by
  have ht := (List.getElem?_eq_some_iff.1 hu).1
  rw [moved_len] at ht
  obtain ⟨v, hv, h1, _⟩ := own_cells h (q := (i + 1) * 16 + t) (by omega)
  have hr : (rawOf w g 0 l.length)[(i + 1) * 16 + t]? = some v := raw_get (by omega) (by rw [Nat.zero_add]; exact hv)
  unfold movedOf at hu
  rw [List.getElem?_drop, hr] at hu
  cases hu
  exact ⟨hv, h1⟩
theorem moved_at {w : World} {B g : Nat} {l : List JV} (h : JobsOwn w B (some ⟨g, 0, none⟩) l) {i t : Nat} {u : Value} (ht : t < (l.length - (i + 1)) * 16) (hu : w.cell? ⟨g, (i + 1) * 16 + t, none⟩ = some u) : (movedOf w g l.length i)[t]? = some u := by
  have hr : (rawOf w g 0 l.length)[(i + 1) * 16 + t]? = some u := raw_get (by omega) (by rw [Nat.zero_add]; exact hu)
  unfold movedOf
  rw [List.getElem?_drop, hr]
/-- What is left. -/
theorem own_erased {w : World} {B g : Nat} {l : List JV} (h : JobsOwn w B (some ⟨g, 0, none⟩) l) {i : Nat} (hi : i < l.length) (Z : List Value) :
    JobsOwn ((w.drew.setCells g (i * 16) (movedOf w g l.length i)).setCells g ((l.length - 1) * 16) Z) B (some ⟨g, 0, none⟩) (l.eraseIdx i) := fun k x hk => by
  have hkl : k < l.length - 1 := by
    have := (List.getElem?_eq_some_iff.1 hk).1
    rw [List.length_eraseIdx_of_lt hi] at this
    exact this
  have hfr : ∀ q, q < l.length * 16 → ((w.drew.setCells g (i * 16) (movedOf w g l.length i)).setCells g ((l.length - 1) * 16) Z).frozen? ⟨g, q, none⟩ = false := fun q hq => by
    rw [World.frozen?_setCells, World.frozen?_setCells]
    obtain ⟨_, _, _, hf⟩ := own_cells h hq
    exact hf
  have hfar : ∀ (b o : Nat), b ≠ g → ((w.drew.setCells g (i * 16) (movedOf w g l.length i)).setCells g ((l.length - 1) * 16) Z).cell? ⟨b, o, none⟩ = w.cell? ⟨b, o, none⟩ := fun b o hb => by
    rw [World.cell?_setCells_out _ _ _ _ _ (fun e => absurd e hb), World.cell?_setCells_out _ _ _ _ _ (fun e => absurd e hb)]
    rfl
  have hsz : ((w.drew.setCells g (i * 16) (movedOf w g l.length i)).setCells g ((l.length - 1) * 16) Z).heap.size = w.heap.size := by rw [size_sets, size_sets]; rfl
  have key : ∀ (s : Nat) (y : JV), l[s]? = some y → (∀ t u, t < 16 → w.cell? ⟨g, s * 16 + t, none⟩ = some u → ((w.drew.setCells g (i * 16) (movedOf w g l.length i)).setCells g ((l.length - 1) * 16) Z).cell? ⟨g, k * 16 + t, none⟩ = some u) →
      ∃ g' Y c, (some ⟨g, 0, none⟩ : Option Addr) = some ⟨g', 0, none⟩ ∧ B ≤ g' ∧ g' < ((w.drew.setCells g (i * 16) (movedOf w g l.length i)).setCells g ((l.length - 1) * 16) Z).heap.size ∧ JobAt ((w.drew.setCells g (i * 16) (movedOf w g l.length i)).setCells g ((l.length - 1) * 16) Z) g' (k * 16) y Y c ∧ FreeAt ((w.drew.setCells g (i * 16) (movedOf w g l.length i)).setCells g ((l.length - 1) * 16) Z) g' (k * 16) 16 ∧
        (k < (l.eraseIdx i).length → IntsOwn ((w.drew.setCells g (i * 16) (movedOf w g l.length i)).setCells g ((l.length - 1) * 16) Z) B g' Y y.af) ∧ ((l.eraseIdx i).length ≤ k → IntsIn ((w.drew.setCells g (i * 16) (movedOf w g l.length i)).setCells g ((l.length - 1) * 16) Z) B Y y.af) := fun s y hs hc => by
    obtain ⟨g', Y, c, e, h1, hg, hx, f, a, _⟩ := h s y hs
    have e' : g' = g := by simp at e; exact e.symm
    subst e'
    refine ⟨g', Y, c, rfl, h1, by rw [hsz]; exact hg, job_of_cells fun t u ht hu => ?_, fun t ht => hfr _ (by omega), fun _ j v hv => ?_, fun hle => ?_⟩
    · obtain ⟨u', hu', _, hat⟩ := job_cell hx t ht
      rw [hat] at hu
      cases hu
      exact hc t _ ht hu'
    · obtain ⟨b, o, e1, h2, h3, h4, h5, h6⟩ := a (List.getElem?_eq_some_iff.1 hs).1 j v hv
      exact ⟨b, o, e1, h2, h3, by rw [hsz]; exact h4, by rw [hfar b _ h3]; exact h5, by rw [World.frozen?_setCells, World.frozen?_setCells]; exact h6⟩
    · rw [List.length_eraseIdx_of_lt hi] at hle
      omega
  rw [List.getElem?_eraseIdx] at hk
  by_cases hki : k < i
  · rw [if_pos hki] at hk
    refine key k x hk fun t u ht hu => ?_
    rw [World.cell?_setCells_out _ _ _ _ _ (fun _ _ => .inl (by simp only; omega)), World.cell?_setCells_out _ _ _ _ _ (fun _ _ => .inl (by simp only; omega))]
    exact hu
  · rw [if_neg hki] at hk
    refine key (k + 1) x hk fun t u ht hu => ?_
    rw [World.cell?_setCells_out _ _ _ _ _ (fun _ _ => .inl (by simp only; omega))]
    have hm : (movedOf w g l.length i)[(k - i) * 16 + t]? = some u := moved_at h (by omega) (by rw [show (i + 1) * 16 + ((k - i) * 16 + t) = (k + 1) * 16 + t by omega]; exact hu)
    have hlt := (List.getElem?_eq_some_iff.1 hm).1
    have hin := World.cell?_setCells_in g (movedOf w g l.length i) (i * 16) w.drew (fun j hj => by
      rw [moved_len] at hj
      obtain ⟨v, hv, _⟩ := own_cells h (q := i * 16 + j) (by omega)
      show (w.cell? _).isSome = true
      rw [hv]; rfl) ((k - i) * 16 + t) hlt
    rw [show i * 16 + ((k - i) * 16 + t) = k * 16 + t by omega] at hin
    rw [hin]
    rw [List.getElem?_eq_getElem hlt] at hm
    exact hm
theorem clear_one (w : World) (ty : TypeId) (b o c : Nat) (hc : ∀ j, j < 16 → (w.cell? ⟨b, o + j, none⟩).isSome = true) (hf : ∀ j, j < 16 → w.frozen? ⟨b, o + j, none⟩ = false) :
    (Builtin.clear_ #[27] ty #[.slice (some ⟨b, o, none⟩) 1 c]).run Try.prog w = .ok (.tuple #[]) (w.setCells b o [.int .i64 0, .int .i64 0, .int .i64 0, .int .i64 0, .int .i64 0, .int .i64 0, .bool false, .bool false, .bool false, .bool false, .int .i64 0, .int .i64 0, .bool false, .slice none 0 0, .int .u8 0, .int .i64 0]) := by
  have hv : ∀ w, (zeroValue 33).run Try.prog w = .ok (.agg #[.int .i64 0, .int .i64 0, .int .i64 0, .int .i64 0, .int .i64 0, .int .i64 0, .bool false, .bool false, .bool false, .bool false, .int .i64 0, .int .i64 0, .bool false, .slice none 0 0, .int .u8 0, .int .i64 0]) w := fun w => by
    have hz : Try.t33.zero = some (.agg #[.int .i64 0, .int .i64 0, .int .i64 0, .int .i64 0, .int .i64 0, .int .i64 0, .bool false, .bool false, .bool false, .bool false, .int .i64 0, .int .i64 0, .bool false, .slice none 0 0, .int .u8 0, .int .i64 0]) := by kernel_rfl
    simp [zeroValue, go_sem, Try.zeroValue33, hz]
  have hzc : (Builtin.zeroCells (Value.agg #[.int .i64 0, .int .i64 0, .int .i64 0, .int .i64 0, .int .i64 0, .int .i64 0, .bool false, .bool false, .bool false, .bool false, .int .i64 0, .int .i64 0, .bool false, .slice none 0 0, .int .u8 0, .int .i64 0]).cells 1).toList = [.int .i64 0, .int .i64 0, .int .i64 0, .int .i64 0, .int .i64 0, .int .i64 0, .bool false, .bool false, .bool false, .bool false, .int .i64 0, .int .i64 0, .bool false, .slice none 0 0, .int .u8 0, .int .i64 0] := by kernel_rfl
  have hst := run_storeCells_cells (P := Try.prog) b o [.int .i64 0, .int .i64 0, .int .i64 0, .int .i64 0, .int .i64 0, .int .i64 0, .bool false, .bool false, .bool false, .bool false, .int .i64 0, .int .i64 0, .bool false, .slice none 0 0, .int .u8 0, .int .i64 0] 0 w (by simpa using hc) (by simpa using hf) (by decide)
  simp only [Nat.add_zero] at hst
  simp [Builtin.clear_, run_underlying Try.underlying27, hv, hzc, hst]
set_option maxRecDepth 100000 in
set_option maxHeartbeats 8000000 in
theorem jdelete (g c : Nat) (l : List JV) (i k : Nat) (hk : k = i + 1) (hi : i < l.length) (hl : l.length ≤ 1000) (hc : l.length ≤ c) (B : Nat) (w : World) (hX : JobsOwn w B (some ⟨g, 0, none⟩) l) :
    Calls Try.prog 43 #[.slice (some ⟨g, 0, none⟩) l.length c, .int .i64 (i : Int), .int .i64 (k : Int)] w fun e w' => e = .returned (.slice (some ⟨g, 0, none⟩) (l.length - 1) c) ∧ JobsOwn w' B (some ⟨g, 0, none⟩) (l.eraseIdx i) ∧ Below B w w' ∧ (∀ k, k ≠ g → w'.heap[k]? = w.heap[k]?) ∧ w'.heap.size = w.heap.size := by
  have hBg : B ≤ g := by
    obtain ⟨g', Y, cc, e, h1, _⟩ := hX i _ (List.getElem?_eq_getElem hi)
    have e' : g' = g := by simp at e; exact e.symm
    rw [← e']; exact h1
  have HX := Lib.hid hX
  have HB := Lib.hid hBg
  obtain ⟨i0, hi0, hz0, hz1, hz2⟩ := info_parts job_info
  obtain ⟨N, hN⟩ : ∃ N, N = l.length := ⟨_, rfl⟩
  obtain ⟨news, hnews⟩ : ∃ n, n = movedOf w g l.length i := ⟨_, rfl⟩
  have hlen : Hid (news.length = (N - k) * 16) := by rw [hnews, hN, hk]; exact moved_len _ _ _ _
  obtain ⟨A, hA, hsrc⟩ : ∃ A : Addr, (if c = k then (some ⟨g, 0, none⟩ : Option Addr) else some ⟨g, k * 16, none⟩) = some A ∧ Hid (∀ t u, news[t]? = some u → w.drew.cell? (A.add t) = some u) := by
    by_cases h : c = k
    · refine ⟨⟨g, 0, none⟩, by simp [h], fun t u hu => ?_⟩
      have h0 : news.length = 0 := by rw [hlen]; omega
      rw [List.length_eq_zero_iff.1 h0] at hu
      simp at hu
    · refine ⟨⟨g, k * 16, none⟩, by simp [h], fun t u hu => ?_⟩
      rw [add_flat]
      rw [hnews] at hu
      rw [hk]
      exact (moved_get hX hu).1
  have s2 : Hid (∀ u ∈ news, u.oneCell' = true) := by
    intro u hu
    rw [hnews] at hu
    obtain ⟨t, ht⟩ := List.mem_iff_getElem?.1 hu
    exact (moved_get hX ht).2
  have s3 : Hid (∀ t, t < news.length → (w.drew.cell? ⟨g, 0 + i * 16 + t, none⟩).isSome = true ∧ w.drew.frozen? ⟨g, 0 + i * 16 + t, none⟩ = false) := by
    intro t ht
    rw [hlen] at ht
    obtain ⟨u, hu, _, hf⟩ := own_cells hX (q := i * 16 + t) (by omega)
    rw [Nat.zero_add]
    exact ⟨by show (w.cell? _).isSome = true; rw [hu]; rfl, hf⟩
  obtain ⟨W1, hW1⟩ : ∃ W1, W1 = w.drew.setCells g (i * 16) news := ⟨_, rfl⟩
  have hcl : ∀ ty, (Builtin.clear_ #[27] ty #[.slice (some ⟨g, (N - 1) * 16, none⟩) 1 (c - (N - 1))]).run Try.prog W1 = .ok (.tuple #[]) (W1.setCells g ((N - 1) * 16) [.int .i64 0, .int .i64 0, .int .i64 0, .int .i64 0, .int .i64 0, .int .i64 0, .bool false, .bool false, .bool false, .bool false, .int .i64 0, .int .i64 0, .bool false, .slice none 0 0, .int .u8 0, .int .i64 0]) := fun ty => clear_one W1 ty g ((N - 1) * 16) _ (fun j hj => by
    obtain ⟨u, hu, _⟩ := own_cells hX (q := (N - 1) * 16 + j) (by omega)
    rw [hW1]
    exact World.isSome_setCells _ _ _ _ _ (by show (w.cell? _).isSome = true; rw [hu]; rfl)) (fun j hj => by
    obtain ⟨u, hu, _, hf⟩ := own_cells hX (q := (N - 1) * 16 + j) (by omega)
    rw [hW1, World.frozen?_setCells]
    exact hf)
  have hW : Hid (W1 = w.drew.setCells g (0 + i * 16) news) := by rw [Nat.zero_add]; exact hW1
  have hfin : Hid (W1 = w.drew.setCells g (i * 16) (movedOf w g l.length i)) := by rw [← hnews]; exact hW1
  rw [← hN] at hi hl hc
  rw [← hN]
  have HN := Lib.hid hN
  clear hnews hW1 hN hX hBg hz0 hz2
  have e1 : ((i : Int) == (k : Int)) = false := by simp; omega
  have i1 : (k : Int) ≤ (N : Int) := by omega
  have i2 : (N : Int) ≤ (c : Int) := by omega
  have i3 : (i : Int) ≤ (k : Int) := by omega
  have i4 : (k : Int) ≤ (c : Int) := by omega
  have i5 : (i : Int) ≤ (c : Int) := by omega
  have i6 : k ≤ c := by omega
  have i7 : i ≤ c := by omega
  have HKI := Lib.hid hk
  clear hk
  go_enter Try.func43, Try.ntmps43
  go_upto_region 5 with fail
  go_region_law (refine step_append_room rfl (.tmp 22) (.tmp 25) 27 rfl 33 i0 16 Try.underlying27 hi0 hz1 g 0 i c (by simp [Act.eval, Act.put]) A (N - k) (c - k) news (by simp [Act.eval, Act.put]; first | done | exact hA) hlen.out hsrc.out s2.out (by omega) s3.out ?_; rw [← hW.out])
  have d1 : i + (N - k) = N - 1 := by have := HKI.out; omega
  rw [d1]
  have j0 : ((N - 1 : Nat) : Int) ≤ (N : Int) := by omega
  have j1 : N - (N - 1) = 1 := by omega
  have j2 : ¬ c = N - 1 := by omega
  have j3 : N - 1 ≤ c := by omega
  go_wp2_with fail
  go_ret
  refine ⟨rfl, ?_, ?_, ?_, ?_⟩
  · rw [hfin.out, HN.out]
    exact own_erased HX.out (by rw [← HN.out]; exact hi) _
  · rw [hfin.out]
    exact below_cells HB.out (below_cells HB.out (Below.refl _ w).drew)
  · intro k hk
    rw [hfin.out, heap_cells hk, heap_cells hk]
    rfl
  · rw [hfin.out, size_sets, size_sets]
    rfl
end Go.Proofs.Ytaldgmmmcbikgaa.JobDel
