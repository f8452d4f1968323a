/- job.after: whether the numbers of those that are waited for may be. -/
import Derived.Test.YtaldgmmmcbikgaaJobIndex
import Derived.IntWalk
import Derived.BigQuiet
namespace Go.Proofs.Ytaldgmmmcbikgaa.JobAfter
open Go.RowKit Mem PosMath PartMath TurnMath JobMath JobIndex
set_option linter.unusedVariables false
set_option linter.unusedSimpArgs false

/-- What stands ahead of the k-th one. -/
def lastAt (s : Int) (l : List Int) : Nat → Int
  | 0 => s
  | k + 1 => l.getD k 0
theorem lastAt_cons (s y : Int) (t : List Int) (k : Nat) : lastAt s (y :: t) (k + 1) = lastAt y t k := by
  cases k <;> simp [lastAt]
theorem ris_iff {top : Int} : ∀ {l : List Int} {s : Int}, risB top s l = true ↔ ∀ k v, l[k]? = some v → lastAt s l k < v ∧ v < top
  | [], s => by simp [risB]
  | y :: t, s => by
    unfold risB
    rw [Bool.and_eq_true, Bool.and_eq_true, ris_iff, decide_eq_true_eq, decide_eq_true_eq]
    constructor
    · rintro ⟨⟨h1, h2⟩, h3⟩ k v hk
      cases k with
      | zero => simp at hk; subst hk; exact ⟨h1, h2⟩
      | succ k => rw [lastAt_cons]; exact h3 k v (by simpa using hk)
    · intro h
      refine ⟨h 0 y rfl, fun k v hk => ?_⟩
      have := h (k + 1) v (by simpa using hk)
      rwa [lastAt_cons] at this
theorem any_ris {top : Int} {l : List Int} {b : Bool} (h : AnyOf l (fun k v => decide (v ≤ lastAt 0 l k) || decide (top ≤ v)) b) : b = !risB top 0 l := by
  rcases h with ⟨rfl, h⟩ | ⟨rfl, k, v, hk, hv, _⟩
  · rw [ris_iff.2 fun k v hk => by
      have := h k v hk
      simp at this
      omega]
    rfl
  · have : risB top 0 l ≠ true := fun h => by
      have := ris_iff.1 h k v hk
      simp at hv
      omega
    simp at this
    rw [this]
    rfl
theorem after_le (gl gj : Nat) (last id v : Int) (h : v ≤ last) (w : World) (kl : Blk w gl 3 #[.int .i64 last]) (ci : w.cell? ⟨gj, 0, none⟩ = some (.int .i64 id)) (hne : gj ≠ gl) :
    Calls Try.prog 68 #[.int .i64 v, .pointer (some ⟨gl, 0, none⟩), .pointer (some ⟨gj, 0, none⟩)] w fun e w' => e = .returned (.bool true) ∧ w' = w.setCell ⟨gl, 0, none⟩ (.int .i64 v) := by
  have cl : w.cell? ⟨gl, 0, none⟩ = some (.int .i64 last) := kl.cell 0
  have fl : w.frozen? ⟨gl, 0, none⟩ = false := kl.frozen 0
  clear kl
  go_enter Try.func68, Try.ntmps68
  go_wp2_with fail
  go_ret
  exact ⟨rfl, rfl⟩
theorem after_ge (gl gj : Nat) (last id v : Int) (h : ¬ v ≤ last) (h2 : id ≤ v) (w : World) (kl : Blk w gl 3 #[.int .i64 last]) (ci : w.cell? ⟨gj, 0, none⟩ = some (.int .i64 id)) (hne : gj ≠ gl) :
    Calls Try.prog 68 #[.int .i64 v, .pointer (some ⟨gl, 0, none⟩), .pointer (some ⟨gj, 0, none⟩)] w fun e w' => e = .returned (.bool true) ∧ w' = w.setCell ⟨gl, 0, none⟩ (.int .i64 v) := by
  have cl : w.cell? ⟨gl, 0, none⟩ = some (.int .i64 last) := kl.cell 0
  have fl : w.frozen? ⟨gl, 0, none⟩ = false := kl.frozen 0
  clear kl
  go_enter Try.func68, Try.ntmps68
  go_wp2_with fail
  go_ret
  exact ⟨rfl, rfl⟩
theorem after_in (gl gj : Nat) (last id v : Int) (h : ¬ v ≤ last) (h2 : ¬ id ≤ v) (w : World) (kl : Blk w gl 3 #[.int .i64 last]) (ci : w.cell? ⟨gj, 0, none⟩ = some (.int .i64 id)) (hne : gj ≠ gl) :
    Calls Try.prog 68 #[.int .i64 v, .pointer (some ⟨gl, 0, none⟩), .pointer (some ⟨gj, 0, none⟩)] w fun e w' => e = .returned (.bool false) ∧ w' = w.setCell ⟨gl, 0, none⟩ (.int .i64 v) := by
  have cl : w.cell? ⟨gl, 0, none⟩ = some (.int .i64 last) := kl.cell 0
  have fl : w.frozen? ⟨gl, 0, none⟩ = false := kl.frozen 0
  clear kl
  go_enter Try.func68, Try.ntmps68
  go_wp2_with fail
  go_ret
  exact ⟨rfl, rfl⟩
theorem after_step (gl gj : Nat) (last id v : Int) (w : World) (kl : Blk w gl 3 #[.int .i64 last]) (ci : w.cell? ⟨gj, 0, none⟩ = some (.int .i64 id)) (hne : gj ≠ gl) :
    Calls Try.prog 68 #[.int .i64 v, .pointer (some ⟨gl, 0, none⟩), .pointer (some ⟨gj, 0, none⟩)] w fun e w' => e = .returned (.bool (decide (v ≤ last) || decide (id ≤ v))) ∧ w' = w.setCell ⟨gl, 0, none⟩ (.int .i64 v) := by
  by_cases h : v ≤ last
  · rw [show (decide (v ≤ last) || decide (id ≤ v)) = true by simp [h]]
    exact after_le gl gj last id v h w kl ci hne
  · by_cases h2 : id ≤ v
    · rw [show (decide (v ≤ last) || decide (id ≤ v)) = true by simp [h2]]
      exact after_ge gl gj last id v h h2 w kl ci hne
    · rw [show (decide (v ≤ last) || decide (id ≤ v)) = false by simp [h, h2]]
      exact after_in gl gj last id v h h2 w kl ci hne
theorem after_many (j : JV) (Y : Option Addr) (cj : Nat) (h : ¬ (j.af.length : Int) ≤ 4) (hl : j.af.length ≤ 4611686018427387904) (w : World) :
    Calls Try.prog 50 #[.agg #[.int .i64 j.id, .int .i64 j.us, .int .i64 j.cl, .int .i64 j.x.a, .int .i64 j.x.b, .int .i64 j.x.c, .bool j.x.p, .bool j.x.q, .bool j.x.r, .bool j.x.tn, .int .i64 j.wa, .int .i64 j.pr, .bool j.he, .slice Y j.af.length cj, .int .u8 j.st, .int .i64 j.ca]] w fun e w' => e = .returned (.bool false) ∧ Below w.heap.size w w' := by
  go_enter Try.func50, Try.ntmps50
  go_wp2_with fail
  go_ret
  exact ⟨rfl, below_alloc (below_alloc (Below.refl _ _))⟩
theorem after_few (j : JV) (Y : Option Addr) (cj : Nat) (h : (j.af.length : Int) ≤ 4) (w : World) (hY : IntsAt w Y j.af) :
    Calls Try.prog 50 #[.agg #[.int .i64 j.id, .int .i64 j.us, .int .i64 j.cl, .int .i64 j.x.a, .int .i64 j.x.b, .int .i64 j.x.c, .bool j.x.p, .bool j.x.q, .bool j.x.r, .bool j.x.tn, .int .i64 j.wa, .int .i64 j.pr, .bool j.he, .slice Y j.af.length cj, .int .u8 j.st, .int .i64 j.ca]] w fun e w' => e = .returned (.bool (risB j.id 0 j.af)) ∧ Below w.heap.size w w' := by
  have hW1 : Below w.heap.size w ((w.alloc (.cells #[.int .i64 j.id, .int .i64 j.us, .int .i64 j.cl, .int .i64 j.x.a, .int .i64 j.x.b, .int .i64 j.x.c, .bool j.x.p, .bool j.x.q, .bool j.x.r, .bool j.x.tn, .int .i64 j.wa, .int .i64 j.pr, .bool j.he, .slice Y j.af.length cj, .int .u8 j.st, .int .i64 j.ca] 33)).alloc (.cells #[.int .i64 0] 3)) := below_alloc (below_alloc (Below.refl _ _))
  have kj : Blk ((w.alloc (.cells #[.int .i64 j.id, .int .i64 j.us, .int .i64 j.cl, .int .i64 j.x.a, .int .i64 j.x.b, .int .i64 j.x.c, .bool j.x.p, .bool j.x.q, .bool j.x.r, .bool j.x.tn, .int .i64 j.wa, .int .i64 j.pr, .bool j.he, .slice Y j.af.length cj, .int .u8 j.st, .int .i64 j.ca] 33)).alloc (.cells #[.int .i64 0] 3)) w.heap.size 33 #[.int .i64 j.id, .int .i64 j.us, .int .i64 j.cl, .int .i64 j.x.a, .int .i64 j.x.b, .int .i64 j.x.c, .bool j.x.p, .bool j.x.q, .bool j.x.r, .bool j.x.tn, .int .i64 j.wa, .int .i64 j.pr, .bool j.he, .slice Y j.af.length cj, .int .u8 j.st, .int .i64 j.ca] := (Blk.new w _ _).alloc _
  have kl : Blk ((w.alloc (.cells #[.int .i64 j.id, .int .i64 j.us, .int .i64 j.cl, .int .i64 j.x.a, .int .i64 j.x.b, .int .i64 j.x.c, .bool j.x.p, .bool j.x.q, .bool j.x.r, .bool j.x.tn, .int .i64 j.wa, .int .i64 j.pr, .bool j.he, .slice Y j.af.length cj, .int .u8 j.st, .int .i64 j.ca] 33)).alloc (.cells #[.int .i64 0] 3)) (w.heap.size + 1) 3 #[.int .i64 0] := blk1 w _ _
  have hc := iContainsFunc Y cj j.af (fun k v => decide (v ≤ lastAt 0 j.af k) || decide (j.id ≤ v))
    (fun k w' => Below w.heap.size w w' ∧ Blk w' (w.heap.size + 1) 3 #[.int .i64 (lastAt 0 j.af k)] ∧ Blk w' w.heap.size 33 #[.int .i64 j.id, .int .i64 j.us, .int .i64 j.cl, .int .i64 j.x.a, .int .i64 j.x.b, .int .i64 j.x.c, .bool j.x.p, .bool j.x.q, .bool j.x.r, .bool j.x.tn, .int .i64 j.wa, .int .i64 j.pr, .bool j.he, .slice Y j.af.length cj, .int .u8 j.st, .int .i64 j.ca])
    68 #[.pointer (some ⟨w.heap.size + 1, 0, none⟩), .pointer (some ⟨w.heap.size, 0, none⟩)] (by omega) ((w.alloc (.cells #[.int .i64 j.id, .int .i64 j.us, .int .i64 j.cl, .int .i64 j.x.a, .int .i64 j.x.b, .int .i64 j.x.c, .bool j.x.p, .bool j.x.q, .bool j.x.r, .bool j.x.tn, .int .i64 j.wa, .int .i64 j.pr, .bool j.he, .slice Y j.af.length cj, .int .u8 j.st, .int .i64 j.ca] 33)).alloc (.cells #[.int .i64 0] 3)) ⟨hW1, kl, kj⟩ (fun k w' h => hY.up h.1) (enters_of Try.func68 (by kernel_rfl) rfl)
    (fun k v hk w' h => (after_step (w.heap.size + 1) w.heap.size _ j.id v w' h.2.1 (h.2.2.cell 0) (by omega)).mono fun e w'' h2 => ⟨h2.1, by
      rw [h2.2]
      refine ⟨h.1.setCell (by show w.heap.size ≤ w.heap.size + 1; omega) _, ?_, ?_⟩
      · have := h.2.1.set_ 0 (.int .i64 v)
        rw [show lastAt 0 j.af (k + 1) = v from by simp [lastAt, List.getD_eq_getElem?_getD, hk]]
        exact this
      · exact h.2.2.far (by show w.heap.size ≠ w.heap.size + 1; omega) _⟩)
  have HC := Lib.hid hc
  clear hc kj kl hW1
  go_enter Try.func50, Try.ntmps50
  go_wp2_with fail
  refine HC.out.mono ?_
  rintro e w1 ⟨b, rfl, hb, k, hI⟩
  have HB := Lib.hid (And.intro (any_ris hb) hI.1)
  clear hb hI
  go_wp2_with fail
  go_ret
  have e := HB.out.1
  exact ⟨by rw [e]; simp, HB.out.2⟩
theorem jafter (j : JV) (Y : Option Addr) (cj : Nat) (hl : j.af.length ≤ 4611686018427387904) (r : Bool) (h : afterB j = r) (w : World) (hY : IntsAt w Y j.af) :
    Calls Try.prog 50 #[.agg #[.int .i64 j.id, .int .i64 j.us, .int .i64 j.cl, .int .i64 j.x.a, .int .i64 j.x.b, .int .i64 j.x.c, .bool j.x.p, .bool j.x.q, .bool j.x.r, .bool j.x.tn, .int .i64 j.wa, .int .i64 j.pr, .bool j.he, .slice Y j.af.length cj, .int .u8 j.st, .int .i64 j.ca]] w fun e w' => e = .returned (.bool r) ∧ Below w.heap.size w w' := by
  unfold afterB at h
  by_cases h4 : (j.af.length : Int) ≤ 4
  · have e : r = risB j.id 0 j.af := by rw [← h, decide_eq_true (by omega)]; rfl
    rw [e]
    exact after_few j Y cj h4 w hY
  · have e : r = false := by rw [← h, decide_eq_false (by omega)]; rfl
    rw [e]
    exact after_many j Y cj h4 hl w
end Go.Proofs.Ytaldgmmmcbikgaa.JobAfter
