/- job.Find and job.has. -/
import Derived.Test.YtaldgmmmcbikgaaJobIndex
import Derived.IntWalk
import Derived.BigQuiet
namespace Go.Proofs.Ytaldgmmmcbikgaa.JobFind
open Go.RowKit Mem PosMath PartMath TurnMath JobMath JobIndex
set_option linter.unusedVariables false
set_option linter.unusedSimpArgs false

theorem find_step (gi : Nat) (n : Int) (j : JV) (Y : Option Addr) (cj : Nat) (w : World) (ci : w.cell? ⟨gi, 0, none⟩ = some (.int .i64 n)) :
    Calls Try.prog 25 #[.agg #[.int .i64 j.id, .int .i64 j.us, .int .i64 j.cl, .int .i64 j.x.a, .int .i64 j.x.b, .int .i64 j.x.c, .bool j.x.p, .bool j.x.q, .bool j.x.r, .bool j.x.tn, .int .i64 j.wa, .int .i64 j.pr, .bool j.he, .slice Y j.af.length cj, .int .u8 j.st, .int .i64 j.ca], .pointer (some ⟨gi, 0, none⟩)] w fun e w' => e = .returned (.bool (decide (j.id = n))) ∧ Below w.heap.size w w' := by
  have hg := cell_lt ci
  go_enter Try.func25, Try.ntmps25
  go_wp2_with fail
  go_ret
  exact ⟨by first | rfl | (congr 2), below_alloc (Below.refl _ _)⟩
theorem first_at {l : List JV} {n : Int} {I : Nat → World → Prop} {r : Int} {w : World} (h : FirstOf l (fun _ j => decide (j.id = n)) I r w) : r = atV l n := by
  rcases h with ⟨rfl, h, _⟩ | ⟨k, v, rfl, hk, hv, hf, _⟩
  · symm
    refine atV_none fun j hj => ?_
    obtain ⟨k, hk, e⟩ := List.mem_iff_getElem.1 hj
    simpa using h k j (by rw [List.getElem?_eq_getElem hk, e])
  · symm
    exact atV_at hk (by simpa using hv) fun i x hi hx => by simpa using hf i x hi hx
def findV (l : List JV) (n : Int) : Int × Int := if atV l n < 0 then (0, 6) else (atV l n, 0)
theorem find_any (X : Option Addr) (cap : Nat) (l : List JV) (n : Int) (hl : l.length ≤ 4611686018427387904) (w : World) (hX : JobsAt w X l) :
    Calls Try.prog 10 #[.slice X l.length cap, .int .i64 n] w fun e w' => e = .returned (.tuple #[.int .i64 (findV l n).1, .int .i64 (findV l n).2]) ∧ Below w.heap.size w w' := by
  have hW1 : Below w.heap.size w (w.alloc (.cells #[.int .i64 n] 3)) := below_alloc (Below.refl _ _)
  have ki : Blk (w.alloc (.cells #[.int .i64 n] 3)) w.heap.size 3 #[.int .i64 n] := Blk.new w _ _
  have hc := jIndexFunc X cap l (fun _ j => decide (j.id = n)) (fun _ w' => Below w.heap.size w w' ∧ w'.cell? ⟨w.heap.size, 0, none⟩ = some (.int .i64 n))
    25 #[.pointer (some ⟨w.heap.size, 0, none⟩)] hl _ ⟨hW1, ki.cell 0⟩ (fun k w' h => hX.up h.1) (enters_of Try.func25 (by kernel_rfl) rfl)
    (fun k v hk w' Y c hY h => (find_step w.heap.size n v Y c w' h.2).mono fun e w'' h2 => ⟨h2.1, below_up h.1 h2.2, keep_cell h.2 h2.2⟩)
  have HC := Lib.hid hc
  clear hc hW1 ki
  generalize hV : findV l n = V
  go_enter Try.func10, Try.ntmps10
  go_wp2_with fail
  refine HC.out.mono ?_
  rintro e w1 ⟨r, rfl, hr⟩
  have hB : Below w.heap.size w w1 := by
    rcases hr with ⟨_, _, h⟩ | ⟨_, _, _, _, _, _, h⟩ <;> exact h.1
  have er := first_at hr
  have HB := Lib.hid hB
  have HV := Lib.hid hV
  clear hr hB hV
  by_cases hn : r < 0
  · have ev : V = (0, 6) := by rw [← HV.out]; exact if_pos (by rw [← er]; exact hn)
    have EV := Lib.hid ev
    clear er ev
    go_wp2_with fail
    go_ret2
    rw [EV.out]
    exact ⟨rfl, HB.out⟩
  · have ev : V = (r, 0) := by rw [← HV.out, er]; exact if_neg (by rw [← er]; exact hn)
    have EV := Lib.hid ev
    clear er ev
    go_wp2_with fail
    go_ret2
    rw [EV.out]
    exact ⟨rfl, HB.out⟩
theorem has_any (X : Option Addr) (cap : Nat) (l : List JV) (n : Int) (hl : l.length ≤ 4611686018427387904) (w : World) (hX : JobsAt w X l) :
    Calls Try.prog 35 #[.slice X l.length cap, .int .i64 n] w fun e w' => e = .returned (.bool (hasB l n)) ∧ Below w.heap.size w w' := by
  have HF := Lib.hid (find_any X cap l n hl w hX)
  have hV : hasB l n = decide ((findV l n).2 = 0) := by
    rw [hasB_at]
    unfold findV
    by_cases h : atV l n < 0
    · rw [if_pos h, decide_eq_false (by omega)]; rfl
    · rw [if_neg h, decide_eq_true (by omega)]; rfl
  rw [hV]
  generalize findV l n = V at *
  clear hV hX
  go_enter Try.func35, Try.ntmps35
  go_wp2_with fail
  refine HF.out.mono ?_
  rintro e w1 ⟨rfl, hB⟩
  have HB := Lib.hid hB
  clear hB
  go_wp2_with fail
  go_ret
  exact ⟨by first | rfl | (congr 2), HB.out⟩
end Go.Proofs.Ytaldgmmmcbikgaa.JobFind
