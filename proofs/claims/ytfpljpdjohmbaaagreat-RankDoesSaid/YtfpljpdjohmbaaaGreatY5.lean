/- Several texts joined: The reference's Turns: the rotations, rising. -/
import Derived.BigRegion
import Derived.BigQuiet
import Derived.Deep.RegionHeld3
import Derived.Lib.QuietBelow
import Derived.Deep.QuietTactic
import Derived.Deep.DeepCutAuto
import Derived.Test.YtfpljpdjohmbaaaGreatY4
/-! The reference's Turns: the rotations, rising. -/
namespace Go.Proofs.YtfpljpdjohmbaaaGreat.TurnTurns
open Go.Sort (grow)
open Go.RowKit Mem SeqKit PosMath PosCheck TurnMath TurnWalks TurnMap TurnAppend TurnSorted TurnAll TurnFitsV TurnRef TurnPut
set_option linter.unusedVariables false
set_option linter.unusedSimpArgs false

def tord : Nat → Nat
  | 0 => 2
  | 1 => 5
  | 2 => 1
  | 3 => 3
  | _ => 4
def turnsL (x : WV) : Nat → List WV
  | 0 => [x]
  | k + 1 => put (perm x (tord k)) (turnsL x k)
theorem turnsL_ok {x : WV} (h : WOk x) : ∀ k, Rising (turnsL x k) ∧ (∀ y ∈ turnsL x k, WOk y ∧ y.tn = x.tn) ∧ (turnsL x k).length ≤ k + 1
  | 0 => ⟨by simp [turnsL, Rising], fun y hy => by simp [turnsL] at hy; subst hy; exact ⟨h, rfl⟩, by simp [turnsL]⟩
  | k + 1 => by
    obtain ⟨h1, h2, h3⟩ := turnsL_ok h k
    have hp := perm_ok h (tord k)
    have ht := perm_tn x (tord k)
    refine ⟨put_rising hp h1 fun z hz => ⟨(h2 z hz).1, (h2 z hz).2.trans ht.symm⟩, fun y hy => ?_, ?_⟩
    · rcases put_mem.1 hy with e | e
      · rw [e]; exact ⟨hp, ht⟩
      · exact h2 y e
    · have : ∀ (z : WV) (l : List WV), (put z l).length ≤ l.length + 1 := by
        intro z l
        induction l with
        | nil => simp [put]
        | cons y l ih =>
          unfold put
          split
          · simp
          · split
            · simp
            · simp only [List.length_cons]; omega
      have := this (perm x (tord k)) (turnsL x k)
      unfold turnsL
      omega
theorem turnsL_all {x : WV} (h : WOk x) (ht : x.tn = true) : turnsL x 5 = allL x := by
  refine allL_of h ht (turnsL_ok h 5).1 fun y => ?_
  simp only [turnsL, put_mem, tord, List.mem_singleton, rots, perm, List.mem_cons, List.not_mem_nil, or_false]
  constructor
  · rintro (h | h | h | h | h | h) <;> simp [h]
  · rintro (h | h | h | h | h | h) <;> simp [h]
def swpA (i k : Int) (a b c : Int) (p q r tn : Bool) : Option (Array Value) :=
  if i = 0 then (if k = 1 then some #[.int .i64 b, .int .i64 a, .int .i64 c, .bool q, .bool p, .bool r, .bool tn] else if k = 2 then some #[.int .i64 c, .int .i64 b, .int .i64 a, .bool r, .bool q, .bool p, .bool tn] else none)
  else if i = 1 ∧ k = 2 then some #[.int .i64 a, .int .i64 c, .int .i64 b, .bool p, .bool r, .bool q, .bool tn] else none
theorem swapped_to (a b c : Int) (p q r tn : Bool) (i k : Int) (v : Array Value) (hv : swpA i k a b c p q r tn = some v) (w : World) : Calls Tryz.prog 85 #[.agg #[.int .i64 a, .int .i64 b, .int .i64 c, .bool p, .bool q, .bool r, .bool tn], .int .i64 i, .int .i64 k] w fun e w' => e = .returned (.agg v) ∧ Below w.heap.size w w' := by
  unfold swpA at hv
  split at hv
  · rename_i hi
    subst hi
    split at hv
    · rename_i hk
      subst hk
      cases hv
      exact swapped01 a b c p q r tn w
    · split at hv
      · rename_i hk
        subst hk
        cases hv
        exact swapped02 a b c p q r tn w
      · cases hv
  · split at hv
    · rename_i hk
      obtain ⟨rfl, rfl⟩ := hk
      cases hv
      exact swapped12 a b c p q r tn w
    · cases hv
set_option maxRecDepth 100000 in
set_option maxHeartbeats 4000000 in
theorem turns_one (a b c : Int) (p q r : Bool) (w : World) : Calls Tryz.prog 71 #[.agg #[.int .i64 a, .int .i64 b, .int .i64 c, .bool p, .bool q, .bool r, .bool false]] w fun e w' => ∃ X c', e = .returned (.slice X 1 c') ∧ Has w' X [⟨a, b, c, p, q, r, false⟩] ∧ Below w.heap.size w w' := by
  go_enter Tryz.func71, Tryz.ntmps71
  go_wp2_with fail
  go_ret
  refine ⟨some ⟨w.heap.size + 1, 0, none⟩, 1, by simp, fun i x hi => ?_, below_alloc (below_alloc (Below.refl _ _))⟩
  match i, hi with
  | 0, hi =>
    simp at hi
    subst hi
    have kb : Blk ((w.alloc (.cells #[.int .i64 a, .int .i64 b, .int .i64 c, .bool p, .bool q, .bool r, .bool false] 30)).alloc (.cells #[.int .i64 a, .int .i64 b, .int .i64 c, .bool p, .bool q, .bool r, .bool false] 30)) (w.heap.size + 1) 30 #[.int .i64 a, .int .i64 b, .int .i64 c, .bool p, .bool q, .bool r, .bool false] := blk1 w _ _
    exact ⟨w.heap.size + 1, 0, rfl, by simp, kb.cell 0, kb.cell 1, kb.cell 2, kb.cell 3, kb.cell 4, kb.cell 5, kb.cell 6⟩
  | i + 1, hi => simp at hi
set_option maxRecDepth 100000 in
set_option maxHeartbeats 16000000 in
theorem turns_six (a b c : Int) (p q r : Bool) (h : WOk ⟨a, b, c, p, q, r, true⟩) (w : World) : Calls Tryz.prog 71 #[.agg #[.int .i64 a, .int .i64 b, .int .i64 c, .bool p, .bool q, .bool r, .bool true]] w fun e w' => ∃ X c', e = .returned (.slice X (allL ⟨a, b, c, p, q, r, true⟩).length c') ∧ Has w' X (allL ⟨a, b, c, p, q, r, true⟩) ∧ Below w.heap.size w w' := by
  have HH := Lib.hid h
  clear h
  go_enter Tryz.func71, Tryz.ntmps71
  go_upto_region 4 with fail
  have kx : Blk ((w.alloc (.cells #[.int .i64 a, .int .i64 b, .int .i64 c, .bool p, .bool q, .bool r, .bool true] 30)).alloc (.cells #[.int .i64 a, .int .i64 b, .int .i64 c, .bool p, .bool q, .bool r, .bool true] 30)) w.heap.size 30 #[.int .i64 a, .int .i64 b, .int .i64 c, .bool p, .bool q, .bool r, .bool true] := (Blk.new w _ _).alloc _
  have kr : Blk ((w.alloc (.cells #[.int .i64 a, .int .i64 b, .int .i64 c, .bool p, .bool q, .bool r, .bool true] 30)).alloc (.cells #[.int .i64 a, .int .i64 b, .int .i64 c, .bool p, .bool q, .bool r, .bool true] 30)) (w.heap.size + 1) 30 #[.int .i64 a, .int .i64 b, .int .i64 c, .bool p, .bool q, .bool r, .bool true] := blk1 w _ _
  have hb0 : Below w.heap.size w ((w.alloc (.cells #[.int .i64 a, .int .i64 b, .int .i64 c, .bool p, .bool q, .bool r, .bool true] 30)).alloc (.cells #[.int .i64 a, .int .i64 b, .int .i64 c, .bool p, .bool q, .bool r, .bool true] 30)) := below_alloc (below_alloc (Below.refl _ _))
  generalize ((w.alloc (.cells #[.int .i64 a, .int .i64 b, .int .i64 c, .bool p, .bool q, .bool r, .bool true] 30)).alloc (.cells #[.int .i64 a, .int .i64 b, .int .i64 c, .bool p, .bool q, .bool r, .bool true] 30)) = W0 at *
  have HK := Lib.hid (And.intro kx (And.intro kr hb0))
  have x0 : W0.cell? ⟨w.heap.size, 0, none⟩ = some (.int .i64 a) := kx.cell 0
  have x1 : W0.cell? ⟨w.heap.size, 1, none⟩ = some (.int .i64 b) := kx.cell 1
  have x2 : W0.cell? ⟨w.heap.size, 2, none⟩ = some (.int .i64 c) := kx.cell 2
  have x3 : W0.cell? ⟨w.heap.size, 3, none⟩ = some (.bool p) := kx.cell 3
  have x4 : W0.cell? ⟨w.heap.size, 4, none⟩ = some (.bool q) := kx.cell 4
  have x5 : W0.cell? ⟨w.heap.size, 5, none⟩ = some (.bool r) := kx.cell 5
  have x6 : W0.cell? ⟨w.heap.size, 6, none⟩ = some (.bool true) := kx.cell 6
  clear kx kr hb0
  go_cut [24, 25, 26] (fun s24 s25 s26 wx => ∃ g : Nat, s24 = .slice (some ⟨g, 0, none⟩) 5 5 ∧ s25 = .int .i64 5 ∧ s26 = .int .i64 0 ∧ Hid (Below W0.heap.size W0 wx) ∧ Hid (Blk wx g 30 #[.int .i64 b, .int .i64 a, .int .i64 c, .bool q, .bool p, .bool r, .bool true, .int .i64 c, .int .i64 b, .int .i64 a, .bool r, .bool q, .bool p, .bool true, .int .i64 a, .int .i64 c, .int .i64 b, .bool p, .bool r, .bool q, .bool true, .int .i64 b, .int .i64 c, .int .i64 a, .bool q, .bool r, .bool p, .bool true, .int .i64 c, .int .i64 a, .int .i64 b, .bool r, .bool p, .bool q, .bool true]))
  case first =>
    have K0 : KeptL W0 [(⟨w.heap.size, 0, none⟩, .int .i64 a), (⟨w.heap.size, 1, none⟩, .int .i64 b), (⟨w.heap.size, 2, none⟩, .int .i64 c), (⟨w.heap.size, 3, none⟩, .bool p), (⟨w.heap.size, 4, none⟩, .bool q), (⟨w.heap.size, 5, none⟩, .bool r), (⟨w.heap.size, 6, none⟩, .bool true)] _ := KeptL.drew (W := W0) ⟨Below.refl _ _, x0, x1, x2, x3, x4, x5, x6⟩
    go_region_held3 (fun W => Below W0.heap.size W0 W ∧ W.cell? ⟨w.heap.size, 0, none⟩ = some (.int .i64 a) ∧ W.cell? ⟨w.heap.size, 1, none⟩ = some (.int .i64 b) ∧ W.cell? ⟨w.heap.size, 2, none⟩ = some (.int .i64 c) ∧ W.cell? ⟨w.heap.size, 3, none⟩ = some (.bool p) ∧ W.cell? ⟨w.heap.size, 4, none⟩ = some (.bool q) ∧ W.cell? ⟨w.heap.size, 5, none⟩ = some (.bool r) ∧ W.cell? ⟨w.heap.size, 6, none⟩ = some (.bool true)) (first | exact K0 | exact KeptL.alloc (fs := [(⟨w.heap.size, 0, none⟩, .int .i64 a), (⟨w.heap.size, 1, none⟩, .int .i64 b), (⟨w.heap.size, 2, none⟩, .int .i64 c), (⟨w.heap.size, 3, none⟩, .bool p), (⟨w.heap.size, 4, none⟩, .bool q), (⟨w.heap.size, 5, none⟩, .bool r), (⟨w.heap.size, 6, none⟩, .bool true)]) (by assumption) _ | exact KeptL.up (fs := [(⟨w.heap.size, 0, none⟩, .int .i64 a), (⟨w.heap.size, 1, none⟩, .int .i64 b), (⟨w.heap.size, 2, none⟩, .int .i64 c), (⟨w.heap.size, 3, none⟩, .bool p), (⟨w.heap.size, 4, none⟩, .bool q), (⟨w.heap.size, 5, none⟩, .bool r), (⟨w.heap.size, 6, none⟩, .bool true)]) (by assumption) (by assumption) | assumption) (first | (go_at_call 85; refine Calls.mono (swapped_to _ _ _ _ _ _ _ _ _ _ (by rfl) _) ?_; rintro e w2 ⟨rfl, hB2⟩))
    all_goals
      go_wp2_with fail
      go_meet
      exact ⟨_, rfl, rfl, rfl, And.left (by assumption), Blk.new _ _ _⟩
  case rest =>
    obtain ⟨g, rfl, rfl, rfl, hBx, hkg⟩ := hcut
    clear x0 x1 x2 x3 x4 x5 x6
    have hh0 : Has wc (some ⟨w.heap.size + 1, 0, none⟩) (turnsL ⟨a, b, c, p, q, r, true⟩ 0) := fun i x hi => by
      match i, hi with
      | 0, hi =>
        simp [turnsL] at hi
        subst hi
        have kb := HK.out.2.1.below hBx.out HK.out.2.1.lt
        exact ⟨w.heap.size + 1, 0, rfl, kb.lt, kb.cell 0, kb.cell 1, kb.cell 2, kb.cell 3, kb.cell 4, kb.cell 5, kb.cell 6⟩
      | i + 1, hi => simp [turnsL] at hi
    have HH0 := Lib.hid hh0
    have HB0 := Lib.hid (below_up HK.out.2.2 hBx.out)
    clear hh0
    go_wp2_with fail
    go_loopw [26, 3] (fun i v wr => ∃ (k : Nat) (X : Option Addr) (c' : Nat), k ≤ 5 ∧ i = .int .i64 k ∧ v = .slice X (turnsL ⟨a, b, c, p, q, r, true⟩ k).length c' ∧ Hid (Has wr X (turnsL ⟨a, b, c, p, q, r, true⟩ k)) ∧ Hid (Below w.heap.size w wr) ∧ Hid (Blk wr g 30 #[.int .i64 b, .int .i64 a, .int .i64 c, .bool q, .bool p, .bool r, .bool true, .int .i64 c, .int .i64 b, .int .i64 a, .bool r, .bool q, .bool p, .bool true, .int .i64 a, .int .i64 c, .int .i64 b, .bool p, .bool r, .bool q, .bool true, .int .i64 b, .int .i64 c, .int .i64 a, .bool q, .bool r, .bool p, .bool true, .int .i64 c, .int .i64 a, .int .i64 b, .bool r, .bool p, .bool q, .bool true]))
      (fun i _ _ => 5 - (intOf i).toNat)
    case atStart => exact ⟨0, _, 1, by omega, rfl, rfl, HH0.out, HB0.out, hkg.out⟩
    case round =>
      obtain ⟨k, X, c', hk, rfl, rfl, hX, hB, hg⟩ := hrel
      clear HH0 HB0 hkg hBx
      have kg := hg.out
      have zg : g < wr.heap.size := kg.lt
      match k, hk with
      | 0, _ =>
        have e0 : wr.cell? ⟨g, 0, none⟩ = some (.int .i64 b) := kg.cell 0
        have e1 : wr.cell? ⟨g, 1, none⟩ = some (.int .i64 a) := kg.cell 1
        have e2 : wr.cell? ⟨g, 2, none⟩ = some (.int .i64 c) := kg.cell 2
        have e3 : wr.cell? ⟨g, 3, none⟩ = some (.bool q) := kg.cell 3
        have e4 : wr.cell? ⟨g, 4, none⟩ = some (.bool p) := kg.cell 4
        have e5 : wr.cell? ⟨g, 5, none⟩ = some (.bool r) := kg.cell 5
        have e6 : wr.cell? ⟨g, 6, none⟩ = some (.bool true) := kg.cell 6
        clear kg
        go_wp2_with fail
        have hst : Below wr.heap.size wr (wr.alloc (.cells #[.int .i64 b, .int .i64 a, .int .i64 c, .bool q, .bool p, .bool r, .bool true] 30)) := below_alloc (Below.refl _ _)
        refine (put_any X c' _ (perm ⟨a, b, c, p, q, r, true⟩ (tord 0)) (by have := (turnsL_ok HH.out 0).2.2; omega) (perm_ok HH.out _) (fun y hy => ⟨((turnsL_ok HH.out 0).2.1 y hy).1, ((turnsL_ok HH.out 0).2.1 y hy).2⟩) (turnsL_ok HH.out 0).1 _ (hX.out.up hst)).mono ?_
        rintro e w1 ⟨X1, c1, rfl, hh, hB1⟩
        have HR := Lib.hid (And.intro hh (And.intro (below_up hB.out (hst.trans (hB1.mono hst.size))) (hg.out.below (hst.trans (hB1.mono hst.size)) zg)))
        clear hst hh hB1 e0 e1 e2 e3 e4 e5 e6
        go_wp2_with fail
        go_roundw
        case rel => exact ⟨1, X1, c1, by omega, rfl, rfl, HR.out.1, HR.out.2.1, HR.out.2.2⟩
        case measure => simp [intOf]
      | 1, _ =>
        have e0 : wr.cell? ⟨g, 7, none⟩ = some (.int .i64 c) := kg.cell 7
        have e1 : wr.cell? ⟨g, 8, none⟩ = some (.int .i64 b) := kg.cell 8
        have e2 : wr.cell? ⟨g, 9, none⟩ = some (.int .i64 a) := kg.cell 9
        have e3 : wr.cell? ⟨g, 10, none⟩ = some (.bool r) := kg.cell 10
        have e4 : wr.cell? ⟨g, 11, none⟩ = some (.bool q) := kg.cell 11
        have e5 : wr.cell? ⟨g, 12, none⟩ = some (.bool p) := kg.cell 12
        have e6 : wr.cell? ⟨g, 13, none⟩ = some (.bool true) := kg.cell 13
        clear kg
        go_wp2_with fail
        have hst : Below wr.heap.size wr (wr.alloc (.cells #[.int .i64 c, .int .i64 b, .int .i64 a, .bool r, .bool q, .bool p, .bool true] 30)) := below_alloc (Below.refl _ _)
        refine (put_any X c' _ (perm ⟨a, b, c, p, q, r, true⟩ (tord 1)) (by have := (turnsL_ok HH.out 1).2.2; omega) (perm_ok HH.out _) (fun y hy => ⟨((turnsL_ok HH.out 1).2.1 y hy).1, ((turnsL_ok HH.out 1).2.1 y hy).2⟩) (turnsL_ok HH.out 1).1 _ (hX.out.up hst)).mono ?_
        rintro e w1 ⟨X1, c1, rfl, hh, hB1⟩
        have HR := Lib.hid (And.intro hh (And.intro (below_up hB.out (hst.trans (hB1.mono hst.size))) (hg.out.below (hst.trans (hB1.mono hst.size)) zg)))
        clear hst hh hB1 e0 e1 e2 e3 e4 e5 e6
        go_wp2_with fail
        go_roundw
        case rel => exact ⟨2, X1, c1, by omega, rfl, rfl, HR.out.1, HR.out.2.1, HR.out.2.2⟩
        case measure => simp [intOf]
      | 2, _ =>
        have e0 : wr.cell? ⟨g, 14, none⟩ = some (.int .i64 a) := kg.cell 14
        have e1 : wr.cell? ⟨g, 15, none⟩ = some (.int .i64 c) := kg.cell 15
        have e2 : wr.cell? ⟨g, 16, none⟩ = some (.int .i64 b) := kg.cell 16
        have e3 : wr.cell? ⟨g, 17, none⟩ = some (.bool p) := kg.cell 17
        have e4 : wr.cell? ⟨g, 18, none⟩ = some (.bool r) := kg.cell 18
        have e5 : wr.cell? ⟨g, 19, none⟩ = some (.bool q) := kg.cell 19
        have e6 : wr.cell? ⟨g, 20, none⟩ = some (.bool true) := kg.cell 20
        clear kg
        go_wp2_with fail
        have hst : Below wr.heap.size wr (wr.alloc (.cells #[.int .i64 a, .int .i64 c, .int .i64 b, .bool p, .bool r, .bool q, .bool true] 30)) := below_alloc (Below.refl _ _)
        refine (put_any X c' _ (perm ⟨a, b, c, p, q, r, true⟩ (tord 2)) (by have := (turnsL_ok HH.out 2).2.2; omega) (perm_ok HH.out _) (fun y hy => ⟨((turnsL_ok HH.out 2).2.1 y hy).1, ((turnsL_ok HH.out 2).2.1 y hy).2⟩) (turnsL_ok HH.out 2).1 _ (hX.out.up hst)).mono ?_
        rintro e w1 ⟨X1, c1, rfl, hh, hB1⟩
        have HR := Lib.hid (And.intro hh (And.intro (below_up hB.out (hst.trans (hB1.mono hst.size))) (hg.out.below (hst.trans (hB1.mono hst.size)) zg)))
        clear hst hh hB1 e0 e1 e2 e3 e4 e5 e6
        go_wp2_with fail
        go_roundw
        case rel => exact ⟨3, X1, c1, by omega, rfl, rfl, HR.out.1, HR.out.2.1, HR.out.2.2⟩
        case measure => simp [intOf]
      | 3, _ =>
        have e0 : wr.cell? ⟨g, 21, none⟩ = some (.int .i64 b) := kg.cell 21
        have e1 : wr.cell? ⟨g, 22, none⟩ = some (.int .i64 c) := kg.cell 22
        have e2 : wr.cell? ⟨g, 23, none⟩ = some (.int .i64 a) := kg.cell 23
        have e3 : wr.cell? ⟨g, 24, none⟩ = some (.bool q) := kg.cell 24
        have e4 : wr.cell? ⟨g, 25, none⟩ = some (.bool r) := kg.cell 25
        have e5 : wr.cell? ⟨g, 26, none⟩ = some (.bool p) := kg.cell 26
        have e6 : wr.cell? ⟨g, 27, none⟩ = some (.bool true) := kg.cell 27
        clear kg
        go_wp2_with fail
        have hst : Below wr.heap.size wr (wr.alloc (.cells #[.int .i64 b, .int .i64 c, .int .i64 a, .bool q, .bool r, .bool p, .bool true] 30)) := below_alloc (Below.refl _ _)
        refine (put_any X c' _ (perm ⟨a, b, c, p, q, r, true⟩ (tord 3)) (by have := (turnsL_ok HH.out 3).2.2; omega) (perm_ok HH.out _) (fun y hy => ⟨((turnsL_ok HH.out 3).2.1 y hy).1, ((turnsL_ok HH.out 3).2.1 y hy).2⟩) (turnsL_ok HH.out 3).1 _ (hX.out.up hst)).mono ?_
        rintro e w1 ⟨X1, c1, rfl, hh, hB1⟩
        have HR := Lib.hid (And.intro hh (And.intro (below_up hB.out (hst.trans (hB1.mono hst.size))) (hg.out.below (hst.trans (hB1.mono hst.size)) zg)))
        clear hst hh hB1 e0 e1 e2 e3 e4 e5 e6
        go_wp2_with fail
        go_roundw
        case rel => exact ⟨4, X1, c1, by omega, rfl, rfl, HR.out.1, HR.out.2.1, HR.out.2.2⟩
        case measure => simp [intOf]
      | 4, _ =>
        have e0 : wr.cell? ⟨g, 28, none⟩ = some (.int .i64 c) := kg.cell 28
        have e1 : wr.cell? ⟨g, 29, none⟩ = some (.int .i64 a) := kg.cell 29
        have e2 : wr.cell? ⟨g, 30, none⟩ = some (.int .i64 b) := kg.cell 30
        have e3 : wr.cell? ⟨g, 31, none⟩ = some (.bool r) := kg.cell 31
        have e4 : wr.cell? ⟨g, 32, none⟩ = some (.bool p) := kg.cell 32
        have e5 : wr.cell? ⟨g, 33, none⟩ = some (.bool q) := kg.cell 33
        have e6 : wr.cell? ⟨g, 34, none⟩ = some (.bool true) := kg.cell 34
        clear kg
        go_wp2_with fail
        have hst : Below wr.heap.size wr (wr.alloc (.cells #[.int .i64 c, .int .i64 a, .int .i64 b, .bool r, .bool p, .bool q, .bool true] 30)) := below_alloc (Below.refl _ _)
        refine (put_any X c' _ (perm ⟨a, b, c, p, q, r, true⟩ (tord 4)) (by have := (turnsL_ok HH.out 4).2.2; omega) (perm_ok HH.out _) (fun y hy => ⟨((turnsL_ok HH.out 4).2.1 y hy).1, ((turnsL_ok HH.out 4).2.1 y hy).2⟩) (turnsL_ok HH.out 4).1 _ (hX.out.up hst)).mono ?_
        rintro e w1 ⟨X1, c1, rfl, hh, hB1⟩
        have HR := Lib.hid (And.intro hh (And.intro (below_up hB.out (hst.trans (hB1.mono hst.size))) (hg.out.below (hst.trans (hB1.mono hst.size)) zg)))
        clear hst hh hB1 e0 e1 e2 e3 e4 e5 e6
        go_wp2_with fail
        go_roundw
        case rel => exact ⟨5, X1, c1, by omega, rfl, rfl, HR.out.1, HR.out.2.1, HR.out.2.2⟩
        case measure => simp [intOf]
      | 5, _ =>
        clear kg
        go_wp2_with fail
        go_ret
        rw [← turnsL_all HH.out rfl]
        exact ⟨X, ⟨c', rfl⟩, hX.out, hB.out⟩
end Go.Proofs.YtfpljpdjohmbaaaGreat.TurnTurns
/-! The reference's Turns, of all wants that may be; its Within; and Fits: for all wants and dimensions. -/
namespace Go.Proofs.YtfpljpdjohmbaaaGreat.TurnRFits
open Go.Sort (grow)
open Go.RowKit Mem SeqKit PosMath PosCheck TurnMath TurnWalks TurnMap TurnAppend TurnSorted TurnAll TurnFitsV TurnRef TurnPut TurnTurns
set_option linter.unusedVariables false
set_option linter.unusedSimpArgs false

theorem turns_any (x : WV) (h : WOk x) (w : World) : Calls Tryz.prog 71 #[.agg x.arr] w fun e w' => ∃ X c', e = .returned (.slice X (allL x).length c') ∧ Has w' X (allL x) ∧ Below w.heap.size w w' := by
  obtain ⟨a, b, c, p, q, r, tn⟩ := x
  cases tn
  · have e : allL ⟨a, b, c, p, q, r, false⟩ = [⟨a, b, c, p, q, r, false⟩] := by unfold allL; simp
    rw [e]
    exact turns_one a b c p q r w
  · exact turns_six a b c p q r h w
theorem rwithin (d0 d1 d2 a b c : Int) (z : Bool) (h : (decide (a ≤ d0) && decide (b ≤ d1) && decide (c ≤ d2)) = z) (w : World) :
    Calls Tryz.prog 72 #[.agg #[.int .i64 d0, .int .i64 d1, .int .i64 d2], .agg #[.int .i64 a, .int .i64 b, .int .i64 c]] w fun e w' => e = .returned (.bool z) ∧ Below w.heap.size w w' := by
  by_cases h0 : a ≤ d0
  · by_cases h1 : b ≤ d1
    · by_cases h2 : c ≤ d2
      · obtain rfl : z = true := by rw [← h]; simp [h0, h1, h2]
        clear h
        go_enter Tryz.func72, Tryz.ntmps72
        go_wp2_with fail
        go_ret
        exact ⟨rfl, below_alloc (below_alloc (Below.refl _ _))⟩
      · obtain rfl : z = false := by rw [← h]; simp [h2]
        clear h
        go_enter Tryz.func72, Tryz.ntmps72
        go_wp2_with fail
        go_ret
        exact ⟨rfl, below_alloc (below_alloc (Below.refl _ _))⟩
    · obtain rfl : z = false := by rw [← h]; simp [h1]
      clear h
      go_enter Tryz.func72, Tryz.ntmps72
      go_wp2_with fail
      go_ret
      exact ⟨rfl, below_alloc (below_alloc (Below.refl _ _))⟩
  · obtain rfl : z = false := by rw [← h]; simp [h0]
    clear h
    go_enter Tryz.func72, Tryz.ntmps72
    go_wp2_with fail
    go_ret
    exact ⟨rfl, below_alloc (below_alloc (Below.refl _ _))⟩
theorem rfits_dims (d0 d1 d2 : Int) (x : WV) (h : ¬ May d0 d1 d2) (w : World) :
    Calls Tryz.prog 50 #[.agg #[.int .i64 d0, .int .i64 d1, .int .i64 d2], .agg x.arr] w fun e w' => e = .returned (.tuple #[.bool false, .int .i64 8]) ∧ Below w.heap.size w w' := by
  have HH := Lib.hid h
  clear h
  unfold WV.arr
  go_enter Tryz.func50, Tryz.ntmps50
  go_wp2_with fail
  refine (may_bad d0 d1 d2 HH.out _).mono ?_
  rintro e w1 ⟨rfl, hB1⟩
  have HB1 := Lib.hid (below_up (below_alloc (below_alloc (Below.refl _ w))) hB1)
  clear hB1
  go_wp2_with fail
  go_ret2
  exact ⟨rfl, HB1.out⟩
theorem rfits_bad (d0 d1 d2 : Int) (x : WV) (h : May d0 d1 d2) (h2 : ¬ WOk x) (w : World) :
    Calls Tryz.prog 50 #[.agg #[.int .i64 d0, .int .i64 d1, .int .i64 d2], .agg x.arr] w fun e w' => e = .returned (.tuple #[.bool false, .int .i64 8]) ∧ Below w.heap.size w w' := by
  have HH := Lib.hid h
  have H2 := Lib.hid h2
  clear h h2
  unfold WV.arr
  go_enter Tryz.func50, Tryz.ntmps50
  go_wp2_with fail
  refine (may_ok d0 d1 d2 HH.out _).mono ?_
  rintro e w1 ⟨rfl, hB1⟩
  have kd : Blk w1 w.heap.size 23 #[.int .i64 d0, .int .i64 d1, .int .i64 d2] := ((Blk.new w _ _).alloc _).below hB1 (by simp; omega)
  have kx : Blk w1 (w.heap.size + 1) 30 #[.int .i64 x.a, .int .i64 x.b, .int .i64 x.c, .bool x.p, .bool x.q, .bool x.r, .bool x.tn] := (blk1 w _ _).below hB1 (by simp)
  have x0 : w1.cell? ⟨w.heap.size + 1, 0, none⟩ = some (.int .i64 x.a) := kx.cell 0
  have x1 : w1.cell? ⟨w.heap.size + 1, 1, none⟩ = some (.int .i64 x.b) := kx.cell 1
  have x2 : w1.cell? ⟨w.heap.size + 1, 2, none⟩ = some (.int .i64 x.c) := kx.cell 2
  have x3 : w1.cell? ⟨w.heap.size + 1, 3, none⟩ = some (.bool x.p) := kx.cell 3
  have x4 : w1.cell? ⟨w.heap.size + 1, 4, none⟩ = some (.bool x.q) := kx.cell 4
  have x5 : w1.cell? ⟨w.heap.size + 1, 5, none⟩ = some (.bool x.r) := kx.cell 5
  have x6 : w1.cell? ⟨w.heap.size + 1, 6, none⟩ = some (.bool x.tn) := kx.cell 6
  have HB1 := Lib.hid (below_up (below_alloc (below_alloc (Below.refl _ w))) hB1)
  have KD := Lib.hid kd
  clear kd
  clear hB1 kx
  go_wp2_with fail
  refine (wmay_bad _ _ _ _ _ _ _ H2.out _).mono ?_
  rintro e w2 ⟨rfl, hB2⟩
  have HB2 := Lib.hid (below_up HB1.out hB2)
  clear hB2 x0 x1 x2 x3 x4 x5 x6
  go_wp2_with fail
  go_ret2
  exact ⟨rfl, HB2.out⟩
set_option maxRecDepth 100000 in
set_option maxHeartbeats 4000000 in
theorem rfits_ok (d0 d1 d2 : Int) (x : WV) (h : May d0 d1 d2) (h2 : WOk x) (w : World) :
    Calls Tryz.prog 50 #[.agg #[.int .i64 d0, .int .i64 d1, .int .i64 d2], .agg x.arr] w fun e w' => e = .returned (.tuple #[.bool ((allL x).any (fitB d0 d1 d2)), .int .i64 0]) ∧ Below w.heap.size w w' := by
  have HH := Lib.hid h
  have H2 := Lib.hid h2
  have HT := Lib.hid (turns_any x h2)
  obtain ⟨V, hV⟩ : ∃ V, V = (allL x).any (fitB d0 d1 d2) := ⟨_, rfl⟩
  rw [← hV]
  have HV := Lib.hid hV
  have hlen := allL_len (x := x)
  clear h h2 hV
  unfold WV.arr at HT ⊢
  go_enter Tryz.func50, Tryz.ntmps50
  go_wp2_with fail
  refine (may_ok d0 d1 d2 HH.out _).mono ?_
  rintro e w1 ⟨rfl, hB1⟩
  have kd : Blk w1 w.heap.size 23 #[.int .i64 d0, .int .i64 d1, .int .i64 d2] := ((Blk.new w _ _).alloc _).below hB1 (by simp; omega)
  have kx : Blk w1 (w.heap.size + 1) 30 #[.int .i64 x.a, .int .i64 x.b, .int .i64 x.c, .bool x.p, .bool x.q, .bool x.r, .bool x.tn] := (blk1 w _ _).below hB1 (by simp)
  have x0 : w1.cell? ⟨w.heap.size + 1, 0, none⟩ = some (.int .i64 x.a) := kx.cell 0
  have x1 : w1.cell? ⟨w.heap.size + 1, 1, none⟩ = some (.int .i64 x.b) := kx.cell 1
  have x2 : w1.cell? ⟨w.heap.size + 1, 2, none⟩ = some (.int .i64 x.c) := kx.cell 2
  have x3 : w1.cell? ⟨w.heap.size + 1, 3, none⟩ = some (.bool x.p) := kx.cell 3
  have x4 : w1.cell? ⟨w.heap.size + 1, 4, none⟩ = some (.bool x.q) := kx.cell 4
  have x5 : w1.cell? ⟨w.heap.size + 1, 5, none⟩ = some (.bool x.r) := kx.cell 5
  have x6 : w1.cell? ⟨w.heap.size + 1, 6, none⟩ = some (.bool x.tn) := kx.cell 6
  have HB1 := Lib.hid (below_up (below_alloc (below_alloc (Below.refl _ w))) hB1)
  have KD := Lib.hid kd
  clear kd
  have KX := Lib.hid kx
  clear hB1 kx
  go_wp2_with fail
  refine (wmay_ok _ _ _ _ _ _ _ H2.out _).mono ?_
  rintro e w2 ⟨rfl, hB2⟩
  have x0 := keep_cell x0 hB2
  have x1 := keep_cell x1 hB2
  have x2 := keep_cell x2 hB2
  have x3 := keep_cell x3 hB2
  have x4 := keep_cell x4 hB2
  have x5 := keep_cell x5 hB2
  have x6 := keep_cell x6 hB2
  have HB2 := Lib.hid (below_up HB1.out hB2)
  have KD2 := Lib.hid (KD.out.below hB2 KD.out.lt)
  clear hB2 KD KX HB1
  go_wp2_with fail
  refine (HT.out _).mono ?_
  rintro e w3 ⟨X, c, rfl, hh, hB3⟩
  have HX := Lib.hid hh
  have HB3 := Lib.hid (below_up HB2.out hB3)
  have KD3 := Lib.hid (KD2.out.below hB3 KD2.out.lt)
  clear hB3 hh KD2 HB2 x0 x1 x2 x3 x4 x5 x6 HT
  generalize hl : allL x = l at HX hlen HV
  have HL := Lib.hid hl
  clear hl
  go_wp2_with fail
  go_loopw [7] (fun i wr => ∃ k : Nat, k ≤ l.length ∧ i = .int .i64 k ∧ Hid (∀ j x, j < k → l[j]? = some x → fitB d0 d1 d2 x = false) ∧ Hid (Below w.heap.size w wr) ∧ Hid (Has wr X l) ∧ Hid (Blk wr w.heap.size 23 #[.int .i64 d0, .int .i64 d1, .int .i64 d2]))
    (fun i _ => l.length - (intOf i).toNat)
  case atStart => exact ⟨0, Nat.zero_le _, rfl, fun j x h => by omega, HB3.out, HX.out, KD3.out⟩
  case round =>
    obtain ⟨k, hk, rfl, hP, hB, hX, hD⟩ := hrel
    clear HB3 HX KD3
    by_cases hlt : k < l.length
    · have hg : l[k]? = some l[k] := List.getElem?_eq_getElem hlt
      generalize l[k] = y at hg
      have hki : (k : Int) < (l.length : Int) := by omega
      obtain ⟨b, o, rfl, hb, y0, y1, y2, y3, y4, y5, y6⟩ := hX.out k y hg
      have kd := hD.out
      have d_0 : wr.cell? ⟨w.heap.size, 0, none⟩ = some (.int .i64 d0) := kd.cell 0
      have d_1 : wr.cell? ⟨w.heap.size, 1, none⟩ = some (.int .i64 d1) := kd.cell 1
      have d_2 : wr.cell? ⟨w.heap.size, 2, none⟩ = some (.int .i64 d2) := kd.cell 2
      have k0 := cell_regrown y0
      have k1 := cell_regrown y1
      have k2 := cell_regrown y2
      have k3 := cell_regrown d_0
      have k4 := cell_regrown d_1
      have k5 := cell_regrown d_2
      have HG := Lib.hid hg
      clear hg kd
      cases hf : fitB d0 d1 d2 y
      · have hz : (decide (y.a ≤ d0) && decide (y.b ≤ d1) && decide (y.c ≤ d2)) = false := hf
        have HZ := Lib.hid hz
        clear hf hz
        go_wp2_with fail
        refine wp_region_quiet_below (by kernel_rfl) (by kernel_rfl) ?_
        repeat (go_big_quiet_step (first | exact Calls.regrown_of (rwithin _ _ _ _ _ _ _ HZ.out _)))
        refine wpQuiet_nil ?_
        intro _ hw'
        obtain ⟨⟨dq, osq⟩, hw''⟩ := hw'
        subst hw''
        have hB8 := below_regrown wr dq osq
        have B8 := Lib.hid (below_up hB.out hB8)
        have D8 := Lib.hid (hD.out.below hB8 hD.out.lt)
        have X8 := Lib.hid (hX.out.up hB8)
        generalize grow (redrawn wr dq) osq = w8 at *
        clear hB8 hB hD hX y0 y1 y2 y3 y4 y5 y6 d_0 d_1 d_2 k0 k1 k2 k3 k4 k5
        go_wp2_with fail
        go_roundw
        case rel => exact ⟨k + 1, by omega, by go_num, (fun j z hj hz => by
            rcases Nat.lt_or_ge j k with h | h
            · exact hP.out j z h hz
            · obtain rfl : j = k := by omega
              rw [HG.out] at hz; cases hz; exact HZ.out), B8.out, X8.out, D8.out⟩
        case measure => simp [intOf]; omega
      · have hz : (decide (y.a ≤ d0) && decide (y.b ≤ d1) && decide (y.c ≤ d2)) = true := hf
        have HZ := Lib.hid hz
        clear hf hz
        go_wp2_with fail
        refine wp_region_quiet_below (by kernel_rfl) (by kernel_rfl) ?_
        repeat (go_big_quiet_step (first | exact Calls.regrown_of (rwithin _ _ _ _ _ _ _ HZ.out _)))
        refine wpQuiet_nil ?_
        intro _ hw'
        obtain ⟨⟨dq, osq⟩, hw''⟩ := hw'
        subst hw''
        have hB8 := below_regrown wr dq osq
        have B8 := Lib.hid (below_up hB.out hB8)
        have D8 := Lib.hid (hD.out.below hB8 hD.out.lt)
        have X8 := Lib.hid (hX.out.up hB8)
        generalize grow (redrawn wr dq) osq = w8 at *
        clear hB8 hB hD hX y0 y1 y2 y3 y4 y5 y6 d_0 d_1 d_2 k0 k1 k2 k3 k4 k5
        go_wp2_with fail
        go_ret2
        have ev : V = true := by
          rw [HV.out]
          exact List.any_eq_true.2 ⟨y, List.mem_of_getElem? HG.out, HZ.out⟩
        rw [ev]
        exact ⟨rfl, B8.out⟩
    · obtain rfl : k = l.length := by omega
      go_wp2_with fail
      go_ret2
      have ev : V = false := by
        rw [HV.out, List.any_eq_false]
        intro x hx
        obtain ⟨j, hj, e⟩ := List.mem_iff_getElem.1 hx
        simp [hP.out j x hj (by rw [List.getElem?_eq_getElem hj, e])]
      rw [ev]
      exact ⟨rfl, hB.out⟩
theorem rfits_any (d0 d1 d2 : Int) (x : WV) (w : World) :
    Calls Tryz.prog 50 #[.agg #[.int .i64 d0, .int .i64 d1, .int .i64 d2], .agg x.arr] w fun e w' => e = .returned (.tuple #[.bool (fitsV d0 d1 d2 x).1, .int .i64 (fitsV d0 d1 d2 x).2]) ∧ Below w.heap.size w w' := by
  by_cases h : May d0 d1 d2
  · by_cases h2 : WOk x
    · have ev : fitsV d0 d1 d2 x = ((allL x).any (fitB d0 d1 d2), 0) := if_pos ⟨h, h2⟩
      rw [ev]
      exact rfits_ok d0 d1 d2 x h h2 w
    · have ev : fitsV d0 d1 d2 x = (false, 8) := if_neg fun h' => h2 h'.2
      rw [ev]
      exact rfits_bad d0 d1 d2 x h h2 w
  · have ev : fitsV d0 d1 d2 x = (false, 8) := if_neg fun h' => h h'.1
    rw [ev]
    exact rfits_dims d0 d1 d2 x h w
end Go.Proofs.YtfpljpdjohmbaaaGreat.TurnRFits
