/- The reference's Turns: the rotations, rising. -/
import Derived.BigRegion
import Derived.BigQuiet
import Derived.Deep.RegionHeld3
import Derived.Lib.QuietBelow
import Derived.Deep.QuietTactic
import Derived.Deep.DeepCutAuto
import Derived.Test.YtaldgmmmcbikgaaTurnPut
namespace Go.Proofs.Ytaldgmmmcbikgaa.TurnTurns
open Go.Sort (grow)
open Go.RowKit Mem SeqKit PosMath PosCheck TurnMath TurnWalks TurnMap TurnAppend TurnSorted TurnAll TurnFitsV TurnRef TurnPut
set_option linter.unusedVariables false
set_option linter.unusedSimpArgs false

def tord : Nat → Nat
  | 0 => 2
  | 1 => 5
  | 2 => 1
  | 3 => 3
  | _ => 4
def turnsL (x : WV) : Nat → List WV
  | 0 => [x]
  | k + 1 => put (perm x (tord k)) (turnsL x k)
theorem turnsL_ok {x : WV} (h : WOk x) : ∀ k, Rising (turnsL x k) ∧ (∀ y ∈ turnsL x k, WOk y ∧ y.tn = x.tn) ∧ (turnsL x k).length ≤ k + 1
  | 0 => ⟨by simp [turnsL, Rising], fun y hy => by simp [turnsL] at hy; subst hy; exact ⟨h, rfl⟩, by simp [turnsL]⟩
  | k + 1 => by
    obtain ⟨h1, h2, h3⟩ := turnsL_ok h k
    have hp := perm_ok h (tord k)
    have ht := perm_tn x (tord k)
    refine ⟨put_rising hp h1 fun z hz => ⟨(h2 z hz).1, (h2 z hz).2.trans ht.symm⟩, fun y hy => ?_, ?_⟩
    · rcases put_mem.1 hy with e | e
      · rw [e]; exact ⟨hp, ht⟩
      · exact h2 y e
    · have : ∀ (z : WV) (l : List WV), (put z l).length ≤ l.length + 1 := by
        intro z l
        induction l with
        | nil => simp [put]
        | cons y l ih =>
          unfold put
          split
          · simp
          · split
            · simp
            · simp only [List.length_cons]; omega
      have := this (perm x (tord k)) (turnsL x k)
      unfold turnsL
      omega
theorem turnsL_all {x : WV} (h : WOk x) (ht : x.tn = true) : turnsL x 5 = allL x := by
  refine allL_of h ht (turnsL_ok h 5).1 fun y => ?_
  simp only [turnsL, put_mem, tord, List.mem_singleton, rots, perm, List.mem_cons, List.not_mem_nil, or_false]
  constructor
  · rintro (h | h | h | h | h | h) <;> simp [h]
  · rintro (h | h | h | h | h | h) <;> simp [h]
def swpA (i k : Int) (a b c : Int) (p q r tn : Bool) : Option (Array Value) :=
  if i = 0 then (if k = 1 then some #[.int .i64 b, .int .i64 a, .int .i64 c, .bool q, .bool p, .bool r, .bool tn] else if k = 2 then some #[.int .i64 c, .int .i64 b, .int .i64 a, .bool r, .bool q, .bool p, .bool tn] else none)
  else if i = 1 ∧ k = 2 then some #[.int .i64 a, .int .i64 c, .int .i64 b, .bool p, .bool r, .bool q, .bool tn] else none
theorem swapped_to (a b c : Int) (p q r tn : Bool) (i k : Int) (v : Array Value) (hv : swpA i k a b c p q r tn = some v) (w : World) : Calls Try.prog 83 #[.agg #[.int .i64 a, .int .i64 b, .int .i64 c, .bool p, .bool q, .bool r, .bool tn], .int .i64 i, .int .i64 k] w fun e w' => e = .returned (.agg v) ∧ Below w.heap.size w w' := by
  unfold swpA at hv
  split at hv
  · rename_i hi
    subst hi
    split at hv
    · rename_i hk
      subst hk
      cases hv
      exact swapped01 a b c p q r tn w
    · split at hv
      · rename_i hk
        subst hk
        cases hv
        exact swapped02 a b c p q r tn w
      · cases hv
  · split at hv
    · rename_i hk
      obtain ⟨rfl, rfl⟩ := hk
      cases hv
      exact swapped12 a b c p q r tn w
    · cases hv
set_option maxRecDepth 100000 in
set_option maxHeartbeats 4000000 in
theorem turns_one (a b c : Int) (p q r : Bool) (w : World) : Calls Try.prog 73 #[.agg #[.int .i64 a, .int .i64 b, .int .i64 c, .bool p, .bool q, .bool r, .bool false]] w fun e w' => ∃ X c', e = .returned (.slice X 1 c') ∧ Has w' X [⟨a, b, c, p, q, r, false⟩] ∧ Below w.heap.size w w' := by
  go_enter Try.func73, Try.ntmps73
  go_wp2_with fail
  go_ret
  refine ⟨some ⟨w.heap.size + 1, 0, none⟩, 1, by simp, fun i x hi => ?_, below_alloc (below_alloc (Below.refl _ _))⟩
  match i, hi with
  | 0, hi =>
    simp at hi
    subst hi
    have kb : Blk ((w.alloc (.cells #[.int .i64 a, .int .i64 b, .int .i64 c, .bool p, .bool q, .bool r, .bool false] 30)).alloc (.cells #[.int .i64 a, .int .i64 b, .int .i64 c, .bool p, .bool q, .bool r, .bool false] 30)) (w.heap.size + 1) 30 #[.int .i64 a, .int .i64 b, .int .i64 c, .bool p, .bool q, .bool r, .bool false] := blk1 w _ _
    exact ⟨w.heap.size + 1, 0, rfl, by simp, kb.cell 0, kb.cell 1, kb.cell 2, kb.cell 3, kb.cell 4, kb.cell 5, kb.cell 6⟩
  | i + 1, hi => simp at hi
set_option maxRecDepth 100000 in
set_option maxHeartbeats 16000000 in
theorem turns_six (a b c : Int) (p q r : Bool) (h : WOk ⟨a, b, c, p, q, r, true⟩) (w : World) : Calls Try.prog 73 #[.agg #[.int .i64 a, .int .i64 b, .int .i64 c, .bool p, .bool q, .bool r, .bool true]] w fun e w' => ∃ X c', e = .returned (.slice X (allL ⟨a, b, c, p, q, r, true⟩).length c') ∧ Has w' X (allL ⟨a, b, c, p, q, r, true⟩) ∧ Below w.heap.size w w' := by
  have HH := Lib.hid h
  clear h
  go_enter Try.func73, Try.ntmps73
  go_upto_region 4 with fail
  have kx : Blk ((w.alloc (.cells #[.int .i64 a, .int .i64 b, .int .i64 c, .bool p, .bool q, .bool r, .bool true] 30)).alloc (.cells #[.int .i64 a, .int .i64 b, .int .i64 c, .bool p, .bool q, .bool r, .bool true] 30)) w.heap.size 30 #[.int .i64 a, .int .i64 b, .int .i64 c, .bool p, .bool q, .bool r, .bool true] := (Blk.new w _ _).alloc _
  have kr : Blk ((w.alloc (.cells #[.int .i64 a, .int .i64 b, .int .i64 c, .bool p, .bool q, .bool r, .bool true] 30)).alloc (.cells #[.int .i64 a, .int .i64 b, .int .i64 c, .bool p, .bool q, .bool r, .bool true] 30)) (w.heap.size + 1) 30 #[.int .i64 a, .int .i64 b, .int .i64 c, .bool p, .bool q, .bool r, .bool true] := blk1 w _ _
  have hb0 : Below w.heap.size w ((w.alloc (.cells #[.int .i64 a, .int .i64 b, .int .i64 c, .bool p, .bool q, .bool r, .bool true] 30)).alloc (.cells #[.int .i64 a, .int .i64 b, .int .i64 c, .bool p, .bool q, .bool r, .bool true] 30)) := below_alloc (below_alloc (Below.refl _ _))
  generalize ((w.alloc (.cells #[.int .i64 a, .int .i64 b, .int .i64 c, .bool p, .bool q, .bool r, .bool true] 30)).alloc (.cells #[.int .i64 a, .int .i64 b, .int .i64 c, .bool p, .bool q, .bool r, .bool true] 30)) = W0 at *
  have HK := Lib.hid (And.intro kx (And.intro kr hb0))
  have x0 : W0.cell? ⟨w.heap.size, 0, none⟩ = some (.int .i64 a) := kx.cell 0
  have x1 : W0.cell? ⟨w.heap.size, 1, none⟩ = some (.int .i64 b) := kx.cell 1
  have x2 : W0.cell? ⟨w.heap.size, 2, none⟩ = some (.int .i64 c) := kx.cell 2
  have x3 : W0.cell? ⟨w.heap.size, 3, none⟩ = some (.bool p) := kx.cell 3
  have x4 : W0.cell? ⟨w.heap.size, 4, none⟩ = some (.bool q) := kx.cell 4
  have x5 : W0.cell? ⟨w.heap.size, 5, none⟩ = some (.bool r) := kx.cell 5
  have x6 : W0.cell? ⟨w.heap.size, 6, none⟩ = some (.bool true) := kx.cell 6
  clear kx kr hb0
  go_cut [24, 25, 26] (fun s24 s25 s26 wx => ∃ g : Nat, s24 = .slice (some ⟨g, 0, none⟩) 5 5 ∧ s25 = .int .i64 5 ∧ s26 = .int .i64 0 ∧ Hid (Below W0.heap.size W0 wx) ∧ Hid (Blk wx g 30 #[.int .i64 b, .int .i64 a, .int .i64 c, .bool q, .bool p, .bool r, .bool true, .int .i64 c, .int .i64 b, .int .i64 a, .bool r, .bool q, .bool p, .bool true, .int .i64 a, .int .i64 c, .int .i64 b, .bool p, .bool r, .bool q, .bool true, .int .i64 b, .int .i64 c, .int .i64 a, .bool q, .bool r, .bool p, .bool true, .int .i64 c, .int .i64 a, .int .i64 b, .bool r, .bool p, .bool q, .bool true]))
  case first =>
    have K0 : KeptL W0 [(⟨w.heap.size, 0, none⟩, .int .i64 a), (⟨w.heap.size, 1, none⟩, .int .i64 b), (⟨w.heap.size, 2, none⟩, .int .i64 c), (⟨w.heap.size, 3, none⟩, .bool p), (⟨w.heap.size, 4, none⟩, .bool q), (⟨w.heap.size, 5, none⟩, .bool r), (⟨w.heap.size, 6, none⟩, .bool true)] _ := KeptL.drew (W := W0) ⟨Below.refl _ _, x0, x1, x2, x3, x4, x5, x6⟩
    go_region_held3 (fun W => Below W0.heap.size W0 W ∧ W.cell? ⟨w.heap.size, 0, none⟩ = some (.int .i64 a) ∧ W.cell? ⟨w.heap.size, 1, none⟩ = some (.int .i64 b) ∧ W.cell? ⟨w.heap.size, 2, none⟩ = some (.int .i64 c) ∧ W.cell? ⟨w.heap.size, 3, none⟩ = some (.bool p) ∧ W.cell? ⟨w.heap.size, 4, none⟩ = some (.bool q) ∧ W.cell? ⟨w.heap.size, 5, none⟩ = some (.bool r) ∧ W.cell? ⟨w.heap.size, 6, none⟩ = some (.bool true)) (first | exact K0 | exact KeptL.alloc (fs := [(⟨w.heap.size, 0, none⟩, .int .i64 a), (⟨w.heap.size, 1, none⟩, .int .i64 b), (⟨w.heap.size, 2, none⟩, .int .i64 c), (⟨w.heap.size, 3, none⟩, .bool p), (⟨w.heap.size, 4, none⟩, .bool q), (⟨w.heap.size, 5, none⟩, .bool r), (⟨w.heap.size, 6, none⟩, .bool true)]) (by assumption) _ | exact KeptL.up (fs := [(⟨w.heap.size, 0, none⟩, .int .i64 a), (⟨w.heap.size, 1, none⟩, .int .i64 b), (⟨w.heap.size, 2, none⟩, .int .i64 c), (⟨w.heap.size, 3, none⟩, .bool p), (⟨w.heap.size, 4, none⟩, .bool q), (⟨w.heap.size, 5, none⟩, .bool r), (⟨w.heap.size, 6, none⟩, .bool true)]) (by assumption) (by assumption) | assumption) (first | (go_at_call 83; refine Calls.mono (swapped_to _ _ _ _ _ _ _ _ _ _ (by rfl) _) ?_; rintro e w2 ⟨rfl, hB2⟩))
    all_goals
      go_wp2_with fail
      go_meet
      exact ⟨_, rfl, rfl, rfl, And.left (by assumption), Blk.new _ _ _⟩
  case rest =>
    obtain ⟨g, rfl, rfl, rfl, hBx, hkg⟩ := hcut
    clear x0 x1 x2 x3 x4 x5 x6
    have hh0 : Has wc (some ⟨w.heap.size + 1, 0, none⟩) (turnsL ⟨a, b, c, p, q, r, true⟩ 0) := fun i x hi => by
      match i, hi with
      | 0, hi =>
        simp [turnsL] at hi
        subst hi
        have kb := HK.out.2.1.below hBx.out HK.out.2.1.lt
        exact ⟨w.heap.size + 1, 0, rfl, kb.lt, kb.cell 0, kb.cell 1, kb.cell 2, kb.cell 3, kb.cell 4, kb.cell 5, kb.cell 6⟩
      | i + 1, hi => simp [turnsL] at hi
    have HH0 := Lib.hid hh0
    have HB0 := Lib.hid (below_up HK.out.2.2 hBx.out)
    clear hh0
    go_wp2_with fail
    go_loopw [26, 3] (fun i v wr => ∃ (k : Nat) (X : Option Addr) (c' : Nat), k ≤ 5 ∧ i = .int .i64 k ∧ v = .slice X (turnsL ⟨a, b, c, p, q, r, true⟩ k).length c' ∧ Hid (Has wr X (turnsL ⟨a, b, c, p, q, r, true⟩ k)) ∧ Hid (Below w.heap.size w wr) ∧ Hid (Blk wr g 30 #[.int .i64 b, .int .i64 a, .int .i64 c, .bool q, .bool p, .bool r, .bool true, .int .i64 c, .int .i64 b, .int .i64 a, .bool r, .bool q, .bool p, .bool true, .int .i64 a, .int .i64 c, .int .i64 b, .bool p, .bool r, .bool q, .bool true, .int .i64 b, .int .i64 c, .int .i64 a, .bool q, .bool r, .bool p, .bool true, .int .i64 c, .int .i64 a, .int .i64 b, .bool r, .bool p, .bool q, .bool true]))
      (fun i _ _ => 5 - (intOf i).toNat)
    case atStart => exact ⟨0, _, 1, by omega, rfl, rfl, HH0.out, HB0.out, hkg.out⟩
    case round =>
      obtain ⟨k, X, c', hk, rfl, rfl, hX, hB, hg⟩ := hrel
      clear HH0 HB0 hkg hBx
      have kg := hg.out
      have zg : g < wr.heap.size := kg.lt
      match k, hk with
      | 0, _ =>
        have e0 : wr.cell? ⟨g, 0, none⟩ = some (.int .i64 b) := kg.cell 0
        have e1 : wr.cell? ⟨g, 1, none⟩ = some (.int .i64 a) := kg.cell 1
        have e2 : wr.cell? ⟨g, 2, none⟩ = some (.int .i64 c) := kg.cell 2
        have e3 : wr.cell? ⟨g, 3, none⟩ = some (.bool q) := kg.cell 3
        have e4 : wr.cell? ⟨g, 4, none⟩ = some (.bool p) := kg.cell 4
        have e5 : wr.cell? ⟨g, 5, none⟩ = some (.bool r) := kg.cell 5
        have e6 : wr.cell? ⟨g, 6, none⟩ = some (.bool true) := kg.cell 6
        clear kg
        go_wp2_with fail
        have hst : Below wr.heap.size wr (wr.alloc (.cells #[.int .i64 b, .int .i64 a, .int .i64 c, .bool q, .bool p, .bool r, .bool true] 30)) := below_alloc (Below.refl _ _)
        refine (put_any X c' _ (perm ⟨a, b, c, p, q, r, true⟩ (tord 0)) (by have := (turnsL_ok HH.out 0).2.2; omega) (perm_ok HH.out _) (fun y hy => ⟨((turnsL_ok HH.out 0).2.1 y hy).1, ((turnsL_ok HH.out 0).2.1 y hy).2⟩) (turnsL_ok HH.out 0).1 _ (hX.out.up hst)).mono ?_
        rintro e w1 ⟨X1, c1, rfl, hh, hB1⟩
        have HR := Lib.hid (And.intro hh (And.intro (below_up hB.out (hst.trans (hB1.mono hst.size))) (hg.out.below (hst.trans (hB1.mono hst.size)) zg)))
        clear hst hh hB1 e0 e1 e2 e3 e4 e5 e6
        go_wp2_with fail
        go_roundw
        case rel => exact ⟨1, X1, c1, by omega, rfl, rfl, HR.out.1, HR.out.2.1, HR.out.2.2⟩
        case measure => simp [intOf]
      | 1, _ =>
        have e0 : wr.cell? ⟨g, 7, none⟩ = some (.int .i64 c) := kg.cell 7
        have e1 : wr.cell? ⟨g, 8, none⟩ = some (.int .i64 b) := kg.cell 8
        have e2 : wr.cell? ⟨g, 9, none⟩ = some (.int .i64 a) := kg.cell 9
        have e3 : wr.cell? ⟨g, 10, none⟩ = some (.bool r) := kg.cell 10
        have e4 : wr.cell? ⟨g, 11, none⟩ = some (.bool q) := kg.cell 11
        have e5 : wr.cell? ⟨g, 12, none⟩ = some (.bool p) := kg.cell 12
        have e6 : wr.cell? ⟨g, 13, none⟩ = some (.bool true) := kg.cell 13
        clear kg
        go_wp2_with fail
        have hst : Below wr.heap.size wr (wr.alloc (.cells #[.int .i64 c, .int .i64 b, .int .i64 a, .bool r, .bool q, .bool p, .bool true] 30)) := below_alloc (Below.refl _ _)
        refine (put_any X c' _ (perm ⟨a, b, c, p, q, r, true⟩ (tord 1)) (by have := (turnsL_ok HH.out 1).2.2; omega) (perm_ok HH.out _) (fun y hy => ⟨((turnsL_ok HH.out 1).2.1 y hy).1, ((turnsL_ok HH.out 1).2.1 y hy).2⟩) (turnsL_ok HH.out 1).1 _ (hX.out.up hst)).mono ?_
        rintro e w1 ⟨X1, c1, rfl, hh, hB1⟩
        have HR := Lib.hid (And.intro hh (And.intro (below_up hB.out (hst.trans (hB1.mono hst.size))) (hg.out.below (hst.trans (hB1.mono hst.size)) zg)))
        clear hst hh hB1 e0 e1 e2 e3 e4 e5 e6
        go_wp2_with fail
        go_roundw
        case rel => exact ⟨2, X1, c1, by omega, rfl, rfl, HR.out.1, HR.out.2.1, HR.out.2.2⟩
        case measure => simp [intOf]
      | 2, _ =>
        have e0 : wr.cell? ⟨g, 14, none⟩ = some (.int .i64 a) := kg.cell 14
        have e1 : wr.cell? ⟨g, 15, none⟩ = some (.int .i64 c) := kg.cell 15
        have e2 : wr.cell? ⟨g, 16, none⟩ = some (.int .i64 b) := kg.cell 16
        have e3 : wr.cell? ⟨g, 17, none⟩ = some (.bool p) := kg.cell 17
        have e4 : wr.cell? ⟨g, 18, none⟩ = some (.bool r) := kg.cell 18
        have e5 : wr.cell? ⟨g, 19, none⟩ = some (.bool q) := kg.cell 19
        have e6 : wr.cell? ⟨g, 20, none⟩ = some (.bool true) := kg.cell 20
        clear kg
        go_wp2_with fail
        have hst : Below wr.heap.size wr (wr.alloc (.cells #[.int .i64 a, .int .i64 c, .int .i64 b, .bool p, .bool r, .bool q, .bool true] 30)) := below_alloc (Below.refl _ _)
        refine (put_any X c' _ (perm ⟨a, b, c, p, q, r, true⟩ (tord 2)) (by have := (turnsL_ok HH.out 2).2.2; omega) (perm_ok HH.out _) (fun y hy => ⟨((turnsL_ok HH.out 2).2.1 y hy).1, ((turnsL_ok HH.out 2).2.1 y hy).2⟩) (turnsL_ok HH.out 2).1 _ (hX.out.up hst)).mono ?_
        rintro e w1 ⟨X1, c1, rfl, hh, hB1⟩
        have HR := Lib.hid (And.intro hh (And.intro (below_up hB.out (hst.trans (hB1.mono hst.size))) (hg.out.below (hst.trans (hB1.mono hst.size)) zg)))
        clear hst hh hB1 e0 e1 e2 e3 e4 e5 e6
        go_wp2_with fail
        go_roundw
        case rel => exact ⟨3, X1, c1, by omega, rfl, rfl, HR.out.1, HR.out.2.1, HR.out.2.2⟩
        case measure => simp [intOf]
      | 3, _ =>
        have e0 : wr.cell? ⟨g, 21, none⟩ = some (.int .i64 b) := kg.cell 21
        have e1 : wr.cell? ⟨g, 22, none⟩ = some (.int .i64 c) := kg.cell 22
        have e2 : wr.cell? ⟨g, 23, none⟩ = some (.int .i64 a) := kg.cell 23
        have e3 : wr.cell? ⟨g, 24, none⟩ = some (.bool q) := kg.cell 24
        have e4 : wr.cell? ⟨g, 25, none⟩ = some (.bool r) := kg.cell 25
        have e5 : wr.cell? ⟨g, 26, none⟩ = some (.bool p) := kg.cell 26
        have e6 : wr.cell? ⟨g, 27, none⟩ = some (.bool true) := kg.cell 27
        clear kg
        go_wp2_with fail
        have hst : Below wr.heap.size wr (wr.alloc (.cells #[.int .i64 b, .int .i64 c, .int .i64 a, .bool q, .bool r, .bool p, .bool true] 30)) := below_alloc (Below.refl _ _)
        refine (put_any X c' _ (perm ⟨a, b, c, p, q, r, true⟩ (tord 3)) (by have := (turnsL_ok HH.out 3).2.2; omega) (perm_ok HH.out _) (fun y hy => ⟨((turnsL_ok HH.out 3).2.1 y hy).1, ((turnsL_ok HH.out 3).2.1 y hy).2⟩) (turnsL_ok HH.out 3).1 _ (hX.out.up hst)).mono ?_
        rintro e w1 ⟨X1, c1, rfl, hh, hB1⟩
        have HR := Lib.hid (And.intro hh (And.intro (below_up hB.out (hst.trans (hB1.mono hst.size))) (hg.out.below (hst.trans (hB1.mono hst.size)) zg)))
        clear hst hh hB1 e0 e1 e2 e3 e4 e5 e6
        go_wp2_with fail
        go_roundw
        case rel => exact ⟨4, X1, c1, by omega, rfl, rfl, HR.out.1, HR.out.2.1, HR.out.2.2⟩
        case measure => simp [intOf]
      | 4, _ =>
        have e0 : wr.cell? ⟨g, 28, none⟩ = some (.int .i64 c) := kg.cell 28
        have e1 : wr.cell? ⟨g, 29, none⟩ = some (.int .i64 a) := kg.cell 29
        have e2 : wr.cell? ⟨g, 30, none⟩ = some (.int .i64 b) := kg.cell 30
        have e3 : wr.cell? ⟨g, 31, none⟩ = some (.bool r) := kg.cell 31
        have e4 : wr.cell? ⟨g, 32, none⟩ = some (.bool p) := kg.cell 32
        have e5 : wr.cell? ⟨g, 33, none⟩ = some (.bool q) := kg.cell 33
        have e6 : wr.cell? ⟨g, 34, none⟩ = some (.bool true) := kg.cell 34
        clear kg
        go_wp2_with fail
        have hst : Below wr.heap.size wr (wr.alloc (.cells #[.int .i64 c, .int .i64 a, .int .i64 b, .bool r, .bool p, .bool q, .bool true] 30)) := below_alloc (Below.refl _ _)
        refine (put_any X c' _ (perm ⟨a, b, c, p, q, r, true⟩ (tord 4)) (by have := (turnsL_ok HH.out 4).2.2; omega) (perm_ok HH.out _) (fun y hy => ⟨((turnsL_ok HH.out 4).2.1 y hy).1, ((turnsL_ok HH.out 4).2.1 y hy).2⟩) (turnsL_ok HH.out 4).1 _ (hX.out.up hst)).mono ?_
        rintro e w1 ⟨X1, c1, rfl, hh, hB1⟩
        have HR := Lib.hid (And.intro hh (And.intro (below_up hB.out (hst.trans (hB1.mono hst.size))) (hg.out.below (hst.trans (hB1.mono hst.size)) zg)))
        clear hst hh hB1 e0 e1 e2 e3 e4 e5 e6
        go_wp2_with fail
        go_roundw
        case rel => exact ⟨5, X1, c1, by omega, rfl, rfl, HR.out.1, HR.out.2.1, HR.out.2.2⟩
        case measure => simp [intOf]
      | 5, _ =>
        clear kg
        go_wp2_with fail
        go_ret
        rw [← turnsL_all HH.out rfl]
        exact ⟨X, ⟨c', rfl⟩, hX.out, hB.out⟩
end Go.Proofs.Ytaldgmmmcbikgaa.TurnTurns
