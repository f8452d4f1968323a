/- The reference's Great, of whatever length. -/
import Derived.BigQuiet
import Derived.Deep.QuietTactic
import Derived.Test.YtaldgmmmcbikgaaJobRSame
namespace Go.Proofs.Ytaldgmmmcbikgaa.JobGreat
open Go.RowKit Mem PosMath PartMath TurnMath TurnWalks TurnMap JobMath JobMem JobSame JobRSame
set_option linter.unusedVariables false
set_option linter.unusedSimpArgs false

theorem great_big (X : Option Addr) (cap : Nat) (l : List JV) (hl : l.length ≤ 9223372036854775807) (hla : ∀ j ∈ l, j.af.length ≤ 9223372036854775807) (w : World) (hX : JobsAt w X l) :
    Calls Try.prog 8 #[.slice X l.length cap] w fun e w' => e = .returned (.bool (greatB l)) ∧ Below w.heap.size w w' := by
  obtain ⟨V, hV⟩ : ∃ V, V = greatB l := ⟨_, rfl⟩
  rw [← hV]
  have HV := Lib.hid hV
  have HX := Lib.hid hX
  have HLA := Lib.hid hla
  clear hV hX hla
  have hfin : (∀ (i : Nat) (x : JV), i < 100 → l[i]? = some x → x.af.length ≤ 100) → V = decide (100 < l.length) := fun hP => by
    rw [HV.out]
    unfold greatB
    rw [show (l.take 100).any (fun j => decide (100 < j.af.length)) = false from by
      rw [List.any_eq_false]
      intro x hx
      obtain ⟨i, hi, e⟩ := List.mem_iff_getElem.1 hx
      have hi' : i < 100 ∧ i < l.length := by simp at hi; omega
      have := hP i x hi'.1 (by rw [← e, List.getElem_take]; exact List.getElem?_eq_getElem hi'.2)
      simpa using this]
    rfl
  have HF := Lib.hid hfin
  clear hfin
  go_enter Try.func8, Try.ntmps8
  go_wp2_with fail
  go_loopw [3] (fun i wr => ∃ k : Nat, k ≤ l.length ∧ k ≤ 100 ∧ i = .int .i64 k ∧ Hid (∀ (i : Nat) (x : JV), i < k → l[i]? = some x → x.af.length ≤ 100) ∧ Hid (Below w.heap.size w wr))
    (fun i _ => l.length - (intOf i).toNat)
  case atStart => exact ⟨0, Nat.zero_le _, by omega, rfl, (fun i x h => by omega), Below.refl _ _⟩
  case round =>
    obtain ⟨k, hk, hk2, rfl, hP, hB⟩ := hrel
    by_cases hlt : k < l.length
    · have hki : (k : Int) < (l.length : Int) := by omega
      have hki0 : (0 : Int) ≤ (k : Int) := by omega
      by_cases h100 : k < 100
      · have hk3 : (k : Int) < 100 := by omega
        have hg : l[k]? = some l[k] := List.getElem?_eq_getElem hlt
        generalize l[k] = x at hg
        have haf := HLA.out x (List.mem_of_getElem? hg)
        obtain ⟨b, o, Y, c, rfl, hb, hJ, _⟩ := HX.out.up hB.out k x hg
        have y13 : wr.cell? ⟨b, o + k * 16 + 13, none⟩ = some (.slice Y x.af.length c) := hJ.2.2.2.2.2.2.2.2.2.2.2.2.2.1
        have HG := Lib.hid hg
        clear hg hJ
        by_cases hm : x.af.length ≤ 100
        · have hm' : ¬ (100 : Int) < (x.af.length : Int) := by omega
          go_wp2_with fail
          go_roundw
          case rel => exact ⟨k + 1, by omega, by omega, by go_num, (fun i z hi hz => by
              rcases Nat.lt_or_ge i k with h | h
              · exact hP.out i z h hz
              · obtain rfl : i = k := by omega
                rw [HG.out] at hz; cases hz; exact hm), hB.out⟩
          case measure => simp [intOf]; omega
        · have hm' : (100 : Int) < (x.af.length : Int) := by omega
          have ev : V = true := by
            rw [HV.out]
            unfold greatB
            rw [show (l.take 100).any (fun j => decide (100 < j.af.length)) = true from List.any_eq_true.2 ⟨x, by
              have : (l.take 100)[k]? = some x := by rw [List.getElem?_take_of_lt h100]; exact HG.out
              exact List.mem_of_getElem? this, decide_eq_true (by omega)⟩]
            rfl
          have EV := Lib.hid ev
          clear ev
          go_wp2_with fail
          go_ret
          rw [EV.out]
          exact ⟨rfl, hB.out⟩
      · have hk3 : ¬ (k : Int) < 100 := by omega
        have hl1 : (100 : Int) < (l.length : Int) := by omega
        have EV := Lib.hid (HF.out fun i x hi hx => hP.out i x (by omega) hx)
        go_wp2_with fail
        go_ret
        rw [EV.out, decide_eq_true (by omega)]
        exact ⟨rfl, hB.out⟩
    · have hki : ¬ (k : Int) < (l.length : Int) := by omega
      have hl1 : ¬ (100 : Int) < (l.length : Int) := by omega
      have EV := Lib.hid (HF.out fun i x hi hx => hP.out i x (by have := (List.getElem?_eq_some_iff.1 hx).1; omega) hx)
      go_wp2_with fail
      go_ret
      rw [EV.out, decide_eq_false (by omega)]
      exact ⟨rfl, hB.out⟩
end Go.Proofs.Ytaldgmmmcbikgaa.JobGreat
