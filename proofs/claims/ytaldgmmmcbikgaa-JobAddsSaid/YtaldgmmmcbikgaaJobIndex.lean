/- slices.IndexFunc and slices.ContainsFunc over numbers and over jobs, with functions that may have a state. -/
import Derived.BigQuiet
import Derived.Deep.QuietTactic
import Derived.Test.YtaldgmmmcbikgaaJobMath
namespace Go.Proofs.Ytaldgmmmcbikgaa.JobIndex
open Go.RowKit Mem PosMath PartMath TurnMath JobMath
set_option linter.unusedVariables false
set_option linter.unusedSimpArgs false

/-- An index: the first of those that are so, or -1; and where the function's own state stands. -/
def FirstOf {α : Type} (l : List α) (f : Nat → α → Bool) (I : Nat → World → Prop) (r : Int) (w' : World) : Prop :=
  (r = -1 ∧ (∀ k v, l[k]? = some v → f k v = false) ∧ I l.length w') ∨ (∃ (k : Nat) (v : α), r = k ∧ l[k]? = some v ∧ f k v = true ∧ (∀ i u, i < k → l[i]? = some u → f i u = false) ∧ I (k + 1) w')
theorem FirstOf.ge {α : Type} {l : List α} {f : Nat → α → Bool} {I : Nat → World → Prop} {r : Int} {w' : World} (h : FirstOf l f I r w') : -1 ≤ r := by
  rcases h with ⟨rfl, _⟩ | ⟨k, v, rfl, _⟩ <;> omega
/-- Whether one is so. -/
def AnyOf {α : Type} (l : List α) (f : Nat → α → Bool) (b : Bool) : Prop := (b = false ∧ ∀ k v, l[k]? = some v → f k v = false) ∨ (b = true ∧ ∃ (k : Nat) (v : α), l[k]? = some v ∧ f k v = true ∧ ∀ i u, i < k → l[i]? = some u → f i u = false)
theorem FirstOf.any {α : Type} {l : List α} {f : Nat → α → Bool} {I : Nat → World → Prop} {r : Int} {w' : World} (h : FirstOf l f I r w') : AnyOf l f (decide (0 ≤ r)) := by
  rcases h with ⟨rfl, h, _⟩ | ⟨k, v, rfl, hk, hv, hf, _⟩
  · exact .inl ⟨rfl, h⟩
  · exact .inr ⟨by simp, k, v, hk, hv, hf⟩
/-- One that is so of the values alone. -/
theorem AnyOf.eq {α : Type} {l : List α} {g : α → Bool} {b : Bool} (h : AnyOf l (fun _ v => g v) b) : b = l.any g := by
  rcases h with ⟨rfl, h⟩ | ⟨rfl, k, v, hk, hv, _⟩
  · symm
    rw [List.any_eq_false]
    intro x hx
    obtain ⟨j, hj, e⟩ := List.mem_iff_getElem.1 hx
    simp [h j x (by rw [List.getElem?_eq_getElem hj, e])]
  · symm
    exact List.any_eq_true.2 ⟨v, List.mem_of_getElem? hk, hv⟩
set_option maxRecDepth 100000 in
set_option maxHeartbeats 4000000 in
theorem iIndexFunc (X : Option Addr) (cap : Nat) (l : List Int) (f : Nat → Int → Bool) (I : Nat → World → Prop) (fn : Nat) (lb : Array Value) (hl : l.length ≤ 4611686018427387904) (w : World) (h0 : I 0 w) (hk : ∀ k w', I k w' → IntsAt w' X l) (eg : ∀ args w, (callFunc fn args).run Try.prog w = .ok (.enter fn args) w)
    (hf : ∀ k v, l[k]? = some v → ∀ w', I k w' → Calls Try.prog fn (#[.int .i64 v] ++ lb) w' fun e w'' => e = .returned (.bool (f k v)) ∧ I (k + 1) w'') :
    Calls Try.prog 60 #[.slice X l.length cap, .func (.func fn) #[] lb] w fun e w' => ∃ r : Int, e = .returned (.int .i64 r) ∧ FirstOf l f I r w' := by
  have HK := Lib.hid hk
  have HF := Lib.hid hf
  have H0 := Lib.hid h0
  clear hk hf h0
  go_enter Try.func60, Try.ntmps60
  go_wp2_with fail
  go_loopw [8] (fun i wr => ∃ k : Nat, k ≤ l.length ∧ i = .int .i64 k ∧ Hid (∀ j x, j < k → l[j]? = some x → f j x = false) ∧ Hid (I k wr))
    (fun i _ => l.length - (intOf i).toNat)
  case atStart => exact ⟨0, Nat.zero_le _, rfl, fun j x h => by omega, H0.out⟩
  case round =>
    obtain ⟨k, hk, rfl, hP, hB⟩ := hrel
    clear H0
    by_cases hlt : k < l.length
    · have hg : l[k]? = some l[k] := List.getElem?_eq_getElem hlt
      generalize l[k] = v at hg
      have hki : (k : Int) < (l.length : Int) := by omega
      obtain ⟨b, o, rfl, hb, y0⟩ := HK.out k wr hB.out k v hg
      have hc := HF.out k v hg wr hB.out
      have HG := Lib.hid hg
      have HC := Lib.hid hc
      clear hc hg
      cases hfv : f k v
      · have HFV := Lib.hid hfv
        rw [hfv] at HC
        clear hfv
        go_wp2_with fail
        refine HC.out.mono ?_
        rintro e w1 ⟨rfl, hB1⟩
        have HB1 := Lib.hid hB1
        clear hB1 y0
        go_wp2_with fail
        go_roundw
        case rel => exact ⟨k + 1, by omega, by go_num, (fun j z hj hz => by
            rcases Nat.lt_or_ge j k with h | h
            · exact hP.out j z h hz
            · obtain rfl : j = k := by omega
              rw [HG.out] at hz; cases hz; exact HFV.out), HB1.out⟩
        case measure => simp [intOf]; omega
      · have HFV := Lib.hid hfv
        rw [hfv] at HC
        clear hfv
        go_wp2_with fail
        refine HC.out.mono ?_
        rintro e w1 ⟨rfl, hB1⟩
        have HB1 := Lib.hid hB1
        clear hB1 y0
        go_wp2_with fail
        go_ret
        exact ⟨_, rfl, .inr ⟨k, v, rfl, HG.out, HFV.out, hP.out, HB1.out⟩⟩
    · obtain rfl : k = l.length := by omega
      go_wp2_with fail
      go_ret
      refine ⟨_, rfl, .inl ⟨rfl, fun j v hj => hP.out j v (List.getElem?_eq_some_iff.1 hj).1 hj, hB.out⟩⟩
theorem iContainsFunc (X : Option Addr) (cap : Nat) (l : List Int) (f : Nat → Int → Bool) (I : Nat → World → Prop) (fn : Nat) (lb : Array Value) (hl : l.length ≤ 4611686018427387904) (w : World) (h0 : I 0 w) (hk : ∀ k w', I k w' → IntsAt w' X l) (eg : ∀ args w, (callFunc fn args).run Try.prog w = .ok (.enter fn args) w)
    (hf : ∀ k v, l[k]? = some v → ∀ w', I k w' → Calls Try.prog fn (#[.int .i64 v] ++ lb) w' fun e w'' => e = .returned (.bool (f k v)) ∧ I (k + 1) w'') :
    Calls Try.prog 33 #[.slice X l.length cap, .func (.func fn) #[] lb] w fun e w' => ∃ b, e = .returned (.bool b) ∧ AnyOf l f b ∧ ∃ k, I k w' := by
  have H := Lib.hid (iIndexFunc X cap l f I fn lb hl w h0 hk eg hf)
  clear hk hf h0
  go_enter Try.func33, Try.ntmps33
  go_wp2_with fail
  refine H.out.mono ?_
  rintro e w1 ⟨r, rfl, hr⟩
  have hI : ∃ k, I k w1 := by
    rcases hr with ⟨_, _, h⟩ | ⟨k, _, _, _, _, _, h⟩
    · exact ⟨_, h⟩
    · exact ⟨_, h⟩
  have HB := Lib.hid (And.intro hr.any hI)
  clear hr hI
  go_wp2_with fail
  go_ret
  exact ⟨_, rfl, HB.out.1, HB.out.2⟩
set_option maxRecDepth 100000 in
set_option maxHeartbeats 4000000 in
theorem jIndexFunc (X : Option Addr) (cap : Nat) (l : List JV) (f : Nat → JV → Bool) (I : Nat → World → Prop) (fn : Nat) (lb : Array Value) (hl : l.length ≤ 4611686018427387904) (w : World) (h0 : I 0 w) (hk : ∀ k w', I k w' → JobsAt w' X l) (eg : ∀ args w, (callFunc fn args).run Try.prog w = .ok (.enter fn args) w)
    (hf : ∀ k v, l[k]? = some v → ∀ w' (Y : Option Addr) (c : Nat), IntsAt w' Y v.af → I k w' → Calls Try.prog fn (#[.agg (v.arr Y c)] ++ lb) w' fun e w'' => e = .returned (.bool (f k v)) ∧ I (k + 1) w'') :
    Calls Try.prog 24 #[.slice X l.length cap, .func (.func fn) #[] lb] w fun e w' => ∃ r : Int, e = .returned (.int .i64 r) ∧ FirstOf l f I r w' := by
  have HK := Lib.hid hk
  have HF := Lib.hid hf
  have H0 := Lib.hid h0
  clear hk hf h0
  go_enter Try.func24, Try.ntmps24
  go_wp2_with fail
  go_loopw [8] (fun i wr => ∃ k : Nat, k ≤ l.length ∧ i = .int .i64 k ∧ Hid (∀ j x, j < k → l[j]? = some x → f j x = false) ∧ Hid (I k wr))
    (fun i _ => l.length - (intOf i).toNat)
  case atStart => exact ⟨0, Nat.zero_le _, rfl, fun j x h => by omega, H0.out⟩
  case round =>
    obtain ⟨k, hk, rfl, hP, hB⟩ := hrel
    clear H0
    by_cases hlt : k < l.length
    · have hg : l[k]? = some l[k] := List.getElem?_eq_getElem hlt
      generalize l[k] = v at hg
      have hki : (k : Int) < (l.length : Int) := by omega
      obtain ⟨b, o, Y, c, rfl, hb, hJ, hY⟩ := HK.out k wr hB.out k v hg
      obtain ⟨y0, y1, y2, y3, y4, y5, y6, y7, y8, y9, y10, y11, y12, y13, y14, y15⟩ := hJ
      have hc := HF.out k v hg wr Y c hY hB.out
      unfold JV.arr at hc
      have HG := Lib.hid hg
      have HC := Lib.hid hc
      clear hc hg
      cases hfv : f k v
      · have HFV := Lib.hid hfv
        rw [hfv] at HC
        clear hfv
        go_wp2_with fail
        refine HC.out.mono ?_
        rintro e w1 ⟨rfl, hB1⟩
        have HB1 := Lib.hid hB1
        clear hB1 y0 y1 y2 y3 y4 y5 y6 y7 y8 y9 y10 y11 y12 y13 y14 y15
        go_wp2_with fail
        go_roundw
        case rel => exact ⟨k + 1, by omega, by go_num, (fun j z hj hz => by
            rcases Nat.lt_or_ge j k with h | h
            · exact hP.out j z h hz
            · obtain rfl : j = k := by omega
              rw [HG.out] at hz; cases hz; exact HFV.out), HB1.out⟩
        case measure => simp [intOf]; omega
      · have HFV := Lib.hid hfv
        rw [hfv] at HC
        clear hfv
        go_wp2_with fail
        refine HC.out.mono ?_
        rintro e w1 ⟨rfl, hB1⟩
        have HB1 := Lib.hid hB1
        clear hB1 y0 y1 y2 y3 y4 y5 y6 y7 y8 y9 y10 y11 y12 y13 y14 y15
        go_wp2_with fail
        go_ret
        exact ⟨_, rfl, .inr ⟨k, v, rfl, HG.out, HFV.out, hP.out, HB1.out⟩⟩
    · obtain rfl : k = l.length := by omega
      go_wp2_with fail
      go_ret
      refine ⟨_, rfl, .inl ⟨rfl, fun j v hj => hP.out j v (List.getElem?_eq_some_iff.1 hj).1 hj, hB.out⟩⟩
theorem jContainsFunc (X : Option Addr) (cap : Nat) (l : List JV) (f : Nat → JV → Bool) (I : Nat → World → Prop) (fn : Nat) (lb : Array Value) (hl : l.length ≤ 4611686018427387904) (w : World) (h0 : I 0 w) (hk : ∀ k w', I k w' → JobsAt w' X l) (eg : ∀ args w, (callFunc fn args).run Try.prog w = .ok (.enter fn args) w)
    (hf : ∀ k v, l[k]? = some v → ∀ w' (Y : Option Addr) (c : Nat), IntsAt w' Y v.af → I k w' → Calls Try.prog fn (#[.agg (v.arr Y c)] ++ lb) w' fun e w'' => e = .returned (.bool (f k v)) ∧ I (k + 1) w'') :
    Calls Try.prog 64 #[.slice X l.length cap, .func (.func fn) #[] lb] w fun e w' => ∃ b, e = .returned (.bool b) ∧ AnyOf l f b ∧ ∃ k, I k w' := by
  have H := Lib.hid (jIndexFunc X cap l f I fn lb hl w h0 hk eg hf)
  clear hk hf h0
  go_enter Try.func64, Try.ntmps64
  go_wp2_with fail
  refine H.out.mono ?_
  rintro e w1 ⟨r, rfl, hr⟩
  have hI : ∃ k, I k w1 := by
    rcases hr with ⟨_, _, h⟩ | ⟨k, _, _, _, _, _, h⟩
    · exact ⟨_, h⟩
    · exact ⟨_, h⟩
  have HB := Lib.hid (And.intro hr.any hI)
  clear hr hI
  go_wp2_with fail
  go_ret
  exact ⟨_, rfl, HB.out.1, HB.out.2⟩
end Go.Proofs.Ytaldgmmmcbikgaa.JobIndex
