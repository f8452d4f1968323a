/- turn.Fits: for all wants and dimensions. -/
import Derived.BigQuiet
import Derived.Deep.QuietTactic
import Derived.Test.YtaldgmmmcbikgaaPosCheck
import Derived.Test.YtaldgmmmcbikgaaTurnAll
namespace Go.Proofs.Ytaldgmmmcbikgaa.TurnFitsV
open Go.RowKit Mem PosMath PosCheck TurnMath TurnWalks TurnMap TurnSorted TurnAll
set_option linter.unusedVariables false
set_option linter.unusedSimpArgs false

/-- A slice of wants, wherever it lies. -/
def Has (w : World) (X : Option Addr) (l : List WV) : Prop := ∀ (i : Nat) (x : WV), l[i]? = some x → ∃ b o, X = some ⟨b, o, none⟩ ∧ b < w.heap.size ∧
  w.cell? ⟨b, o + i * 7, none⟩ = some (.int .i64 x.a) ∧ w.cell? ⟨b, o + i * 7 + 1, none⟩ = some (.int .i64 x.b) ∧ w.cell? ⟨b, o + i * 7 + 2, none⟩ = some (.int .i64 x.c) ∧ w.cell? ⟨b, o + i * 7 + 3, none⟩ = some (.bool x.p) ∧ w.cell? ⟨b, o + i * 7 + 4, none⟩ = some (.bool x.q) ∧ w.cell? ⟨b, o + i * 7 + 5, none⟩ = some (.bool x.r) ∧ w.cell? ⟨b, o + i * 7 + 6, none⟩ = some (.bool x.tn)
theorem Has.nil {w : World} {X : Option Addr} : Has w X [] := fun i x h => by simp at h
theorem Has.up {w w' : World} {X : Option Addr} {l : List WV} (h : Has w X l) (hB : Below w.heap.size w w') : Has w' X l := fun i x hi => by
  obtain ⟨b, o, e, hb, x0, x1, x2, x3, x4, x5, x6⟩ := h i x hi
  exact ⟨b, o, e, Nat.lt_of_lt_of_le hb hB.size, keep_cell x0 hB, keep_cell x1 hB, keep_cell x2 hB, keep_cell x3 hB, keep_cell x4 hB, keep_cell x5 hB, keep_cell x6 hB⟩
theorem wsl_has {w : World} {B : Nat} {v : Value} {l : List WV} (h : WSl w B v l) : ∃ X cap, v = .slice X l.length cap ∧ l.length ≤ cap ∧ cap ≤ maxLen ∧ Has w X l := by
  obtain ⟨g, cap, e, hb, hc, hm, hx⟩ := h
  refine ⟨_, cap, e, hc, hm, fun i x hi => ⟨g, 0, rfl, ?_, ?_, ?_, ?_, ?_, ?_, ?_, ?_⟩⟩
  · exact cell_lt (hx i x hi 0 _ rfl)
  · simpa using hx i x hi 0 _ rfl
  · simpa using hx i x hi 1 _ rfl
  · simpa using hx i x hi 2 _ rfl
  · simpa using hx i x hi 3 _ rfl
  · simpa using hx i x hi 4 _ rfl
  · simpa using hx i x hi 5 _ rfl
  · simpa using hx i x hi 6 _ rfl
/-- An index: the first of those that are so, or -1. -/
def IdxOf (l : List WV) (f : WV → Bool) (r : Int) : Prop := (r = -1 ∧ ∀ x ∈ l, f x = false) ∨ (∃ k x, r = (k : Nat) ∧ l[k]? = some x ∧ f x = true)
set_option maxRecDepth 100000 in
set_option maxHeartbeats 4000000 in
theorem indexFunc_any (X : Option Addr) (cap : Nat) (l : List WV) (f : WV → Bool) (fn : Nat) (lb : Array Value) (hl : l.length ≤ 100) (w : World) (hk : Has w X l) (eg : ∀ args w, (callFunc fn args).run Try.prog w = .ok (.enter fn args) w)
    (hf : ∀ x ∈ l, ∀ w', Below w.heap.size w w' → Calls Try.prog fn (#[.agg x.arr] ++ lb) w' fun e w'' => e = .returned (.bool (f x)) ∧ Below w'.heap.size w' w'') :
    Calls Try.prog 82 #[.slice X l.length cap, .func (.func fn) #[] lb] w fun e w' => ∃ r : Int, e = .returned (.int .i64 r) ∧ IdxOf l f r ∧ Below w.heap.size w w' := by
  have HK := Lib.hid hk
  have HFn := Lib.hid hf
  clear hk hf
  go_enter Try.func82, Try.ntmps82
  go_wp2_with fail
  go_loopw [8] (fun i wr => ∃ k : Nat, k ≤ l.length ∧ i = .int .i64 k ∧ Hid (∀ j x, j < k → l[j]? = some x → f x = false) ∧ Hid (Below w.heap.size w wr))
    (fun i _ => l.length - (intOf i).toNat)
  case atStart => exact ⟨0, Nat.zero_le _, rfl, fun j x h => by omega, Below.refl _ _⟩
  case round =>
    obtain ⟨k, hk, rfl, hP, hB⟩ := hrel
    by_cases hlt : k < l.length
    · skip
      have hg : l[k]? = some l[k] := List.getElem?_eq_getElem hlt
      generalize l[k] = x at hg
      obtain ⟨b, o, rfl, hb, y0, y1, y2, y3, y4, y5, y6⟩ := (HK.out.up hB.out) k x hg
      have hki : (k : Int) < (l.length : Int) := by omega
      have HG := Lib.hid hg
      clear hg
      have hc := HFn.out x (List.mem_of_getElem? HG.out) wr hB.out
      have HC := Lib.hid hc
      clear hc
      cases hfx : f x
      · have HF := Lib.hid hfx
        rw [hfx] at HC
        clear hfx
        unfold WV.arr at HC
        go_wp2_with fail
        refine HC.out.mono ?_
        rintro e w1 ⟨rfl, hB1⟩
        have HB1 := Lib.hid (below_up hB.out hB1)
        clear hB1 y0 y1 y2 y3 y4 y5 y6
        go_wp2_with fail
        go_roundw
        case rel => exact ⟨k + 1, by omega, by go_num, fun j z hj hz => by
            rcases Nat.lt_or_ge j k with h | h
            · exact hP.out j z h hz
            · obtain rfl : j = k := by omega
              rw [HG.out] at hz; cases hz; exact HF.out, HB1.out⟩
        case measure => simp [intOf]; omega
      · have HF := Lib.hid hfx
        rw [hfx] at HC
        clear hfx
        unfold WV.arr at HC
        go_wp2_with fail
        refine HC.out.mono ?_
        rintro e w1 ⟨rfl, hB1⟩
        have HB1 := Lib.hid (below_up hB.out hB1)
        clear hB1 y0 y1 y2 y3 y4 y5 y6
        go_wp2_with fail
        go_ret
        exact ⟨_, rfl, .inr ⟨k, x, rfl, HG.out, HF.out⟩, HB1.out⟩
    · obtain rfl : k = l.length := by omega
      go_wp2_with fail
      go_ret
      refine ⟨_, rfl, .inl ⟨rfl, fun x hx => ?_⟩, hB.out⟩
      obtain ⟨j, hj, e⟩ := List.mem_iff_getElem.1 hx
      exact hP.out j x hj (by rw [List.getElem?_eq_getElem hj, e])
theorem any_of {l : List WV} {f : WV → Bool} {r : Int} (h : IdxOf l f r) : decide (0 ≤ r) = l.any f := by
  rcases h with ⟨rfl, h⟩ | ⟨k, x, rfl, hk, hx⟩
  · have : l.any f = false := by
      rw [List.any_eq_false]
      intro x hx
      simp [h x hx]
    rw [this]; decide
  · have : l.any f = true := List.any_eq_true.2 ⟨x, List.mem_of_getElem? hk, hx⟩
    rw [this]; simp
theorem containsFunc_any (X : Option Addr) (cap : Nat) (l : List WV) (f : WV → Bool) (fn : Nat) (lb : Array Value) (hl : l.length ≤ 100) (w : World) (hk : Has w X l) (eg : ∀ args w, (callFunc fn args).run Try.prog w = .ok (.enter fn args) w)
    (hf : ∀ x ∈ l, ∀ w', Below w.heap.size w w' → Calls Try.prog fn (#[.agg x.arr] ++ lb) w' fun e w'' => e = .returned (.bool (f x)) ∧ Below w'.heap.size w' w'') :
    Calls Try.prog 70 #[.slice X l.length cap, .func (.func fn) #[] lb] w fun e w' => e = .returned (.bool (l.any f)) ∧ Below w.heap.size w w' := by
  have H := Lib.hid (indexFunc_any X cap l f fn lb hl w hk eg hf)
  clear hk hf
  go_enter Try.func70, Try.ntmps70
  go_wp2_with fail
  refine H.out.mono ?_
  rintro e w1 ⟨r, rfl, hr, hB⟩
  have hd := any_of hr
  have HB := Lib.hid (And.intro hd hB)
  clear hr hB hd
  go_wp2_with fail
  go_ret
  rw [← HB.out.1]
  exact ⟨rfl, HB.out.2⟩
def fitB (d0 d1 d2 : Int) (x : WV) : Bool := decide (x.a ≤ d0) && decide (x.b ≤ d1) && decide (x.c ≤ d2)
theorem fit_any (g : Nat) (d0 d1 d2 : Int) (x : WV) (w : World) (c0 : w.cell? ⟨g, 0, none⟩ = some (.int .i64 d0)) (c1 : w.cell? ⟨g, 1, none⟩ = some (.int .i64 d1)) (c2 : w.cell? ⟨g, 2, none⟩ = some (.int .i64 d2)) :
    Calls Try.prog 71 #[.agg x.arr, .pointer (some ⟨g, 0, none⟩)] w fun e w' => e = .returned (.bool (fitB d0 d1 d2 x)) ∧ Below w.heap.size w w' := by
  obtain ⟨a, b, c, p, q, r, tn⟩ := x
  unfold WV.arr fitB
  dsimp only
  have hg := cell_lt c0
  by_cases h0 : a ≤ d0
  · by_cases h1 : b ≤ d1
    · by_cases h2 : c ≤ d2
      · have e : (decide (a ≤ d0) && decide (b ≤ d1) && decide (c ≤ d2)) = true := by simp [h0, h1, h2]
        rw [e]
        go_enter Try.func71, Try.ntmps71
        go_wp2_with fail
        go_ret
        exact ⟨rfl, below_alloc (Below.refl _ _)⟩
      · have e : (decide (a ≤ d0) && decide (b ≤ d1) && decide (c ≤ d2)) = false := by simp [h2]
        rw [e]
        go_enter Try.func71, Try.ntmps71
        go_wp2_with fail
        go_ret
        exact ⟨rfl, below_alloc (Below.refl _ _)⟩
    · have e : (decide (a ≤ d0) && decide (b ≤ d1) && decide (c ≤ d2)) = false := by simp [h1]
      rw [e]
      go_enter Try.func71, Try.ntmps71
      go_wp2_with fail
      go_ret
      exact ⟨rfl, below_alloc (Below.refl _ _)⟩
  · have e : (decide (a ≤ d0) && decide (b ≤ d1) && decide (c ≤ d2)) = false := by simp [h0]
    rw [e]
    go_enter Try.func71, Try.ntmps71
    go_wp2_with fail
    go_ret
    exact ⟨rfl, below_alloc (Below.refl _ _)⟩
def fitsV (d0 d1 d2 : Int) (x : WV) : Bool × Int := if May d0 d1 d2 ∧ WOk x then ((allL x).any (fitB d0 d1 d2), 0) else (false, 8)
theorem allL_len {x : WV} : (allL x).length ≤ 6 := by
  have h : ∀ (xs l : List WV), (xs.foldl (fun l x => put x l) l).length ≤ l.length + xs.length := by
    intro xs
    induction xs with
    | nil => intro l; simp
    | cons y ys ih =>
      intro l
      have hp : ∀ l : List WV, (put y l).length ≤ l.length + 1 := by
        intro l
        induction l with
        | nil => simp [put]
        | cons z l ih2 =>
          unfold put
          split
          · simp
          · split
            · simp
            · simp only [List.length_cons]; omega
      have h1 := ih (put y l)
      have h2 := hp l
      simp only [List.foldl_cons, List.length_cons]
      omega
  unfold allL
  split
  · exact h (rots x) []
  · simp
set_option maxRecDepth 100000 in
set_option maxHeartbeats 4000000 in
theorem fits_any (d0 d1 d2 : Int) (x : WV) (w : World) :
    Calls Try.prog 52 #[.agg #[.int .i64 d0, .int .i64 d1, .int .i64 d2], .agg x.arr] w fun e w' => e = .returned (.tuple #[.bool (fitsV d0 d1 d2 x).1, .int .i64 (fitsV d0 d1 d2 x).2]) ∧ Below w.heap.size w w' := by
  have HA := Lib.hid (all_any x)
  obtain ⟨V, hV⟩ : ∃ V, V = fitsV d0 d1 d2 x := ⟨_, rfl⟩
  rw [← hV]
  by_cases hd : May d0 d1 d2
  · have HD := Lib.hid hd
    have HV := Lib.hid hV
    have HX : Hid (x.arr = #[.int .i64 x.a, .int .i64 x.b, .int .i64 x.c, .bool x.p, .bool x.q, .bool x.r, .bool x.tn]) := rfl
    clear hd hV
    unfold WV.arr at HA ⊢
    go_enter Try.func52, Try.ntmps52
    go_wp2_with fail
    refine (check_ok d0 d1 d2 HD.out _).mono ?_
    rintro e w1 ⟨rfl, hB1⟩
    have kd : Blk w1 w.heap.size 23 #[.int .i64 d0, .int .i64 d1, .int .i64 d2] := ((Blk.new w _ _).alloc _).below hB1 (by simp; omega)
    have kx : Blk w1 (w.heap.size + 1) 30 #[.int .i64 x.a, .int .i64 x.b, .int .i64 x.c, .bool x.p, .bool x.q, .bool x.r, .bool x.tn] := (blk1 w _ _).below hB1 (by simp)
    have HB1 := Lib.hid (below_up (below_alloc (below_alloc (Below.refl _ w))) hB1)
    have KD := Lib.hid kd
    have x0 : w1.cell? ⟨w.heap.size + 1, 0, none⟩ = some (.int .i64 x.a) := kx.cell 0
    have x1 : w1.cell? ⟨w.heap.size + 1, 1, none⟩ = some (.int .i64 x.b) := kx.cell 1
    have x2 : w1.cell? ⟨w.heap.size + 1, 2, none⟩ = some (.int .i64 x.c) := kx.cell 2
    have x3 : w1.cell? ⟨w.heap.size + 1, 3, none⟩ = some (.bool x.p) := kx.cell 3
    have x4 : w1.cell? ⟨w.heap.size + 1, 4, none⟩ = some (.bool x.q) := kx.cell 4
    have x5 : w1.cell? ⟨w.heap.size + 1, 5, none⟩ = some (.bool x.r) := kx.cell 5
    have x6 : w1.cell? ⟨w.heap.size + 1, 6, none⟩ = some (.bool x.tn) := kx.cell 6
    clear hB1 kd kx
    go_wp2_with fail
    refine (HA.out _).mono ?_
    rintro e w2 ⟨v, n, rfl, hr, hB2⟩
    have HB2 := Lib.hid (below_up HB1.out hB2)
    have kd := KD.out.below hB2 KD.out.lt
    obtain ⟨l, X, cap, rfl, hl, hh, hlv, hn⟩ : ∃ (l : List WV) (X : Option Addr) (cap : Nat), v = .slice X l.length cap ∧ l.length ≤ 100 ∧ Has w2 X l ∧ l.any (fitB d0 d1 d2) = V.1 ∧ n = V.2 := by
      rcases hr with ⟨hok, rfl, hW⟩ | ⟨hbad, rfl, rfl⟩
      · obtain ⟨X, cap, e, _, _, hh⟩ := wsl_has hW
        have hlen := allL_len (x := x)
        have ev : V = ((allL x).any (fitB d0 d1 d2), 0) := by rw [HV.out]; exact if_pos ⟨HD.out, hok⟩
        exact ⟨_, X, cap, e, by omega, hh, by rw [ev], by rw [ev]⟩
      · have ev : V = (false, 8) := by rw [HV.out]; exact if_neg fun h => hbad h.2
        exact ⟨[], none, 0, rfl, by simp, Has.nil, by rw [ev]; rfl, by rw [ev]⟩
    have hc := containsFunc_any X cap l (fitB d0 d1 d2) 71 #[.pointer (some ⟨w.heap.size, 0, none⟩)] hl w2 hh (enters_of Try.func71 (by kernel_rfl) rfl)
      (fun x hx w' hB => fit_any w.heap.size d0 d1 d2 x w' (keep_cell (kd.cell 0) hB) (keep_cell (kd.cell 1) hB) (keep_cell (kd.cell 2) hB))
    rw [hlv] at hc
    have HC := Lib.hid (And.intro hc hn)
    clear hc hh hr hB2 x0 x1 x2 x3 x4 x5 x6 kd hlv hn
    go_wp2_with fail
    refine HC.out.1.mono ?_
    rintro e w3 ⟨rfl, hB3⟩
    have HB3 := Lib.hid (below_up HB2.out hB3)
    clear hB3
    go_wp2_with fail
    go_ret2
    rw [HC.out.2]
    exact ⟨rfl, HB3.out⟩
  · have ev : V = (false, 8) := by rw [hV]; exact if_neg fun h => hd h.1
    rw [ev]
    have HD := Lib.hid hd
    clear hd hV ev HA
    unfold WV.arr
    go_enter Try.func52, Try.ntmps52
    go_wp2_with fail
    refine (check_bad d0 d1 d2 HD.out _).mono ?_
    rintro e w1 ⟨rfl, hB1⟩
    have HB1 := Lib.hid (below_up (below_alloc (below_alloc (Below.refl _ w))) hB1)
    clear hB1
    go_wp2_with fail
    go_ret2
    exact ⟨rfl, HB1.out⟩
end Go.Proofs.Ytaldgmmmcbikgaa.TurnFitsV
