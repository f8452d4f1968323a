/- Plain words for rotations: wants, their order, the six rotations, the one rising list of them. No program in sight. -/
import Derived.Test.YtaldgmmmcbikgaaMem
namespace Go.Proofs.Ytaldgmmmcbikgaa.TurnMath
open Go.RowKit Mem
set_option linter.unusedVariables false
set_option linter.unusedSimpArgs false

/-- What is asked for: a shape, along which axes it is a torus, whether it may be turned. -/
structure WV where
  a : Int
  b : Int
  c : Int
  p : Bool
  q : Bool
  r : Bool
  tn : Bool
deriving DecidableEq, Inhabited
def WV.cells (x : WV) : List Value := [.int .i64 x.a, .int .i64 x.b, .int .i64 x.c, .bool x.p, .bool x.q, .bool x.r, .bool x.tn]
def WV.arr (x : WV) : Array Value := #[.int .i64 x.a, .int .i64 x.b, .int .i64 x.c, .bool x.p, .bool x.q, .bool x.r, .bool x.tn]
def inD (n : Int) : Prop := 1 ≤ n ∧ n ≤ 16
instance (n : Int) : Decidable (inD n) := by unfold inD; infer_instance
def WOk (x : WV) : Prop := inD x.a ∧ inD x.b ∧ inD x.c
instance (x : WV) : Decidable (WOk x) := by unfold WOk; infer_instance
def bitI (b : Bool) : Int := if b then 1 else 0
theorem bitI_01 (b : Bool) : bitI b = 0 ∨ bitI b = 1 := by cases b <;> simp [bitI]
theorem bitI_inj {b c : Bool} (h : bitI b = bitI c) : b = c := by cases b <;> cases c <;> simp [bitI] at h ⊢
/-- Its number: greater just if it is behind. -/
def numW (x : WV) : Int := (((((x.a * 17 + x.b) * 17 + x.c) * 2 + bitI x.p) * 2 + bitI x.q) * 2 + bitI x.r)
def cmpI (x y : Int) : Int := if x < y then -1 else if y < x then 1 else 0
def cmpW (x y : WV) : Int :=
  if cmpI x.a y.a ≠ 0 then cmpI x.a y.a else if cmpI x.b y.b ≠ 0 then cmpI x.b y.b else if cmpI x.c y.c ≠ 0 then cmpI x.c y.c else
  if cmpI (bitI x.p) (bitI y.p) ≠ 0 then cmpI (bitI x.p) (bitI y.p) else if cmpI (bitI x.q) (bitI y.q) ≠ 0 then cmpI (bitI x.q) (bitI y.q) else cmpI (bitI x.r) (bitI y.r)
theorem cmpI_eq (x y : Int) : (x < y ∧ cmpI x y = -1) ∨ (x = y ∧ cmpI x y = 0) ∨ (y < x ∧ cmpI x y = 1) := by
  unfold cmpI
  split
  · left; omega
  · split
    · right; right; omega
    · right; left; omega
theorem cmpW_num {x y : WV} (hx : WOk x) (hy : WOk y) : cmpW x y = cmpI (numW x) (numW y) := by
  obtain ⟨⟨a1, a2⟩, ⟨b1, b2⟩, ⟨c1, c2⟩⟩ := hx
  obtain ⟨⟨d1, d2⟩, ⟨e1, e2⟩, ⟨f1, f2⟩⟩ := hy
  have p1 := bitI_01 x.p
  have p2 := bitI_01 x.q
  have p3 := bitI_01 x.r
  have q1 := bitI_01 y.p
  have q2 := bitI_01 y.q
  have q3 := bitI_01 y.r
  unfold cmpW numW
  generalize bitI x.p = xp at *
  generalize bitI x.q = xq at *
  generalize bitI x.r = xr at *
  generalize bitI y.p = yp at *
  generalize bitI y.q = yq at *
  generalize bitI y.r = yr at *
  generalize x.a = xa at *
  generalize x.b = xb at *
  generalize x.c = xc at *
  generalize y.a = ya at *
  generalize y.b = yb at *
  generalize y.c = yc at *
  rcases cmpI_eq xa ya with ⟨h, e⟩ | ⟨h, e⟩ | ⟨h, e⟩ <;> rw [e]
  · rw [if_pos (by decide)]; unfold cmpI; rw [if_pos (by omega)]
  · rw [if_neg (by decide)]
    rcases cmpI_eq xb yb with ⟨h', e⟩ | ⟨h', e⟩ | ⟨h', e⟩ <;> rw [e]
    · rw [if_pos (by decide)]; unfold cmpI; rw [if_pos (by omega)]
    · rw [if_neg (by decide)]
      rcases cmpI_eq xc yc with ⟨h'', e⟩ | ⟨h'', e⟩ | ⟨h'', e⟩ <;> rw [e]
      · rw [if_pos (by decide)]; unfold cmpI; rw [if_pos (by omega)]
      · rw [if_neg (by decide)]
        rcases cmpI_eq xp yp with ⟨g, e⟩ | ⟨g, e⟩ | ⟨g, e⟩ <;> rw [e]
        · rw [if_pos (by decide)]; unfold cmpI; rw [if_pos (by omega)]
        · rw [if_neg (by decide)]
          rcases cmpI_eq xq yq with ⟨g', e⟩ | ⟨g', e⟩ | ⟨g', e⟩ <;> rw [e]
          · rw [if_pos (by decide)]; unfold cmpI; rw [if_pos (by omega)]
          · rw [if_neg (by decide)]
            unfold cmpI
            have : (xr < yr) = ((((((xa * 17 + xb) * 17 + xc) * 2 + xp) * 2 + xq) * 2 + xr) < (((((ya * 17 + yb) * 17 + yc) * 2 + yp) * 2 + yq) * 2 + yr)) := by
              apply propext; constructor <;> intro <;> omega
            have h2 : (yr < xr) = ((((((ya * 17 + yb) * 17 + yc) * 2 + yp) * 2 + yq) * 2 + yr) < (((((xa * 17 + xb) * 17 + xc) * 2 + xp) * 2 + xq) * 2 + xr)) := by
              apply propext; constructor <;> intro <;> omega
            simp only [this, h2]
          · rw [if_pos (by decide)]; unfold cmpI; rw [if_neg (by omega), if_pos (by omega)]
        · rw [if_pos (by decide)]; unfold cmpI; rw [if_neg (by omega), if_pos (by omega)]
      · rw [if_pos (by decide)]; unfold cmpI; rw [if_neg (by omega), if_pos (by omega)]
    · rw [if_pos (by decide)]; unfold cmpI; rw [if_neg (by omega), if_pos (by omega)]
  · rw [if_pos (by decide)]; unfold cmpI; rw [if_neg (by omega), if_pos (by omega)]
theorem num_inj {x y : WV} (hx : WOk x) (hy : WOk y) (ht : x.tn = y.tn) (h : numW x = numW y) : x = y := by
  obtain ⟨⟨a1, a2⟩, ⟨b1, b2⟩, ⟨c1, c2⟩⟩ := hx
  obtain ⟨⟨d1, d2⟩, ⟨e1, e2⟩, ⟨f1, f2⟩⟩ := hy
  have p1 := bitI_01 x.p
  have p2 := bitI_01 x.q
  have p3 := bitI_01 x.r
  have q1 := bitI_01 y.p
  have q2 := bitI_01 y.q
  have q3 := bitI_01 y.r
  unfold numW at h
  obtain ⟨xa, xb, xc, xp, xq, xr, xt⟩ := x
  obtain ⟨ya, yb, yc, yp, yq, yr, yt⟩ := y
  dsimp only at *
  have r1 : xa = ya := by omega
  have r2 : xb = yb := by omega
  have r3 : xc = yc := by omega
  have r4 := bitI_inj (b := xp) (c := yp) (by omega)
  have r5 := bitI_inj (b := xq) (c := yq) (by omega)
  have r6 := bitI_inj (b := xr) (c := yr) (by omega)
  subst r1 r2 r3 r4 r5 r6 ht
  rfl
/-- The six rotations, in the order of the axes' orders. -/
def perm (w : WV) : Nat → WV
  | 0 => w
  | 1 => ⟨w.a, w.c, w.b, w.p, w.r, w.q, w.tn⟩
  | 2 => ⟨w.b, w.a, w.c, w.q, w.p, w.r, w.tn⟩
  | 3 => ⟨w.b, w.c, w.a, w.q, w.r, w.p, w.tn⟩
  | 4 => ⟨w.c, w.a, w.b, w.r, w.p, w.q, w.tn⟩
  | _ => ⟨w.c, w.b, w.a, w.r, w.q, w.p, w.tn⟩
def rots (w : WV) : List WV := [perm w 0, perm w 1, perm w 2, perm w 3, perm w 4, perm w 5]
theorem mem_rots {w x : WV} : x ∈ rots w ↔ ∃ k, k ≤ 5 ∧ x = perm w k := by
  unfold rots
  constructor
  · intro h
    simp only [List.mem_cons, List.not_mem_nil, or_false] at h
    rcases h with h | h | h | h | h | h
    · exact ⟨0, by omega, h⟩
    · exact ⟨1, by omega, h⟩
    · exact ⟨2, by omega, h⟩
    · exact ⟨3, by omega, h⟩
    · exact ⟨4, by omega, h⟩
    · exact ⟨5, by omega, h⟩
  · rintro ⟨k, hk, rfl⟩
    match k, hk with
    | 0, _ => simp
    | 1, _ => simp
    | 2, _ => simp
    | 3, _ => simp
    | 4, _ => simp
    | 5, _ => simp
theorem perm_ok {w : WV} (h : WOk w) (k : Nat) : WOk (perm w k) := by
  obtain ⟨h1, h2, h3⟩ := h
  match k with
  | 0 => exact ⟨h1, h2, h3⟩
  | 1 => exact ⟨h1, h3, h2⟩
  | 2 => exact ⟨h2, h1, h3⟩
  | 3 => exact ⟨h2, h3, h1⟩
  | 4 => exact ⟨h3, h1, h2⟩
  | k + 5 => exact ⟨h3, h2, h1⟩
theorem perm_tn (w : WV) (k : Nat) : (perm w k).tn = w.tn := by
  match k with
  | 0 | 1 | 2 | 3 | 4 | k + 5 => rfl
theorem rots_ok {w x : WV} (h : WOk w) (hx : x ∈ rots w) : WOk x ∧ x.tn = w.tn := by
  obtain ⟨k, _, rfl⟩ := mem_rots.1 hx
  exact ⟨perm_ok h k, perm_tn w k⟩
/-- Rising, each once. -/
def Rising (l : List WV) : Prop := l.Pairwise fun x y => numW x < numW y
/-- The list of a set. -/
def IsAll (w : WV) (l : List WV) : Prop := Rising l ∧ ∀ x, x ∈ l ↔ if w.tn = true then x ∈ rots w else x = w
theorem rising_ext : ∀ {l m : List WV}, Rising l → Rising m → (∀ x, x ∈ l ↔ x ∈ m) → l = m
  | [], [], _, _, _ => rfl
  | [], y :: m, _, _, h => by have := (h y).2 (List.mem_cons_self ..); cases this
  | x :: l, [], _, _, h => by have := (h x).1 (List.mem_cons_self ..); cases this
  | x :: l, y :: m, hl, hm, h => by
    have hl' := List.pairwise_cons.1 hl
    have hm' := List.pairwise_cons.1 hm
    have e : x = y := by
      rcases List.mem_cons.1 ((h x).1 (List.mem_cons_self ..)) with e | e
      · exact e
      · rcases List.mem_cons.1 ((h y).2 (List.mem_cons_self ..)) with e2 | e2
        · exact e2.symm
        · have h1 := hm'.1 x e
          have h2 := hl'.1 y e2
          omega
    subst e
    refine congrArg (x :: ·) (rising_ext hl'.2 hm'.2 fun z => ?_)
    constructor
    · intro hz
      rcases List.mem_cons.1 ((h z).1 (List.mem_cons_of_mem _ hz)) with e | e
      · subst e; have := hl'.1 z hz; omega
      · exact e
    · intro hz
      rcases List.mem_cons.1 ((h z).2 (List.mem_cons_of_mem _ hz)) with e | e
      · subst e; have := hm'.1 z hz; omega
      · exact e
theorem isAll_ext {w : WV} {l m : List WV} (hl : IsAll w l) (hm : IsAll w m) : l = m :=
  rising_ext hl.1 hm.1 fun x => (hl.2 x).trans (hm.2 x).symm
/-- A rising list with one more. -/
def put (x : WV) : List WV → List WV
  | [] => [x]
  | y :: l => if y = x then y :: l else if numW x < numW y then x :: y :: l else y :: put x l
theorem put_mem {x z : WV} : ∀ {l : List WV}, z ∈ put x l ↔ z = x ∨ z ∈ l
  | [] => by simp [put]
  | y :: l => by
    unfold put
    split
    · rename_i e; subst e; simp
    · split
      · simp
      · simp only [List.mem_cons, put_mem (l := l)]
        constructor
        · rintro (h | h | h)
          · exact .inr (.inl h)
          · exact .inl h
          · exact .inr (.inr h)
        · rintro (h | h | h)
          · exact .inr (.inl h)
          · exact .inl h
          · exact .inr (.inr h)
theorem put_rising {x : WV} (hx : WOk x) : ∀ {l : List WV}, Rising l → (∀ z ∈ l, WOk z ∧ z.tn = x.tn) → Rising (put x l)
  | [], _, _ => by simp [put, Rising]
  | y :: l, hl, hok => by
    have hl' := List.pairwise_cons.1 hl
    unfold put
    split
    · exact hl
    · rename_i hne
      split
      · rename_i hlt
        refine List.pairwise_cons.2 ⟨fun z hz => ?_, hl⟩
        rcases List.mem_cons.1 hz with e | e
        · rw [e]; exact hlt
        · have := hl'.1 z e; omega
      · rename_i hge
        have hy := hok y (List.mem_cons_self ..)
        have hne' : numW y ≠ numW x := fun e => hne (num_inj hy.1 hx hy.2 e)
        refine List.pairwise_cons.2 ⟨fun z hz => ?_, put_rising hx hl'.2 fun z hz => hok z (List.mem_cons_of_mem _ hz)⟩
        rcases put_mem.1 hz with e | e
        · rw [e]; omega
        · exact hl'.1 z e
/-- All: the one rising list. -/
def allL (w : WV) : List WV := if w.tn = true then (rots w).foldl (fun l x => put x l) [] else [w]
theorem fold_put {w : WV} (h : WOk w) : ∀ (xs l : List WV), (∀ x ∈ xs, WOk x ∧ x.tn = w.tn) → Rising l → (∀ x ∈ l, WOk x ∧ x.tn = w.tn) →
    Rising (xs.foldl (fun l x => put x l) l) ∧ (∀ z, z ∈ xs.foldl (fun l x => put x l) l ↔ z ∈ xs ∨ z ∈ l)
  | [], l, _, hl, _ => ⟨hl, by simp⟩
  | x :: xs, l, hx, hl, hok => by
    have h0 := hx x (List.mem_cons_self ..)
    have h1 := put_rising h0.1 hl fun z hz => ⟨(hok z hz).1, (hok z hz).2.trans h0.2.symm⟩
    have := fold_put h xs (put x l) (fun z hz => hx z (List.mem_cons_of_mem _ hz)) h1 (fun z hz => by
      rcases put_mem.1 hz with e | e
      · rw [e]; exact h0
      · exact hok z e)
    refine ⟨this.1, fun z => (this.2 z).trans ?_⟩
    simp only [put_mem, List.mem_cons]
    constructor
    · rintro (h | h | h)
      · exact .inl (.inr h)
      · exact .inl (.inl h)
      · exact .inr h
    · rintro ((h | h) | h)
      · exact .inr (.inl h)
      · exact .inl h
      · exact .inr (.inr h)
theorem allL_is {w : WV} (h : WOk w) : IsAll w (allL w) := by
  unfold IsAll allL
  by_cases ht : w.tn = true
  · simp only [ht, if_true]
    have := fold_put h (rots w) [] (fun x hx => rots_ok h hx) List.Pairwise.nil (fun x hx => by cases hx)
    exact ⟨this.1, fun z => by rw [this.2 z]; simp⟩
  · simp only [ht, if_false]
    exact ⟨by simp [Rising], fun x => by simp⟩
theorem allL_ok {w x : WV} (h : WOk w) (hx : x ∈ allL w) : WOk x ∧ x.tn = w.tn := by
  have := ((allL_is h).2 x).1 hx
  split at this
  · exact rots_ok h this
  · subst this; exact ⟨h, rfl⟩
theorem eq_allL {w : WV} (h : WOk w) {l : List WV} (hl : IsAll w l) : l = allL w := isAll_ext hl (allL_is h)
/-- Any list of which the set is known, once it rises. -/
theorem allL_of {w : WV} (h : WOk w) {l : List WV} (ht : w.tn = true) (hr : Rising l) (hm : ∀ x, x ∈ l ↔ x ∈ rots w) : l = allL w :=
  eq_allL h ⟨hr, fun x => by rw [hm x, if_pos ht]⟩
/-- Sorted, each once: rising. -/
theorem rising_of {l : List WV} (hok : ∀ x ∈ l, WOk x) (htn : ∀ x ∈ l, ∀ y ∈ l, x.tn = y.tn) (hn : l.Nodup) (hs : l.Pairwise fun x y => ¬ cmpW y x < 0) : Rising l := by
  induction l with
  | nil => exact List.Pairwise.nil
  | cons x l ih =>
    have hn' := List.nodup_cons.1 hn
    have hs' := List.pairwise_cons.1 hs
    refine List.pairwise_cons.2 ⟨fun y hy => ?_, ih (fun z hz => hok z (List.mem_cons_of_mem _ hz)) (fun z hz u hu => htn z (List.mem_cons_of_mem _ hz) u (List.mem_cons_of_mem _ hu)) hn'.2 hs'.2⟩
    have h1 := hs'.1 y hy
    have ox := hok x (List.mem_cons_self ..)
    have oy := hok y (List.mem_cons_of_mem _ hy)
    rw [cmpW_num oy ox] at h1
    have hne : numW x ≠ numW y := fun e => by
      have := num_inj ox oy (htn x (List.mem_cons_self ..) y (List.mem_cons_of_mem _ hy)) e
      rw [this] at hn'
      exact hn'.1 hy
    rcases cmpI_eq (numW y) (numW x) with ⟨g, e⟩ | ⟨g, e⟩ | ⟨g, e⟩ <;> omega
end Go.Proofs.Ytaldgmmmcbikgaa.TurnMath
