/- Jobs and tables, plain: what is answered of them; and jobs as they lie in memory. -/
import Derived.Deep.MidRow
import Derived.Test.YtaldgmmmcbikgaaMem
import Derived.Test.YtaldgmmmcbikgaaPartMath
import Derived.Test.YtaldgmmmcbikgaaTurnFitsV
namespace Go.Proofs.Ytaldgmmmcbikgaa.JobMath
open Go.RowKit Mem PosMath PartMath TurnMath TurnFitsV
set_option linter.unusedVariables false

structure JV where
  id : Int
  us : Int
  cl : Int
  x : WV
  wa : Int
  pr : Int
  he : Bool
  af : List Int
  st : Int
  ca : Int
deriving DecidableEq, Inhabited
/-- A job's numbers may be. -/
def plainB (n : Nat) (j : JV) : Bool :=
  (inB j.id 1 2147483647 && inB j.us 1 255 && inB j.cl 0 ((n : Int) - 1) && inB j.wa 1 1048576) && (inB j.pr (-1000) 1000 && inB j.ca 0 1099511627776) && (decide (1 ≤ j.st) && decide (j.st ≤ 6) && (!j.he || decide (j.st = 1)))
def risB (top : Int) : Int → List Int → Bool
  | _, [] => true
  | last, y :: t => (decide (last < y) && decide (y < top)) && risB top y t
def afterB (j : JV) : Bool := decide (j.af.length ≤ 4) && risB j.id 0 j.af
def clsOf (ks : List Cls) (n : Int) : Cls := ks.getD n.toNat (0, 0, 0, 0)
def limB (ks : List Cls) (j : JV) : Bool := decide (j.wa ≤ (clsOf ks j.cl).2.1) && decide (j.x.a * j.x.b * j.x.c ≤ (clsOf ks j.cl).2.2.1)
/-- What a job's check answers, of a config that may be. -/
def checkV (d0 d1 d2 : Int) (ks : List Cls) (j : JV) : Int :=
  if plainB ks.length j = false then 2 else if afterB j = false then 182 else if ¬ WOk j.x then 2 else if (fitsV d0 d1 d2 j.x).1 = false then 180 else if limB ks j = false then 181 else 0
def firstBad (f : JV → Int) : List JV → Int
  | [] => 0
  | j :: t => if f j ≠ 0 then f j else firstBad f t
/-- The first k numbers rise. -/
def risesK (l : List JV) : Nat → Bool
  | 0 => true
  | 1 => true
  | k + 2 => risesK l (k + 1) && decide ((l.getD k default).id < (l.getD (k + 1) default).id)
def hasB (l : List JV) (n : Int) : Bool := l.any fun j => decide (j.id = n)
def thereB (l : List JV) (j : JV) : Bool := j.af.all (hasB l)
/-- What a table's check answers, of a config that may be; f: what a job's check does. -/
def tableF (f : JV → Int) (l : List JV) : Int :=
  if 24 < l.length then 4 else if firstBad f l ≠ 0 then firstBad f l else if risesK l l.length = false then 8 else if l.all (thereB l) = false then 182 else 0
def tableV (a b c bo fr tr ag : Int) (ks : List Cls) (l : List JV) : Int :=
  if CfgOk a b c bo fr tr ag ks then tableF (checkV a b c ks) l else 8
theorem firstBad_at {f : JV → Int} : ∀ {l : List JV} {k : Nat} {x : JV}, l[k]? = some x → (∀ i y, i < k → l[i]? = some y → f y = 0) → f x ≠ 0 → firstBad f l = f x
  | [], k, x, h, _, _ => by simp at h
  | y :: t, 0, x, h, _, hx => by
    simp at h
    subst h
    simp [firstBad, hx]
  | y :: t, k + 1, x, h, hz, hx => by
    have h0 : f y = 0 := hz 0 y (by omega) rfl
    unfold firstBad
    rw [if_neg (by simp [h0])]
    exact firstBad_at (by simpa using h) (fun i z hi hz' => hz (i + 1) z (by omega) (by simpa using hz')) hx
theorem firstBad_none {f : JV → Int} : ∀ {l : List JV}, (∀ j ∈ l, f j = 0) → firstBad f l = 0
  | [], _ => rfl
  | y :: t, h => by
    unfold firstBad
    rw [if_neg (by simp [h y (List.mem_cons_self ..)])]
    exact firstBad_none fun j hj => h j (List.mem_cons_of_mem _ hj)
theorem risesK_iff {l : List JV} : ∀ {n : Nat}, risesK l n = true ↔ ∀ i, i + 1 < n → (l.getD i default).id < (l.getD (i + 1) default).id
  | 0 => by simp [risesK]
  | 1 => by simp [risesK]
  | n + 2 => by
    unfold risesK
    rw [Bool.and_eq_true, risesK_iff, decide_eq_true_eq]
    constructor
    · rintro ⟨h1, h2⟩ i hi
      rcases Nat.lt_or_ge (i + 1) (n + 1) with h | h
      · exact h1 i h
      · obtain rfl : i = n := by omega
        exact h2
    · intro h
      exact ⟨fun i hi => h i (by omega), h n (by omega)⟩
theorem risesK_less {l : List JV} {n m : Nat} (h : n ≤ m) (hf : risesK l n = false) : risesK l m = false := by
  cases hm : risesK l m
  · rfl
  · have := risesK_iff.1 hm
    have : risesK l n = true := risesK_iff.2 fun i hi => this i (by omega)
    rw [this] at hf; cases hf
theorem getD_of {l : List JV} {k : Nat} {x : JV} (h : l[k]? = some x) : l.getD k default = x := by simp [List.getD_eq_getElem?_getD, h]
/-- One more. -/
theorem risesK_step {l : List JV} {k : Nat} {x y : JV} (hx : l[k]? = some x) (hy : l[k + 1]? = some y) : risesK l (k + 2) = (risesK l (k + 1) && decide (x.id < y.id)) := by
  show (risesK l (k + 1) && decide ((l.getD k default).id < (l.getD (k + 1) default).id)) = _
  rw [getD_of hx, getD_of hy]
theorem zeros {f : JV → Int} {l : List JV} (h : ∀ i y, i < l.length → l[i]? = some y → f y = 0) : ∀ j ∈ l, f j = 0 := fun j hj => by
  obtain ⟨i, hi, e⟩ := List.mem_iff_getElem.1 hj
  exact h i j hi (by rw [List.getElem?_eq_getElem hi, e])
theorem tableF_many {f : JV → Int} {l : List JV} (h : 24 < l.length) : tableF f l = 4 := if_pos h
theorem tableF_first {f : JV → Int} {l : List JV} {k : Nat} {x : JV} (h : ¬ 24 < l.length) (hk : l[k]? = some x) (hz : ∀ i y, i < k → l[i]? = some y → f y = 0) (hx : f x ≠ 0) : tableF f l = f x := by
  have e := firstBad_at hk hz hx
  unfold tableF
  rw [if_neg h, e, if_pos hx]
theorem tableF_rise {f : JV → Int} {l : List JV} (h : ¬ 24 < l.length) (hz : ∀ i y, i < l.length → l[i]? = some y → f y = 0) (hr : risesK l l.length = false) : tableF f l = 8 := by
  have e := firstBad_none (zeros hz)
  unfold tableF
  rw [if_neg h, e, if_neg (by simp), if_pos hr]
theorem tableF_after {f : JV → Int} {l : List JV} {x : JV} (h : ¬ 24 < l.length) (hz : ∀ i y, i < l.length → l[i]? = some y → f y = 0) (hr : risesK l l.length = true) (hx : x ∈ l) (ha : thereB l x = false) : tableF f l = 182 := by
  have e := firstBad_none (zeros hz)
  have e2 : l.all (thereB l) = false := by
    rw [List.all_eq_false]
    exact ⟨x, hx, by simp [ha]⟩
  unfold tableF
  rw [if_neg h, e, if_neg (by simp), if_neg (by simp [hr]), if_pos e2]
theorem tableF_ok {f : JV → Int} {l : List JV} (h : ¬ 24 < l.length) (hz : ∀ i y, i < l.length → l[i]? = some y → f y = 0) (hr : risesK l l.length = true) (ha : ∀ i y, i < l.length → l[i]? = some y → thereB l y = true) : tableF f l = 0 := by
  have e := firstBad_none (zeros hz)
  have e2 : l.all (thereB l) = true := by
    rw [List.all_eq_true]
    intro j hj
    obtain ⟨i, hi, e⟩ := List.mem_iff_getElem.1 hj
    exact ha i j hi (by rw [List.getElem?_eq_getElem hi, e])
  unfold tableF
  rw [if_neg h, e, if_neg (by simp), if_neg (by simp [hr]), if_neg (by simp [e2])]
/-- A number's place in a table; -1: there is none. -/
def atV : List JV → Int → Int
  | [], _ => -1
  | j :: t, n => if j.id = n then 0 else if atV t n < 0 then -1 else atV t n + 1
theorem atV_cons (j : JV) (t : List JV) (n : Int) : atV (j :: t) n = if j.id = n then 0 else if atV t n < 0 then -1 else atV t n + 1 := rfl
theorem atV_ge (l : List JV) (n : Int) : -1 ≤ atV l n := by
  induction l with
  | nil => simp [atV]
  | cons j t ih => unfold atV; split; · omega
                   split <;> omega
theorem atV_at {l : List JV} {n : Int} : ∀ {k : Nat} {j : JV}, l[k]? = some j → j.id = n → (∀ i x, i < k → l[i]? = some x → x.id ≠ n) → atV l n = k := by
  induction l with
  | nil => intro k j h; simp at h
  | cons y t ih =>
    intro k j hk hj hm
    match k with
    | 0 =>
      simp at hk
      subst hk
      simp [atV, hj]
    | k + 1 =>
      have h0 : y.id ≠ n := hm 0 y (by omega) rfl
      have h1 := ih (k := k) (j := j) (by simpa using hk) hj fun i x hi hx => hm (i + 1) x (by omega) (by simpa using hx)
      unfold atV
      rw [if_neg h0, h1, if_neg (by omega)]
      omega
theorem atV_none {l : List JV} {n : Int} (h : ∀ j ∈ l, j.id ≠ n) : atV l n = -1 := by
  induction l with
  | nil => rfl
  | cons y t ih =>
    unfold atV
    rw [if_neg (h y (List.mem_cons_self ..)), ih fun j hj => h j (List.mem_cons_of_mem _ hj)]
    rfl
theorem hasB_at (l : List JV) (n : Int) : hasB l n = decide (0 ≤ atV l n) := by
  induction l with
  | nil => rfl
  | cons y t ih =>
    unfold hasB at *
    rw [List.any_cons, ih, atV_cons]
    have := atV_ge t n
    by_cases h : y.id = n
    · simp [h]
    · simp only [h, decide_false, Bool.false_or, if_false]
      by_cases h2 : atV t n < 0
      · rw [if_pos h2, decide_eq_false (by omega)]; rfl
      · rw [if_neg h2, decide_eq_true (by omega), decide_eq_true (by omega)]
/-- Numbers in memory. -/
def IntsAt (w : World) (Y : Option Addr) (l : List Int) : Prop := ∀ (i : Nat) (v : Int), l[i]? = some v → ∃ b o, Y = some ⟨b, o, none⟩ ∧ b < w.heap.size ∧ w.cell? ⟨b, o + i, none⟩ = some (.int .i64 v)
theorem IntsAt.nil {w : World} {Y : Option Addr} : IntsAt w Y [] := fun i v h => by simp at h
theorem IntsAt.up {w w' : World} {Y : Option Addr} {l : List Int} (h : IntsAt w Y l) (hB : Below w.heap.size w w') : IntsAt w' Y l := fun i v hi => by
  obtain ⟨b, o, e, hb, x⟩ := h i v hi
  exact ⟨b, o, e, Nat.lt_of_lt_of_le hb hB.size, keep_cell x hB⟩
/-- A job's cells, its After's slice given. -/
def JV.arr (j : JV) (Y : Option Addr) (c : Nat) : Array Value :=
  #[.int .i64 j.id, .int .i64 j.us, .int .i64 j.cl, .int .i64 j.x.a, .int .i64 j.x.b, .int .i64 j.x.c, .bool j.x.p, .bool j.x.q, .bool j.x.r, .bool j.x.tn, .int .i64 j.wa, .int .i64 j.pr, .bool j.he, .slice Y j.af.length c, .int .u8 j.st, .int .i64 j.ca]
/-- A job at a place. -/
def JobAt (w : World) (b o : Nat) (j : JV) (Y : Option Addr) (c : Nat) : Prop :=
  w.cell? ⟨b, o, none⟩ = some (.int .i64 j.id) ∧ w.cell? ⟨b, o + 1, none⟩ = some (.int .i64 j.us) ∧ w.cell? ⟨b, o + 2, none⟩ = some (.int .i64 j.cl) ∧
  w.cell? ⟨b, o + 3, none⟩ = some (.int .i64 j.x.a) ∧ w.cell? ⟨b, o + 4, none⟩ = some (.int .i64 j.x.b) ∧ w.cell? ⟨b, o + 5, none⟩ = some (.int .i64 j.x.c) ∧
  w.cell? ⟨b, o + 6, none⟩ = some (.bool j.x.p) ∧ w.cell? ⟨b, o + 7, none⟩ = some (.bool j.x.q) ∧ w.cell? ⟨b, o + 8, none⟩ = some (.bool j.x.r) ∧ w.cell? ⟨b, o + 9, none⟩ = some (.bool j.x.tn) ∧
  w.cell? ⟨b, o + 10, none⟩ = some (.int .i64 j.wa) ∧ w.cell? ⟨b, o + 11, none⟩ = some (.int .i64 j.pr) ∧ w.cell? ⟨b, o + 12, none⟩ = some (.bool j.he) ∧
  w.cell? ⟨b, o + 13, none⟩ = some (.slice Y j.af.length c) ∧ w.cell? ⟨b, o + 14, none⟩ = some (.int .u8 j.st) ∧ w.cell? ⟨b, o + 15, none⟩ = some (.int .i64 j.ca)
theorem JobAt.up {w w' : World} {b o : Nat} {j : JV} {Y : Option Addr} {c : Nat} (h : JobAt w b o j Y c) (hB : Below w.heap.size w w') : JobAt w' b o j Y c := by
  obtain ⟨x0, x1, x2, x3, x4, x5, x6, x7, x8, x9, x10, x11, x12, x13, x14, x15⟩ := h
  exact ⟨keep_cell x0 hB, keep_cell x1 hB, keep_cell x2 hB, keep_cell x3 hB, keep_cell x4 hB, keep_cell x5 hB, keep_cell x6 hB, keep_cell x7 hB, keep_cell x8 hB, keep_cell x9 hB, keep_cell x10 hB, keep_cell x11 hB, keep_cell x12 hB, keep_cell x13 hB, keep_cell x14 hB, keep_cell x15 hB⟩
theorem JobAt.range {w : World} {b o : Nat} {j : JV} {Y : Option Addr} {c : Nat} (h : JobAt w b o j Y c) : w.rangeAt b o
    [.int .i64 j.id, .int .i64 j.us, .int .i64 j.cl, .int .i64 j.x.a, .int .i64 j.x.b, .int .i64 j.x.c, .bool j.x.p, .bool j.x.q, .bool j.x.r, .bool j.x.tn, .int .i64 j.wa, .int .i64 j.pr, .bool j.he, .slice Y j.af.length c, .int .u8 j.st, .int .i64 j.ca] := by
  obtain ⟨x0, x1, x2, x3, x4, x5, x6, x7, x8, x9, x10, x11, x12, x13, x14, x15⟩ := h
  intro i v hi
  match i with
  | 0 => cases hi; exact x0
  | 1 => cases hi; exact x1
  | 2 => cases hi; exact x2
  | 3 => cases hi; exact x3
  | 4 => cases hi; exact x4
  | 5 => cases hi; exact x5
  | 6 => cases hi; exact x6
  | 7 => cases hi; exact x7
  | 8 => cases hi; exact x8
  | 9 => cases hi; exact x9
  | 10 => cases hi; exact x10
  | 11 => cases hi; exact x11
  | 12 => cases hi; exact x12
  | 13 => cases hi; exact x13
  | 14 => cases hi; exact x14
  | 15 => cases hi; exact x15
  | i + 16 => simp at hi
/-- A slice of jobs, wherever it lies. -/
def JobsAt (w : World) (X : Option Addr) (l : List JV) : Prop := ∀ (i : Nat) (j : JV), l[i]? = some j → ∃ b o Y c, X = some ⟨b, o, none⟩ ∧ b < w.heap.size ∧ JobAt w b (o + i * 16) j Y c ∧ IntsAt w Y j.af
theorem JobsAt.nil {w : World} {X : Option Addr} : JobsAt w X [] := fun i v h => by simp at h
theorem JobsAt.up {w w' : World} {X : Option Addr} {l : List JV} (h : JobsAt w X l) (hB : Below w.heap.size w w') : JobsAt w' X l := fun i j hi => by
  obtain ⟨b, o, Y, c, e, hb, x, y⟩ := h i j hi
  exact ⟨b, o, Y, c, e, Nat.lt_of_lt_of_le hb hB.size, x.up hB, y.up hB⟩
end Go.Proofs.Ytaldgmmmcbikgaa.JobMath
