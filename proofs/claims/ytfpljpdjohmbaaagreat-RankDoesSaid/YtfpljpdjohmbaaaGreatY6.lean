/- Several texts joined: How arguments that are arrays of three integers, or of three truths, by value, are opened. No conditions but the types'. -/
import Derived.Test.YtfpljpdjohmbaaaGreatY1
import Derived.Laws.IdiomArrays
import Derived.Test.YtfpljpdjohmbaaaGreatY3
import Derived.Deep.MidRow
import Derived.Laws.AppendOwn
import Derived.Deep.Slices
import Derived.Test.YtfpljpdjohmbaaaGreatRows
import Derived.WalkKit
import Derived.WalkLawsBesides
import Derived.WalkSpells
import Derived.Outline
import Derived.IntWalk
import Derived.Lib.Hide
/-! How arguments that are arrays of three integers, or of three truths, by value, are opened. No conditions but the types'. -/
namespace Go.Proofs.YtfpljpdjohmbaaaGreat.Lay
open Go.ChangeShapes Go.WideShapes Go.ChangeAt Go.RowKit Go.Joins Go.Deep Mem
set_option linter.unusedVariables false

theorem okWide_array {P : Program} {W : World} {r : Reach} {b0 : Nat} {t e : TypeId} {n : Nat} {v : Value} (ht : P.underlying t = some (.array n e)) (h : Value.okWide P W r b0 t v) : ∃ cs : Array Value, v = .agg cs ∧ cs.size = P.cellsOf t := by
  simp only [Value.okWide, ht] at h
  cases v <;> simp_all
theorem open_arr3 {H : Type} {enc : TypeId × Value → H} {P : Program} {W : World} {r : Reach} {b0 : Nat} {t e : TypeId} {k : IntKind} {v : Value} {d : DataW H} {p : List MemPlace} {sp : Nat → Bool} {held : Bool}
    (ht : P.underlying t = some (.array 3 e)) (he : P.underlying e = some (.int k)) (hC : P.cellsOf e = 1) (hT : P.cellsOf t = 3) (hv : Value.okWide P W r b0 t v) (h : DataW.Trod enc P W 0 sp held t v d p) :
    ∃ a b c : Int, v = .agg #[.int k a, .int k b, .int k c] ∧ (Lit.int k a).wf = true ∧ (Lit.int k b).wf = true ∧ (Lit.int k c).wf = true := by
  obtain ⟨cs, rfl, hsz⟩ := okWide_array ht hv
  obtain ⟨c0, c1, c2, rfl⟩ := array3 (hsz.trans hT)
  obtain ⟨fuel, hf⟩ := h
  obtain ⟨y0, y1, y2, n, _, h0, h1, h2⟩ := trod_array3 ht hC hf
  obtain ⟨a, e0, _, wa⟩ := DataW.trod_int he h0
  obtain ⟨b, e1, _, wb⟩ := DataW.trod_int he h1
  obtain ⟨c, e2, _, wc⟩ := DataW.trod_int he h2
  simp at e0 e1 e2
  subst e0 e1 e2
  exact ⟨a, b, c, rfl, wa, wb, wc⟩
end Go.Proofs.YtfpljpdjohmbaaaGreat.Lay
/-! Plain words for partitions: numbers within bounds, classes, configs, what turns make. No program in sight. -/
namespace Go.Proofs.YtfpljpdjohmbaaaGreat.PartMath
open Go.RowKit Mem PosMath
set_option linter.unusedVariables false

def inB (n lo hi : Int) : Bool := decide (lo ≤ n ∧ n ≤ hi)
theorem inB_true {n lo hi : Int} (h : inB n lo hi = true) : lo ≤ n ∧ n ≤ hi := by simpa [inB] using h
theorem inB_mk {n lo hi : Int} (h : lo ≤ n) (h2 : n ≤ hi) : inB n lo hi = true := by simp [inB, h, h2]
abbrev Cls := Int × Int × Int × Int
def clsB (k : Cls) : Bool := inB k.1 (-1000) 1000 && inB k.2.1 1 1048576 && inB k.2.2.1 1 4096 && inB k.2.2.2 1 24
def clsA (k : Cls) : Array Value := #[.int .i64 k.1, .int .i64 k.2.1, .int .i64 k.2.2.1, .int .i64 k.2.2.2]
/-- A slice of classes. -/
def ClsAt (w : World) (B : Nat) (X : Option Addr) (ks : List Cls) : Prop := ∀ (i : Nat) (k : Cls), ks[i]? = some k → ∃ b o, X = some ⟨b, o, none⟩ ∧ b < B ∧
  w.cell? ⟨b, o + i * 4, none⟩ = some (.int .i64 k.1) ∧ w.cell? ⟨b, o + i * 4 + 1, none⟩ = some (.int .i64 k.2.1) ∧ w.cell? ⟨b, o + i * 4 + 2, none⟩ = some (.int .i64 k.2.2.1) ∧ w.cell? ⟨b, o + i * 4 + 3, none⟩ = some (.int .i64 k.2.2.2)
theorem ClsAt.below {w w' : World} {B : Nat} {X : Option Addr} {ks : List Cls} (h : ClsAt w B X ks) (hb : Below B w w') : ClsAt w' B X ks := fun i k hi => by
  obtain ⟨b, o, e, hlt, x0, x1, x2, x3⟩ := h i k hi
  exact ⟨b, o, e, hlt, (hb.cell (p := ⟨b, _, none⟩) hlt).trans x0, (hb.cell (p := ⟨b, _, none⟩) hlt).trans x1, (hb.cell (p := ⟨b, _, none⟩) hlt).trans x2, (hb.cell (p := ⟨b, _, none⟩) hlt).trans x3⟩
theorem ClsAt.more {w : World} {B B' : Nat} {X : Option Addr} {ks : List Cls} (h : ClsAt w B X ks) (hB : B ≤ B') : ClsAt w B' X ks := fun i k hi => by
  obtain ⟨b, o, e, hlt, hx⟩ := h i k hi
  exact ⟨b, o, e, by omega, hx⟩
theorem ClsAt.up {w w' : World} {X : Option Addr} {ks : List Cls} (h : ClsAt w w.heap.size X ks) (hb : Below w.heap.size w w') : ClsAt w' w'.heap.size X ks := (h.below hb).more hb.size
theorem ClsAt.nil {w : World} {B : Nat} {X : Option Addr} : ClsAt w B X [] := fun i k hi => by simp at hi
/-- A config may be. -/
def CfgOk (a b c bo fr tr ag : Int) (ks : List Cls) : Prop :=
  May a b c ∧ inB bo 1 1048576 = true ∧ inB fr 1 1048576 = true ∧ inB tr 1 5 = true ∧ inB ag 1 1048576 = true ∧ inB ks.length 1 4 = true ∧ ks.all clsB = true
instance (a b c bo fr tr ag : Int) (ks : List Cls) : Decidable (CfgOk a b c bo fr tr ag ks) := by unfold CfgOk; infer_instance
/-- A partition may be, but for its place. -/
def PartOk (job ph tt si tr : Int) : Prop := inB job 1 2147483647 = true ∧ (1 ≤ ph ∧ ph ≤ 3) ∧ inB tt 1 tr = true ∧ inB si 0 1099511627776 = true
instance (job ph tt si tr : Int) : Decidable (PartOk job ph tt si tr) := by unfold PartOk; infer_instance
/-- How long it is promised to be from Since on; when it turns. -/
def leftR (ph bo wall fr : Int) : Int := if ph = 1 then bo + wall + fr else if ph = 2 then wall + fr else fr
def clockR (ph bo wall fr : Int) : Int := if ph = 1 then bo else if ph = 2 then wall else fr
def capM (v : Int) : Int := if v ≤ 1099511627776 then v else 1099511627776
theorem capM_lo {v : Int} (h : v ≤ 1099511627776) : capM v = v := if_pos h
theorem capM_hi {v : Int} (h : ¬ v ≤ 1099511627776) : capM v = 1099511627776 := if_neg h
end Go.Proofs.YtfpljpdjohmbaaaGreat.PartMath
/-! Jobs and tables, plain: what is answered of them; and jobs as they lie in memory. -/
namespace Go.Proofs.YtfpljpdjohmbaaaGreat.JobMath
open Go.RowKit Mem PosMath PartMath TurnMath TurnFitsV
set_option linter.unusedVariables false

structure JV where
  id : Int
  us : Int
  cl : Int
  x : WV
  wa : Int
  pr : Int
  he : Bool
  af : List Int
  st : Int
  ca : Int
deriving DecidableEq, Inhabited
/-- A job's numbers may be. -/
def plainB (n : Nat) (j : JV) : Bool :=
  (inB j.id 1 2147483647 && inB j.us 1 255 && inB j.cl 0 ((n : Int) - 1) && inB j.wa 1 1048576) && (inB j.pr (-1000) 1000 && inB j.ca 0 1099511627776) && (decide (1 ≤ j.st) && decide (j.st ≤ 6) && (!j.he || decide (j.st = 1)))
def risB (top : Int) : Int → List Int → Bool
  | _, [] => true
  | last, y :: t => (decide (last < y) && decide (y < top)) && risB top y t
def afterB (j : JV) : Bool := decide (j.af.length ≤ 4) && risB j.id 0 j.af
def clsOf (ks : List Cls) (n : Int) : Cls := ks.getD n.toNat (0, 0, 0, 0)
def limB (ks : List Cls) (j : JV) : Bool := decide (j.wa ≤ (clsOf ks j.cl).2.1) && decide (j.x.a * j.x.b * j.x.c ≤ (clsOf ks j.cl).2.2.1)
/-- What a job's check answers, of a config that may be. -/
def checkV (d0 d1 d2 : Int) (ks : List Cls) (j : JV) : Int :=
  if plainB ks.length j = false then 2 else if afterB j = false then 182 else if ¬ WOk j.x then 2 else if (fitsV d0 d1 d2 j.x).1 = false then 180 else if limB ks j = false then 181 else 0
def firstBad (f : JV → Int) : List JV → Int
  | [] => 0
  | j :: t => if f j ≠ 0 then f j else firstBad f t
/-- The first k numbers rise. -/
def risesK (l : List JV) : Nat → Bool
  | 0 => true
  | 1 => true
  | k + 2 => risesK l (k + 1) && decide ((l.getD k default).id < (l.getD (k + 1) default).id)
def hasB (l : List JV) (n : Int) : Bool := l.any fun j => decide (j.id = n)
def thereB (l : List JV) (j : JV) : Bool := j.af.all (hasB l)
/-- What a table's check answers, of a config that may be; f: what a job's check does. -/
def tableF (f : JV → Int) (l : List JV) : Int :=
  if 24 < l.length then 4 else if firstBad f l ≠ 0 then firstBad f l else if risesK l l.length = false then 8 else if l.all (thereB l) = false then 182 else 0
def tableV (a b c bo fr tr ag : Int) (ks : List Cls) (l : List JV) : Int :=
  if CfgOk a b c bo fr tr ag ks then tableF (checkV a b c ks) l else 8
theorem firstBad_at {f : JV → Int} : ∀ {l : List JV} {k : Nat} {x : JV}, l[k]? = some x → (∀ i y, i < k → l[i]? = some y → f y = 0) → f x ≠ 0 → firstBad f l = f x
  | [], k, x, h, _, _ => by simp at h
  | y :: t, 0, x, h, _, hx => by
    simp at h
    subst h
    simp [firstBad, hx]
  | y :: t, k + 1, x, h, hz, hx => by
    have h0 : f y = 0 := hz 0 y (by omega) rfl
    unfold firstBad
    rw [if_neg (by simp [h0])]
    exact firstBad_at (by simpa using h) (fun i z hi hz' => hz (i + 1) z (by omega) (by simpa using hz')) hx
theorem firstBad_none {f : JV → Int} : ∀ {l : List JV}, (∀ j ∈ l, f j = 0) → firstBad f l = 0
  | [], _ => rfl
  | y :: t, h => by
    unfold firstBad
    rw [if_neg (by simp [h y (List.mem_cons_self ..)])]
    exact firstBad_none fun j hj => h j (List.mem_cons_of_mem _ hj)
theorem risesK_iff {l : List JV} : ∀ {n : Nat}, risesK l n = true ↔ ∀ i, i + 1 < n → (l.getD i default).id < (l.getD (i + 1) default).id
  | 0 => by simp [risesK]
  | 1 => by simp [risesK]
  | n + 2 => by
    unfold risesK
    rw [Bool.and_eq_true, risesK_iff, decide_eq_true_eq]
    constructor
    · rintro ⟨h1, h2⟩ i hi
      rcases Nat.lt_or_ge (i + 1) (n + 1) with h | h
      · exact h1 i h
      · obtain rfl : i = n := by omega
        exact h2
    · intro h
      exact ⟨fun i hi => h i (by omega), h n (by omega)⟩
theorem risesK_less {l : List JV} {n m : Nat} (h : n ≤ m) (hf : risesK l n = false) : risesK l m = false := by
  cases hm : risesK l m
  · rfl
  · have := risesK_iff.1 hm
    have : risesK l n = true := risesK_iff.2 fun i hi => this i (by omega)
    rw [this] at hf; cases hf
theorem getD_of {l : List JV} {k : Nat} {x : JV} (h : l[k]? = some x) : l.getD k default = x := by simp [List.getD_eq_getElem?_getD, h]
/-- One more. -/
theorem risesK_step {l : List JV} {k : Nat} {x y : JV} (hx : l[k]? = some x) (hy : l[k + 1]? = some y) : risesK l (k + 2) = (risesK l (k + 1) && decide (x.id < y.id)) := by
  show (risesK l (k + 1) && decide ((l.getD k default).id < (l.getD (k + 1) default).id)) = _
  rw [getD_of hx, getD_of hy]
theorem zeros {f : JV → Int} {l : List JV} (h : ∀ i y, i < l.length → l[i]? = some y → f y = 0) : ∀ j ∈ l, f j = 0 := fun j hj => by
  obtain ⟨i, hi, e⟩ := List.mem_iff_getElem.1 hj
  exact h i j hi (by rw [List.getElem?_eq_getElem hi, e])
theorem tableF_many {f : JV → Int} {l : List JV} (h : 24 < l.length) : tableF f l = 4 := if_pos h
theorem tableF_first {f : JV → Int} {l : List JV} {k : Nat} {x : JV} (h : ¬ 24 < l.length) (hk : l[k]? = some x) (hz : ∀ i y, i < k → l[i]? = some y → f y = 0) (hx : f x ≠ 0) : tableF f l = f x := by
  have e := firstBad_at hk hz hx
  unfold tableF
  rw [if_neg h, e, if_pos hx]
theorem tableF_rise {f : JV → Int} {l : List JV} (h : ¬ 24 < l.length) (hz : ∀ i y, i < l.length → l[i]? = some y → f y = 0) (hr : risesK l l.length = false) : tableF f l = 8 := by
  have e := firstBad_none (zeros hz)
  unfold tableF
  rw [if_neg h, e, if_neg (by simp), if_pos hr]
theorem tableF_after {f : JV → Int} {l : List JV} {x : JV} (h : ¬ 24 < l.length) (hz : ∀ i y, i < l.length → l[i]? = some y → f y = 0) (hr : risesK l l.length = true) (hx : x ∈ l) (ha : thereB l x = false) : tableF f l = 182 := by
  have e := firstBad_none (zeros hz)
  have e2 : l.all (thereB l) = false := by
    rw [List.all_eq_false]
    exact ⟨x, hx, by simp [ha]⟩
  unfold tableF
  rw [if_neg h, e, if_neg (by simp), if_neg (by simp [hr]), if_pos e2]
theorem tableF_ok {f : JV → Int} {l : List JV} (h : ¬ 24 < l.length) (hz : ∀ i y, i < l.length → l[i]? = some y → f y = 0) (hr : risesK l l.length = true) (ha : ∀ i y, i < l.length → l[i]? = some y → thereB l y = true) : tableF f l = 0 := by
  have e := firstBad_none (zeros hz)
  have e2 : l.all (thereB l) = true := by
    rw [List.all_eq_true]
    intro j hj
    obtain ⟨i, hi, e⟩ := List.mem_iff_getElem.1 hj
    exact ha i j hi (by rw [List.getElem?_eq_getElem hi, e])
  unfold tableF
  rw [if_neg h, e, if_neg (by simp), if_neg (by simp [hr]), if_neg (by simp [e2])]
/-- A number's place in a table; -1: there is none. -/
def atV : List JV → Int → Int
  | [], _ => -1
  | j :: t, n => if j.id = n then 0 else if atV t n < 0 then -1 else atV t n + 1
theorem atV_cons (j : JV) (t : List JV) (n : Int) : atV (j :: t) n = if j.id = n then 0 else if atV t n < 0 then -1 else atV t n + 1 := rfl
theorem atV_ge (l : List JV) (n : Int) : -1 ≤ atV l n := by
  induction l with
  | nil => simp [atV]
  | cons j t ih => unfold atV; split; · omega
                   split <;> omega
theorem atV_at {l : List JV} {n : Int} : ∀ {k : Nat} {j : JV}, l[k]? = some j → j.id = n → (∀ i x, i < k → l[i]? = some x → x.id ≠ n) → atV l n = k := by
  induction l with
  | nil => intro k j h; simp at h
  | cons y t ih =>
    intro k j hk hj hm
    match k with
    | 0 =>
      simp at hk
      subst hk
      simp [atV, hj]
    | k + 1 =>
      have h0 : y.id ≠ n := hm 0 y (by omega) rfl
      have h1 := ih (k := k) (j := j) (by simpa using hk) hj fun i x hi hx => hm (i + 1) x (by omega) (by simpa using hx)
      unfold atV
      rw [if_neg h0, h1, if_neg (by omega)]
      omega
theorem atV_none {l : List JV} {n : Int} (h : ∀ j ∈ l, j.id ≠ n) : atV l n = -1 := by
  induction l with
  | nil => rfl
  | cons y t ih =>
    unfold atV
    rw [if_neg (h y (List.mem_cons_self ..)), ih fun j hj => h j (List.mem_cons_of_mem _ hj)]
    rfl
theorem hasB_at (l : List JV) (n : Int) : hasB l n = decide (0 ≤ atV l n) := by
  induction l with
  | nil => rfl
  | cons y t ih =>
    unfold hasB at *
    rw [List.any_cons, ih, atV_cons]
    have := atV_ge t n
    by_cases h : y.id = n
    · simp [h]
    · simp only [h, decide_false, Bool.false_or, if_false]
      by_cases h2 : atV t n < 0
      · rw [if_pos h2, decide_eq_false (by omega)]; rfl
      · rw [if_neg h2, decide_eq_true (by omega), decide_eq_true (by omega)]
/-- Numbers in memory. -/
def IntsAt (w : World) (Y : Option Addr) (l : List Int) : Prop := ∀ (i : Nat) (v : Int), l[i]? = some v → ∃ b o, Y = some ⟨b, o, none⟩ ∧ b < w.heap.size ∧ w.cell? ⟨b, o + i, none⟩ = some (.int .i64 v)
theorem IntsAt.nil {w : World} {Y : Option Addr} : IntsAt w Y [] := fun i v h => by simp at h
theorem IntsAt.up {w w' : World} {Y : Option Addr} {l : List Int} (h : IntsAt w Y l) (hB : Below w.heap.size w w') : IntsAt w' Y l := fun i v hi => by
  obtain ⟨b, o, e, hb, x⟩ := h i v hi
  exact ⟨b, o, e, Nat.lt_of_lt_of_le hb hB.size, keep_cell x hB⟩
/-- A job's cells, its After's slice given. -/
def JV.arr (j : JV) (Y : Option Addr) (c : Nat) : Array Value :=
  #[.int .i64 j.id, .int .i64 j.us, .int .i64 j.cl, .int .i64 j.x.a, .int .i64 j.x.b, .int .i64 j.x.c, .bool j.x.p, .bool j.x.q, .bool j.x.r, .bool j.x.tn, .int .i64 j.wa, .int .i64 j.pr, .bool j.he, .slice Y j.af.length c, .int .u8 j.st, .int .i64 j.ca]
/-- A job at a place. -/
def JobAt (w : World) (b o : Nat) (j : JV) (Y : Option Addr) (c : Nat) : Prop :=
  w.cell? ⟨b, o, none⟩ = some (.int .i64 j.id) ∧ w.cell? ⟨b, o + 1, none⟩ = some (.int .i64 j.us) ∧ w.cell? ⟨b, o + 2, none⟩ = some (.int .i64 j.cl) ∧
  w.cell? ⟨b, o + 3, none⟩ = some (.int .i64 j.x.a) ∧ w.cell? ⟨b, o + 4, none⟩ = some (.int .i64 j.x.b) ∧ w.cell? ⟨b, o + 5, none⟩ = some (.int .i64 j.x.c) ∧
  w.cell? ⟨b, o + 6, none⟩ = some (.bool j.x.p) ∧ w.cell? ⟨b, o + 7, none⟩ = some (.bool j.x.q) ∧ w.cell? ⟨b, o + 8, none⟩ = some (.bool j.x.r) ∧ w.cell? ⟨b, o + 9, none⟩ = some (.bool j.x.tn) ∧
  w.cell? ⟨b, o + 10, none⟩ = some (.int .i64 j.wa) ∧ w.cell? ⟨b, o + 11, none⟩ = some (.int .i64 j.pr) ∧ w.cell? ⟨b, o + 12, none⟩ = some (.bool j.he) ∧
  w.cell? ⟨b, o + 13, none⟩ = some (.slice Y j.af.length c) ∧ w.cell? ⟨b, o + 14, none⟩ = some (.int .u8 j.st) ∧ w.cell? ⟨b, o + 15, none⟩ = some (.int .i64 j.ca)
theorem JobAt.up {w w' : World} {b o : Nat} {j : JV} {Y : Option Addr} {c : Nat} (h : JobAt w b o j Y c) (hB : Below w.heap.size w w') : JobAt w' b o j Y c := by
  obtain ⟨x0, x1, x2, x3, x4, x5, x6, x7, x8, x9, x10, x11, x12, x13, x14, x15⟩ := h
  exact ⟨keep_cell x0 hB, keep_cell x1 hB, keep_cell x2 hB, keep_cell x3 hB, keep_cell x4 hB, keep_cell x5 hB, keep_cell x6 hB, keep_cell x7 hB, keep_cell x8 hB, keep_cell x9 hB, keep_cell x10 hB, keep_cell x11 hB, keep_cell x12 hB, keep_cell x13 hB, keep_cell x14 hB, keep_cell x15 hB⟩
theorem JobAt.range {w : World} {b o : Nat} {j : JV} {Y : Option Addr} {c : Nat} (h : JobAt w b o j Y c) : w.rangeAt b o
    [.int .i64 j.id, .int .i64 j.us, .int .i64 j.cl, .int .i64 j.x.a, .int .i64 j.x.b, .int .i64 j.x.c, .bool j.x.p, .bool j.x.q, .bool j.x.r, .bool j.x.tn, .int .i64 j.wa, .int .i64 j.pr, .bool j.he, .slice Y j.af.length c, .int .u8 j.st, .int .i64 j.ca] := by
  obtain ⟨x0, x1, x2, x3, x4, x5, x6, x7, x8, x9, x10, x11, x12, x13, x14, x15⟩ := h
  intro i v hi
  match i with
  | 0 => cases hi; exact x0
  | 1 => cases hi; exact x1
  | 2 => cases hi; exact x2
  | 3 => cases hi; exact x3
  | 4 => cases hi; exact x4
  | 5 => cases hi; exact x5
  | 6 => cases hi; exact x6
  | 7 => cases hi; exact x7
  | 8 => cases hi; exact x8
  | 9 => cases hi; exact x9
  | 10 => cases hi; exact x10
  | 11 => cases hi; exact x11
  | 12 => cases hi; exact x12
  | 13 => cases hi; exact x13
  | 14 => cases hi; exact x14
  | 15 => cases hi; exact x15
  | i + 16 => simp at hi
/-- A slice of jobs, wherever it lies. -/
def JobsAt (w : World) (X : Option Addr) (l : List JV) : Prop := ∀ (i : Nat) (j : JV), l[i]? = some j → ∃ b o Y c, X = some ⟨b, o, none⟩ ∧ b < w.heap.size ∧ JobAt w b (o + i * 16) j Y c ∧ IntsAt w Y j.af
theorem JobsAt.nil {w : World} {X : Option Addr} : JobsAt w X [] := fun i v h => by simp at h
theorem JobsAt.up {w w' : World} {X : Option Addr} {l : List JV} (h : JobsAt w X l) (hB : Below w.heap.size w w') : JobsAt w' X l := fun i j hi => by
  obtain ⟨b, o, Y, c, e, hb, x, y⟩ := h i j hi
  exact ⟨b, o, Y, c, e, Nat.lt_of_lt_of_le hb hB.size, x.up hB, y.up hB⟩
end Go.Proofs.YtfpljpdjohmbaaaGreat.JobMath
/-! Tables of one's own in memory: made, changed. -/
namespace Go.Proofs.YtfpljpdjohmbaaaGreat.JobMem
open Go.RowKit Mem PosMath PartMath TurnMath JobMath
set_option linter.unusedVariables false
set_option linter.unusedSimpArgs false

/-- Numbers in memory below block B. -/
def IntsIn (w : World) (B : Nat) (Y : Option Addr) (l : List Int) : Prop := ∀ (i : Nat) (v : Int), l[i]? = some v → ∃ b o, Y = some ⟨b, o, none⟩ ∧ b < B ∧ b < w.heap.size ∧ w.cell? ⟨b, o + i, none⟩ = some (.int .i64 v)
/-- Numbers in memory of one's own, from block B on, and not in block g. -/
def IntsOwn (w : World) (B g : Nat) (Y : Option Addr) (l : List Int) : Prop := ∀ (i : Nat) (v : Int), l[i]? = some v → ∃ b o, Y = some ⟨b, o, none⟩ ∧ B ≤ b ∧ b ≠ g ∧ b < w.heap.size ∧ w.cell? ⟨b, o + i, none⟩ = some (.int .i64 v) ∧ w.frozen? ⟨b, o + i, none⟩ = false
theorem IntsOwn.ints {w : World} {B g : Nat} {Y : Option Addr} {l : List Int} (h : IntsOwn w B g Y l) : IntsAt w Y l := fun i v hi => by
  obtain ⟨b, o, e, _, _, hb, x, _⟩ := h i v hi
  exact ⟨b, o, e, hb, x⟩
theorem IntsIn.ints {w : World} {B : Nat} {Y : Option Addr} {l : List Int} (h : IntsIn w B Y l) : IntsAt w Y l := fun i v hi => by
  obtain ⟨b, o, e, _, hb, x⟩ := h i v hi
  exact ⟨b, o, e, hb, x⟩
theorem IntsAt.in_ {w : World} {Y : Option Addr} {l : List Int} (h : IntsAt w Y l) : IntsIn w w.heap.size Y l := fun i v hi => by
  obtain ⟨b, o, e, hb, x⟩ := h i v hi
  exact ⟨b, o, e, hb, hb, x⟩
theorem IntsIn.up {w w' : World} {B : Nat} {Y : Option Addr} {l : List Int} (h : IntsIn w B Y l) (hB : Below w.heap.size w w') : IntsIn w' B Y l := fun i v hi => by
  obtain ⟨b, o, e, h1, hb, x⟩ := h i v hi
  exact ⟨b, o, e, h1, Nat.lt_of_lt_of_le hb hB.size, keep_cell x hB⟩
theorem frozen_keep {w w' : World} {a : Addr} (h : w.frozen? a = false) (ha : a.block < w.heap.size) (hB : Below w.heap.size w w') : w'.frozen? a = false := by
  rw [hB.frozen ha]; exact h
theorem IntsOwn.up {w w' : World} {B g : Nat} {Y : Option Addr} {l : List Int} (h : IntsOwn w B g Y l) (hB : Below w.heap.size w w') : IntsOwn w' B g Y l := fun i v hi => by
  obtain ⟨b, o, e, h1, h2, hb, x, y⟩ := h i v hi
  exact ⟨b, o, e, h1, h2, Nat.lt_of_lt_of_le hb hB.size, keep_cell x hB, frozen_keep y hb hB⟩
theorem IntsOwn.less {w : World} {B B' g : Nat} {Y : Option Addr} {l : List Int} (h : IntsOwn w B g Y l) (hB : B' ≤ B) : IntsOwn w B' g Y l := fun i v hi => by
  obtain ⟨b, o, e, h1, h2, hb, x, y⟩ := h i v hi
  exact ⟨b, o, e, Nat.le_trans hB h1, h2, hb, x, y⟩
/-- New numbers lie in no old block. -/
theorem IntsOwn.other {w : World} {B g g' : Nat} {Y : Option Addr} {l : List Int} (h : IntsOwn w B g Y l) (hg : g' < B) : IntsOwn w B g' Y l := fun i v hi => by
  obtain ⟨b, o, e, h1, h2, hb, x, y⟩ := h i v hi
  exact ⟨b, o, e, h1, by omega, hb, x, y⟩
theorem cell_set_far {w : World} {a p : Addr} {u v : Value} (h : w.cell? a = some u) (hne : a ≠ p) : (w.setCell p v).cell? a = some u := by
  rw [World.cell?_setCell_other _ _ _ _ hne.symm]; exact h
theorem IntsOwn.set_ {w : World} {B g : Nat} {Y : Option Addr} {l : List Int} (h : IntsOwn w B g Y l) (o' : Nat) (u : Value) : IntsOwn (w.setCell ⟨g, o', none⟩ u) B g Y l := fun i v hi => by
  obtain ⟨b, o, e, h1, h2, hb, x, y⟩ := h i v hi
  exact ⟨b, o, e, h1, h2, by rw [World.size_setCell]; exact hb, cell_set_far x (by simp [h2]), by rw [World.frozen?_setCell]; exact y⟩
theorem IntsIn.set_ {w : World} {B g : Nat} {Y : Option Addr} {l : List Int} (h : IntsIn w B Y l) (hg : B ≤ g) (o' : Nat) (u : Value) : IntsIn (w.setCell ⟨g, o', none⟩ u) B Y l := fun i v hi => by
  obtain ⟨b, o, e, h1, hb, x⟩ := h i v hi
  exact ⟨b, o, e, h1, by rw [World.size_setCell]; exact hb, cell_set_far x (by simp <;> omega)⟩
/-- Cells that may be written. -/
def FreeAt (w : World) (b o n : Nat) : Prop := ∀ i, i < n → w.frozen? ⟨b, o + i, none⟩ = false
theorem FreeAt.up {w w' : World} {b o n : Nat} (h : FreeAt w b o n) (hb : b < w.heap.size) (hB : Below w.heap.size w w') : FreeAt w' b o n := fun i hi => frozen_keep (h i hi) hb hB
theorem FreeAt.set_ {w : World} {b o n : Nat} (h : FreeAt w b o n) (p : Addr) (u : Value) : FreeAt (w.setCell p u) b o n := fun i hi => by rw [World.frozen?_setCell]; exact h i hi
/-- A new table: the first k of its jobs have numbers of their own, the others still those of before. -/
def Mid (w : World) (B : Nat) (X : Option Addr) (l : List JV) (k : Nat) : Prop := ∀ (i : Nat) (j : JV), l[i]? = some j → ∃ g Y c, X = some ⟨g, 0, none⟩ ∧ B ≤ g ∧ g < w.heap.size ∧ JobAt w g (i * 16) j Y c ∧ FreeAt w g (i * 16) 16 ∧ (i < k → IntsOwn w B g Y j.af) ∧ (k ≤ i → IntsIn w B Y j.af)
/-- A table of one's own. -/
def JobsOwn (w : World) (B : Nat) (X : Option Addr) (l : List JV) : Prop := Mid w B X l l.length
theorem Mid.up {w w' : World} {B : Nat} {X : Option Addr} {l : List JV} {k : Nat} (h : Mid w B X l k) (hB : Below w.heap.size w w') : Mid w' B X l k := fun i j hi => by
  obtain ⟨g, Y, c, e, h1, hg, x, f, a, b⟩ := h i j hi
  exact ⟨g, Y, c, e, h1, Nat.lt_of_lt_of_le hg hB.size, x.up hB, f.up hg hB, fun h => (a h).up hB, fun h => (b h).up hB⟩
theorem JobsOwn.up {w w' : World} {B : Nat} {X : Option Addr} {l : List JV} (h : JobsOwn w B X l) (hB : Below w.heap.size w w') : JobsOwn w' B X l := Mid.up h hB
theorem JobsOwn.jobs {w : World} {B : Nat} {X : Option Addr} {l : List JV} (h : JobsOwn w B X l) : JobsAt w X l := fun i j hi => by
  obtain ⟨g, Y, c, e, h1, hg, x, f, a, b⟩ := h i j hi
  exact ⟨g, 0, Y, c, e, hg, by rw [Nat.zero_add]; exact x, (a (List.getElem?_eq_some_iff.1 hi).1).ints⟩
theorem JobsOwn.nil {w : World} {B : Nat} {X : Option Addr} : JobsOwn w B X [] := fun i j h => by simp at h
theorem JobAt.far {w : World} {b o : Nat} {j : JV} {Y : Option Addr} {c : Nat} (h : JobAt w b o j Y c) (p : Addr) (u : Value) (hp : ∀ t, t < 16 → (⟨b, o + t, none⟩ : Addr) ≠ p) : JobAt (w.setCell p u) b o j Y c := by
  obtain ⟨x0, x1, x2, x3, x4, x5, x6, x7, x8, x9, x10, x11, x12, x13, x14, x15⟩ := h
  exact ⟨cell_set_far x0 (hp 0 (by omega)), cell_set_far x1 (hp 1 (by omega)), cell_set_far x2 (hp 2 (by omega)), cell_set_far x3 (hp 3 (by omega)), cell_set_far x4 (hp 4 (by omega)), cell_set_far x5 (hp 5 (by omega)), cell_set_far x6 (hp 6 (by omega)), cell_set_far x7 (hp 7 (by omega)), cell_set_far x8 (hp 8 (by omega)), cell_set_far x9 (hp 9 (by omega)), cell_set_far x10 (hp 10 (by omega)), cell_set_far x11 (hp 11 (by omega)), cell_set_far x12 (hp 12 (by omega)), cell_set_far x13 (hp 13 (by omega)), cell_set_far x14 (hp 14 (by omega)), cell_set_far x15 (hp 15 (by omega))⟩
theorem job_set13 {w : World} {b o : Nat} {j : JV} {Y Y' : Option Addr} {c c' : Nat} (h : JobAt w b o j Y c) : JobAt (w.setCell ⟨b, o + 13, none⟩ (.slice Y' j.af.length c')) b o j Y' c' := by
  obtain ⟨x0, x1, x2, x3, x4, x5, x6, x7, x8, x9, x10, x11, x12, x13, x14, x15⟩ := h
  exact ⟨cell_set_far x0 (by simp), cell_set_far x1 (by simp), cell_set_far x2 (by simp), cell_set_far x3 (by simp), cell_set_far x4 (by simp), cell_set_far x5 (by simp), cell_set_far x6 (by simp), cell_set_far x7 (by simp), cell_set_far x8 (by simp), cell_set_far x9 (by simp), cell_set_far x10 (by simp), cell_set_far x11 (by simp), cell_set_far x12 (by simp), World.cell?_setCell_same _ _ _ x13, cell_set_far x14 (by simp), cell_set_far x15 (by simp)⟩
theorem Mid.step {w : World} {B : Nat} {g : Nat} {l : List JV} {k : Nat} {x : JV} {Y' : Option Addr} {c' : Nat} (h : Mid w B (some ⟨g, 0, none⟩) l k) (hk : l[k]? = some x) (hB : B ≤ g) (hY : IntsOwn w B g Y' x.af) :
    Mid (w.setCell ⟨g, k * 16 + 13, none⟩ (.slice Y' x.af.length c')) B (some ⟨g, 0, none⟩) l (k + 1) := fun i j hi => by
  obtain ⟨g', Y, c, e, h1, hg, hx, f, a, b⟩ := h i j hi
  have e' : g' = g := by simp at e; exact e.symm
  subst e'
  by_cases hik : i = k
  · subst hik
    rw [hk] at hi
    cases hi
    refine ⟨g', Y', c', rfl, h1, by rw [World.size_setCell]; exact hg, job_set13 hx, f.set_ _ _, fun _ => hY.set_ _ _, fun h => by omega⟩
  · refine ⟨g', Y, c, rfl, h1, by rw [World.size_setCell]; exact hg, JobAt.far hx _ _ (fun t ht => by simp <;> omega), f.set_ _ _, fun h => (a (by omega)).set_ _ _, fun h => (b (by omega)).set_ h1 _ _⟩
/-- One job's cells, one by one. -/
theorem job_cell {w : World} {b o : Nat} {j : JV} {Y : Option Addr} {c : Nat} (h : JobAt w b o j Y c) (t : Nat) (ht : t < 16) : ∃ u, w.cell? ⟨b, o + t, none⟩ = some u ∧ u.oneCell' = true ∧ (j.arr Y c)[t]? = some u := by
  obtain ⟨x0, x1, x2, x3, x4, x5, x6, x7, x8, x9, x10, x11, x12, x13, x14, x15⟩ := h
  match t, ht with
  | 0, _ => exact ⟨_, x0, rfl, rfl⟩
  | 1, _ => exact ⟨_, x1, rfl, rfl⟩
  | 2, _ => exact ⟨_, x2, rfl, rfl⟩
  | 3, _ => exact ⟨_, x3, rfl, rfl⟩
  | 4, _ => exact ⟨_, x4, rfl, rfl⟩
  | 5, _ => exact ⟨_, x5, rfl, rfl⟩
  | 6, _ => exact ⟨_, x6, rfl, rfl⟩
  | 7, _ => exact ⟨_, x7, rfl, rfl⟩
  | 8, _ => exact ⟨_, x8, rfl, rfl⟩
  | 9, _ => exact ⟨_, x9, rfl, rfl⟩
  | 10, _ => exact ⟨_, x10, rfl, rfl⟩
  | 11, _ => exact ⟨_, x11, rfl, rfl⟩
  | 12, _ => exact ⟨_, x12, rfl, rfl⟩
  | 13, _ => exact ⟨_, x13, rfl, rfl⟩
  | 14, _ => exact ⟨_, x14, rfl, rfl⟩
  | 15, _ => exact ⟨_, x15, rfl, rfl⟩
  | t + 16, ht => omega
theorem job_of_cells {w : World} {b o : Nat} {j : JV} {Y : Option Addr} {c : Nat} (h : ∀ t u, t < 16 → (j.arr Y c)[t]? = some u → w.cell? ⟨b, o + t, none⟩ = some u) : JobAt w b o j Y c :=
  ⟨h 0 _ (by omega) rfl, h 1 _ (by omega) rfl, h 2 _ (by omega) rfl, h 3 _ (by omega) rfl, h 4 _ (by omega) rfl, h 5 _ (by omega) rfl, h 6 _ (by omega) rfl, h 7 _ (by omega) rfl, h 8 _ (by omega) rfl, h 9 _ (by omega) rfl, h 10 _ (by omega) rfl, h 11 _ (by omega) rfl, h 12 _ (by omega) rfl, h 13 _ (by omega) rfl, h 14 _ (by omega) rfl, h 15 _ (by omega) rfl⟩
/-- What a slice of jobs holds, cell by cell. -/
def rawOf (w : World) (b o n : Nat) : List Value := (List.range (n * 16)).map fun t => (w.cell? ⟨b, o + t, none⟩).getD default
theorem raw_get {w : World} {b o n t : Nat} {u : Value} (ht : t < n * 16) (h : w.cell? ⟨b, o + t, none⟩ = some u) : (rawOf w b o n)[t]? = some u := by
  unfold rawOf
  simp [ht, h]
theorem raw_reads {w : World} {b o : Nat} {l : List JV} (h : JobsAt w (some ⟨b, o, none⟩) l) :
    Reads w w.heap.size 16 (some ⟨b, o, none⟩) l.length (rawOf w b o l.length) ∧ (∀ u ∈ rawOf w b o l.length, u.oneCell' = true) ∧
      ∀ i j, l[i]? = some j → ∃ Y c, IntsAt w Y j.af ∧ ∀ t u, t < 16 → (j.arr Y c)[t]? = some u → (rawOf w b o l.length)[i * 16 + t]? = some u := by
  have key : ∀ t, t < l.length * 16 → ∃ u, w.cell? ⟨b, o + t, none⟩ = some u ∧ u.oneCell' = true := fun t ht => by
    have hi : t / 16 < l.length := by omega
    obtain ⟨b', o', Y, c, e, hb, hj, hY⟩ := h (t / 16) _ (List.getElem?_eq_getElem hi)
    have e2 : b' = b ∧ o' = o := by simp at e; exact ⟨e.1.symm, e.2.symm⟩
    obtain ⟨rfl, rfl⟩ := e2
    obtain ⟨u, hu, h1, _⟩ := job_cell hj (t % 16) (Nat.mod_lt _ (by omega))
    rw [show o' + t / 16 * 16 + t % 16 = o' + t by omega] at hu
    exact ⟨u, hu, h1⟩
  refine ⟨⟨by simp [rawOf], fun hn => ?_⟩, fun u hu => ?_, fun i j hi => ?_⟩
  · obtain ⟨b', o', Y, c, e, hb, _⟩ := h 0 _ (List.getElem?_eq_getElem hn)
    have e2 : b' = b := by simp at e; exact e.1.symm
    subst e2
    refine ⟨_, rfl, hb, fun t u hu => ?_⟩
    have ht : t < l.length * 16 := by have := (List.getElem?_eq_some_iff.1 hu).1; simpa [rawOf] using this
    obtain ⟨u', hu', _⟩ := key t ht
    rw [add_flat, hu']
    rw [raw_get ht hu'] at hu
    exact hu
  · obtain ⟨t, ht, rfl⟩ := List.mem_iff_getElem.1 hu
    have ht' : t < l.length * 16 := by simpa [rawOf] using ht
    obtain ⟨u', hu', h1⟩ := key t ht'
    have := raw_get ht' hu'
    rw [List.getElem?_eq_getElem ht] at this
    cases this
    exact h1
  · obtain ⟨b', o', Y, c, e, hb, hj, hY⟩ := h i j hi
    have e2 : b' = b ∧ o' = o := by simp at e; exact ⟨e.1.symm, e.2.symm⟩
    obtain ⟨rfl, rfl⟩ := e2
    refine ⟨Y, c, hY, fun t u ht hu => ?_⟩
    obtain ⟨u', hu', _, h2⟩ := job_cell hj t ht
    rw [h2] at hu
    cases hu
    have hil := (List.getElem?_eq_some_iff.1 hi).1
    exact raw_get (by omega) (by rw [show o' + (i * 16 + t) = o' + i * 16 + t by omega]; exact hu')
/-- Own memory that holds what a slice of jobs held: a new table, its numbers still those of before. -/
theorem mid_of_own {w w' : World} {B b o n : Nat} {e : TypeId} {v : Value} {l : List JV} (hB : Below w.heap.size w w') (hw : B = w.heap.size) (h : JobsAt w (some ⟨b, o, none⟩) l) (hn : n = l.length) (ho : w'.ownsRow B e 16 v n (rawOf w b o l.length)) :
    ∃ X c, v = .slice X l.length c ∧ Mid w' B X l 0 := by
  subst hn hw
  rcases ho.2 with ⟨rfl, e0⟩ | ⟨g, cap, cur, rfl, hb, hg, hc, hm, hs, ht⟩
  · obtain rfl : l = [] := List.eq_nil_of_length_eq_zero e0
    exact ⟨none, 0, rfl, fun i j h => by simp at h⟩
  · refine ⟨some ⟨g, 0, none⟩, cap, rfl, fun i j hi => ?_⟩
    obtain ⟨_, _, hr⟩ := raw_reads h
    obtain ⟨Y, c, hY, hcell⟩ := hr i j hi
    have hil := (List.getElem?_eq_some_iff.1 hi).1
    have kb : Blk w' g e cur := hg
    refine ⟨g, Y, c, rfl, hb, kb.lt, job_of_cells fun t u ht' hu => ?_, fun t ht' => kb.frozen _, fun h => by omega, fun _ => (IntsAt.in_ hY).up hB⟩
    have h1 := hcell t u ht' hu
    rw [← ht, List.getElem?_take_of_lt (by omega)] at h1
    rw [kb.cell]
    simpa using h1
theorem ints_of_own {w' : World} {B n : Nat} {e : TypeId} {v : Value} {l : List Int} {g0 : Nat} (hg0 : g0 < B) (hn : n = l.length) (ho : w'.ownsRow B e 1 v n (l.map (Value.int .i64))) : ∃ Y c, v = .slice Y l.length c ∧ IntsOwn w' B g0 Y l := by
  subst hn
  rcases ho.2 with ⟨rfl, e0⟩ | ⟨g, cap, cur, rfl, hb, hg, hc, hm, hs, ht⟩
  · obtain rfl : l = [] := List.eq_nil_of_length_eq_zero e0
    exact ⟨none, 0, rfl, fun i j h => by simp at h⟩
  · refine ⟨some ⟨g, 0, none⟩, cap, rfl, fun i v hi => ?_⟩
    have hil := (List.getElem?_eq_some_iff.1 hi).1
    have kb : Blk w' g e cur := hg
    refine ⟨g, 0, rfl, hb, by omega, kb.lt, ?_, kb.frozen _⟩
    rw [kb.cell, Nat.zero_add]
    have h1 : (l.map (Value.int .i64))[i]? = some (.int .i64 v) := by simp [hi]
    rw [← ht, List.getElem?_take_of_lt (by omega)] at h1
    simpa using h1
theorem ints_reads {w : World} {Y : Option Addr} {l : List Int} (h : IntsAt w Y l) : Reads w w.heap.size 1 Y l.length (l.map (Value.int .i64)) := by
  refine ⟨by simp, fun hn => ?_⟩
  obtain ⟨b, o, rfl, hb, _⟩ := h 0 _ (List.getElem?_eq_getElem hn)
  refine ⟨_, rfl, hb, fun t u hu => ?_⟩
  rw [List.getElem?_map] at hu
  cases hl : l[t]? with
  | none => rw [hl] at hu; simp at hu
  | some v =>
    rw [hl] at hu
    simp at hu
    subst hu
    obtain ⟨b', o', e, _, hc⟩ := h t v hl
    have e2 : b' = b ∧ o' = o := by simp at e; exact ⟨e.1.symm, e.2.symm⟩
    obtain ⟨rfl, rfl⟩ := e2
    rw [add_flat]
    exact hc
end Go.Proofs.YtfpljpdjohmbaaaGreat.JobMem
/-! How arguments that are jobs, or tables of jobs, are opened. No conditions. -/
namespace Go.Proofs.YtfpljpdjohmbaaaGreat.Lay
open Go.ChangeShapes Go.WideShapes Go.ChangeAt Go.RowKit Go.Joins Go.Deep Mem TurnMath TurnMap JobMath JobMem
set_option linter.unusedVariables false
set_option linter.unusedSimpArgs false

/-- Numbers that came in. -/
theorem ints_trod {H : Type} {enc : TypeId × Value → H} {W : World} {held : Bool} {fuel : Nat} {v : Value} {x : DataW H × List MemPlace} (hf : DataW.trod enc Tryz.prog W 0 (fun _ => true) held fuel 31 [v] = some x) :
    ∃ (Y : Option Addr) (c : Nat) (l : List Int), v = .slice Y l.length c ∧ l.length ≤ c ∧ c ≤ maxLen ∧ IntsAt W Y l ∧ ∀ n ∈ l, (Lit.int .i64 n).wf = true := by
  rcases open_ints Tryz.underlying31 Tryz.underlying3 (by kernel_rfl) hf with ⟨hcs, _⟩ | ⟨a, len, cap, zs, hcs, _, hl, hm, hz, _, hcell, hwz⟩
  · simp at hcs
    exact ⟨none, 0, [], hcs, by simp, by simp [maxLen], IntsAt.nil, by simp⟩
  · simp at hcs
    have hzl : zs.length = cap := by simpa using hz
    have hlen : (zs.take len).length = len := by simp; omega
    refine ⟨some a, cap, zs.take len, by rw [hcs, hlen], by omega, hm, fun i n hi => ?_, fun n hn => hwz n (List.mem_of_mem_take hn)⟩
    have hil : i < len := by have := (List.getElem?_eq_some_iff.1 hi).1; simp at this; omega
    rw [List.getElem?_take_of_lt hil] at hi
    have hc := hcell i (by omega)
    have h0 := hcell 0 (by omega)
    have h0' : W.cell? a = some (.int .i64 (zs.getD 0 0)) := by
      have e : a.add 0 = a := by obtain ⟨b, o, s⟩ := a; simp [Addr.add]
      rwa [e] at h0
    have hs := World.cell?_spot h0'
    obtain ⟨b, o, s⟩ := a
    simp at hs
    subst hs
    refine ⟨b, o, rfl, block_of_cell h0', ?_⟩
    rw [add_flat] at hc
    rw [hc, List.getD_eq_getElem?_getD, hi]
    rfl
/-- A job's numbers, as they come in. -/
def JWf (j : JV) : Prop := (Lit.int .i64 j.id).wf = true ∧ (Lit.int .i64 j.us).wf = true ∧ (Lit.int .i64 j.cl).wf = true ∧ WWf j.x ∧ (Lit.int .i64 j.wa).wf = true ∧ (Lit.int .i64 j.pr).wf = true ∧ (Lit.int .u8 j.st).wf = true ∧ (Lit.int .i64 j.ca).wf = true ∧ ∀ n ∈ j.af, (Lit.int .i64 n).wf = true
set_option maxRecDepth 100000 in
theorem trod_job {H : Type} {enc : TypeId × Value → H} {W : World} {held : Bool} {fuel : Nat} {cs : List Value} {x : DataW H × List MemPlace} (hlen : cs.length = 16) (h : DataW.trod enc Tryz.prog W 0 (fun _ => true) held fuel 33 cs = some x) :
    ∃ (j : JV) (Y : Option Addr) (c : Nat), cs = (j.arr Y c).toList ∧ j.af.length ≤ c ∧ c ≤ maxLen ∧ IntsAt W Y j.af ∧ JWf j := by
  obtain ⟨xs, n, _, hx, _, hl, hg⟩ := DataW.trod_struct Tryz.underlying33 h
  have ki : Tryz.prog.cellsOf 3 = 1 := by kernel_rfl
  have kb : Tryz.prog.cellsOf 4 = 1 := by kernel_rfl
  have ku : Tryz.prog.cellsOf 5 = 1 := by kernel_rfl
  have kw : Tryz.prog.cellsOf 30 = 7 := by kernel_rfl
  have ks : Tryz.prog.cellsOf 31 = 1 := by kernel_rfl
  have k3 : Tryz.prog.cellsOf 22 = 3 := by kernel_rfl
  have kb3 : Tryz.prog.cellsOf 28 = 3 := by kernel_rfl
  match cs, hlen with
  | [c0, c1, c2, c3, c4, c5, c6, c7, c8, c9, c10, c11, c12, c13, c14, c15], _ =>
    have q0 := hg 0 _ rfl
    have q1 := hg 1 _ rfl
    have q2 := hg 2 _ rfl
    have q3 := hg 3 _ rfl
    have q4 := hg 4 _ rfl
    have q5 := hg 5 _ rfl
    have q6 := hg 6 _ rfl
    have q7 := hg 7 _ rfl
    have q8 := hg 8 _ rfl
    have q9 := hg 9 _ rfl
    match xs, hl with
    | [z0, z1, z2, z3, z4, z5, z6, z7, z8, z9], _ =>
      simp only [List.getElem_toArray, List.getElem_cons_zero, List.getElem_cons_succ] at q0
      rw [ki] at q0
      simp at q0
      simp only [List.getElem_toArray, List.getElem_cons_zero, List.getElem_cons_succ] at q1
      rw [ki] at q1
      simp at q1
      simp only [List.getElem_toArray, List.getElem_cons_zero, List.getElem_cons_succ] at q2
      rw [ki] at q2
      simp at q2
      simp only [List.getElem_toArray, List.getElem_cons_zero, List.getElem_cons_succ] at q3
      rw [kw] at q3
      simp at q3
      simp only [List.getElem_toArray, List.getElem_cons_zero, List.getElem_cons_succ] at q4
      rw [ki] at q4
      simp at q4
      simp only [List.getElem_toArray, List.getElem_cons_zero, List.getElem_cons_succ] at q5
      rw [ki] at q5
      simp at q5
      simp only [List.getElem_toArray, List.getElem_cons_zero, List.getElem_cons_succ] at q6
      rw [kb] at q6
      simp at q6
      simp only [List.getElem_toArray, List.getElem_cons_zero, List.getElem_cons_succ] at q7
      rw [ks] at q7
      simp at q7
      simp only [List.getElem_toArray, List.getElem_cons_zero, List.getElem_cons_succ] at q8
      rw [ku] at q8
      simp at q8
      simp only [List.getElem_toArray, List.getElem_cons_zero, List.getElem_cons_succ] at q9
      rw [ki] at q9
      simp at q9
      obtain ⟨v0, e0, _, w0⟩ := DataW.trod_int Tryz.underlying3 q0
      obtain ⟨v1, e1, _, w1⟩ := DataW.trod_int Tryz.underlying3 q1
      obtain ⟨v2, e2, _, w2⟩ := DataW.trod_int Tryz.underlying3 q2
      obtain ⟨ys, n3, _, _, _, hl3, hg3⟩ := DataW.trod_struct Tryz.underlying30 q3
      have r0 := hg3 0 _ rfl
      have r1 := hg3 1 _ rfl
      have r2 := hg3 2 _ rfl
      match ys, hl3 with
      | [y0, y1, y2], _ =>
        simp only [List.getElem_toArray, List.getElem_cons_zero, List.getElem_cons_succ] at r0 r1 r2
        rw [k3] at r0
        rw [kb3] at r1
        rw [kb] at r2
        simp at r0 r1 r2
        obtain ⟨_, _, _, _, _, a0, a1, a2⟩ := trod_array3 Tryz.underlying22 ki r0
        obtain ⟨_, _, _, _, _, b0, b1, b2⟩ := trod_array3 Tryz.underlying28 kb r1
        obtain ⟨n1, f1, _, x1⟩ := DataW.trod_int Tryz.underlying3 a0
        obtain ⟨n2, f2, _, x2⟩ := DataW.trod_int Tryz.underlying3 a1
        obtain ⟨n3, f3, _, x3⟩ := DataW.trod_int Tryz.underlying3 a2
        obtain ⟨n4, f4, _⟩ := DataW.trod_bool Tryz.underlying4 b0
        obtain ⟨n5, f5, _⟩ := DataW.trod_bool Tryz.underlying4 b1
        obtain ⟨n6, f6, _⟩ := DataW.trod_bool Tryz.underlying4 b2
        obtain ⟨n7, f7, _⟩ := DataW.trod_bool Tryz.underlying4 r2
        obtain ⟨v4, e4, _, w4⟩ := DataW.trod_int Tryz.underlying3 q4
        obtain ⟨v5, e5, _, w5⟩ := DataW.trod_int Tryz.underlying3 q5
        obtain ⟨v6, e6, _⟩ := DataW.trod_bool Tryz.underlying4 q6
        obtain ⟨Y, c, l, e7, hlc, hcm, hY, hwl⟩ := ints_trod q7
        obtain ⟨v8, e8, _, w8⟩ := DataW.trod_int Tryz.underlying5 q8
        obtain ⟨v9, e9, _, w9⟩ := DataW.trod_int Tryz.underlying3 q9
        simp at e0 e1 e2 e4 e5 e6 e8 e9 f1 f2 f3 f4 f5 f6 f7
        subst e0 e1 e2 e4 e5 e6 e7 e8 e9 f1 f2 f3 f4 f5 f6 f7
        exact ⟨⟨v0, v1, v2, ⟨n1, n2, n3, n4, n5, n6, n7⟩, v4, v5, v6, l, v8, v9⟩, Y, c, rfl, hlc, hcm, hY, w0, w1, w2, ⟨x1, x2, x3⟩, w4, w5, w8, w9, hwl⟩
set_option maxRecDepth 100000 in
/-- An argument that is a job. -/
theorem open_job {H : Type} {enc : TypeId × Value → H} {W : World} {r : Reach} {b0 : Nat} {v : Value} {d : DataW H} {p : List MemPlace} {held : Bool}
    (hv : Value.okWide Tryz.prog W r b0 33 v) (h : DataW.Trod enc Tryz.prog W 0 (fun _ => true) held 33 v d p) :
    ∃ (j : JV) (Y : Option Addr) (c : Nat), v = .agg (j.arr Y c) ∧ j.af.length ≤ c ∧ c ≤ maxLen ∧ IntsAt W Y j.af ∧ JWf j := by
  obtain ⟨cs, rfl, hsz⟩ := okWide_struct Tryz.underlying33 hv
  obtain ⟨fuel, hf⟩ := h
  obtain ⟨j, Y, c, e, h1, h2, h3, h4⟩ := trod_job (by simpa [Value.cells] using hsz.trans (by kernel_rfl)) hf
  refine ⟨j, Y, c, ?_, h1, h2, h3, h4⟩
  have e2 : cs.toList = (j.arr Y c).toList := by simpa [Value.cells] using e
  rw [Array.toList_inj.1 e2]
set_option maxRecDepth 100000 in
/-- An argument that is a slice of jobs. -/
theorem open_jobs {H : Type} {enc : TypeId × Value → H} {W : World} {r : Reach} {b0 : Nat} {v : Value} {d : DataW H} {p : List MemPlace} {held : Bool}
    (hv : Value.okWide Tryz.prog W r b0 27 v) (h : DataW.Trod enc Tryz.prog W 0 (fun _ => true) held 27 v d p) :
    ∃ (X : Option Addr) (c : Nat) (l : List JV), v = .slice X l.length c ∧ l.length ≤ c ∧ c ≤ maxLen ∧ JobsAt W X l ∧ ∀ j ∈ l, JWf j ∧ j.af.length ≤ maxLen := by
  obtain ⟨X0, len0, cap0, rfl⟩ := okWide_slice Tryz.underlying27 hv
  obtain ⟨fuel, hf⟩ := h
  rcases open_slice Tryz.underlying27 hf with ⟨h0, _⟩ | ⟨⟨b, o, s⟩, len, cap, m, n, D, Pl, hcs, hb, hl, hm, hmm, hx, hi⟩
  · simp [Value.cells] at h0
    obtain ⟨rfl, rfl, rfl⟩ := h0
    exact ⟨none, 0, [], rfl, by simp, by simp [maxLen], JobsAt.nil, by simp⟩
  · simp [Value.cells] at hcs
    obtain ⟨rfl, rfl, rfl⟩ := hcs
    have hmc : m = cap0 := by rw [hmm]; rfl
    have kc : Tryz.prog.cellsOf 33 = 16 := by kernel_rfl
    have hs0 : 0 < len0 → s = none := fun hl0 => by
      obtain ⟨cs', hc, ht'⟩ := hi 0 (by omega)
      rw [kc] at hc
      obtain ⟨_, hcl, hat⟩ := World.cells?_some hc
      obtain ⟨j, Y, c, e, _⟩ := trod_job hcl ht'
      have h0 := hat 0 (by omega)
      have h0' : W.cell? ((⟨b, o, s⟩ : Addr).add 0) = some (.int .i64 j.id) := by
        rw [add_of_add] at h0
        rw [show 0 * 16 + 0 = 0 from rfl] at h0
        rw [h0, e]; rfl
      simpa [Addr.add] using World.cell?_spot h0'
    have hel : ∀ i, ∃ q : JV × Option Addr × Nat, i < len0 → b < W.heap.size ∧ s = none ∧ JobAt W b (o + i * 16) q.1 q.2.1 q.2.2 ∧ q.1.af.length ≤ q.2.2 ∧ q.2.2 ≤ maxLen ∧ IntsAt W q.2.1 q.1.af ∧ JWf q.1 := by
      intro i
      by_cases hlt : i < len0
      · obtain ⟨cs', hc, ht'⟩ := hi i (by omega)
        rw [kc] at hc
        obtain ⟨_, hcl, hat⟩ := World.cells?_some hc
        obtain ⟨j, Y, c, e, h1, h2, h3, h4⟩ := trod_job hcl ht'
        have hs : s = none := hs0 (by omega)
        subst hs
        have hcell : ∀ t u, t < 16 → (j.arr Y c)[t]? = some u → W.cell? ⟨b, o + i * 16 + t, none⟩ = some u := fun t u ht hu => by
          have h0 := hat t ht
          rw [add_flat, add_flat, e] at h0
          rw [h0]
          simpa using hu
        have hJ := job_of_cells hcell
        exact ⟨(j, Y, c), fun _ => ⟨cell_lt hJ.1, rfl, hJ, h1, h2, h3, h4⟩⟩
      · exact ⟨(default, none, 0), fun h => absurd h hlt⟩
    refine ⟨some ⟨b, o, s⟩, cap0, (List.range len0).map (fun i => (hel i).choose.1), by simp, by simpa using hl, hm, fun i q hq => ?_, fun j hj => ?_⟩
    · have hlt : i < len0 := by
        have := (List.getElem?_eq_some_iff.1 hq).1
        simpa using this
      have hq' : q = (hel i).choose.1 := by simpa [hlt] using hq.symm
      obtain ⟨g1, g2, g3, g4, g5, g6, g7⟩ := (hel i).choose_spec hlt
      subst g2
      rw [hq']
      exact ⟨b, o, _, _, rfl, g1, g3, g6⟩
    · obtain ⟨i, hi2, rfl⟩ := List.mem_map.1 hj
      obtain ⟨g1, g2, g3, g4, g5, g6, g7⟩ := (hel i).choose_spec (by simpa using hi2)
      exact ⟨g7, by omega⟩
end Go.Proofs.YtfpljpdjohmbaaaGreat.Lay
/-! The contracts of part.within, of the check of a class, of slices.ContainsFunc over classes, and the reference's. -/
namespace Go.Proofs.YtfpljpdjohmbaaaGreat.PartClass
open Go.RowKit Mem PartMath
set_option linter.unusedVariables false

set_option maxHeartbeats 1000000 in
theorem within_to (n lo hi : Int) (r : Bool) (h : inB n lo hi = r) (w : World) :
    Calls Tryz.prog 37 #[.int .i64 n, .int .i64 lo, .int .i64 hi] w fun e w' => e = .returned (.bool r) ∧ w = w' := by
  unfold inB at h
  by_cases h1 : lo ≤ n
  · by_cases h2 : n ≤ hi
    · have e : r = true := by rw [← h]; simp [h1, h2]
      subst e
      clear h
      go_enter Tryz.func37, Tryz.ntmps37
      go_wp2
      go_ret
      exact ⟨rfl, rfl⟩
    · have e : r = false := by rw [← h]; simp [h2]
      subst e
      clear h
      go_enter Tryz.func37, Tryz.ntmps37
      go_wp2
      go_ret
      exact ⟨rfl, rfl⟩
  · have e : r = false := by rw [← h]; simp [h1]
    subst e
    clear h
    go_enter Tryz.func37, Tryz.ntmps37
    go_wp2
    go_ret
    exact ⟨rfl, rfl⟩
set_option maxHeartbeats 1000000 in
theorem in_to (n lo hi : Int) (r : Bool) (h : inB n lo hi = r) (w : World) :
    Calls Tryz.prog 45 #[.int .i64 n, .int .i64 lo, .int .i64 hi] w fun e w' => e = .returned (.bool r) ∧ w = w' := by
  unfold inB at h
  by_cases h1 : lo ≤ n
  · by_cases h2 : n ≤ hi
    · have e : r = true := by rw [← h]; simp [h1, h2]
      subst e
      clear h
      go_enter Tryz.func45, Tryz.ntmps45
      go_wp2
      go_ret
      exact ⟨rfl, rfl⟩
    · have e : r = false := by rw [← h]; simp [h2]
      subst e
      clear h
      go_enter Tryz.func45, Tryz.ntmps45
      go_wp2
      go_ret
      exact ⟨rfl, rfl⟩
  · have e : r = false := by rw [← h]; simp [h1]
    subst e
    clear h
    go_enter Tryz.func45, Tryz.ntmps45
    go_wp2
    go_ret
    exact ⟨rfl, rfl⟩
set_option maxRecDepth 100000 in
set_option maxHeartbeats 1000000 in
theorem odd0 (p q r s : Int)  (h0 : inB p (-1000) 1000 = false) (w : World) :
    Calls Tryz.prog 36 #[.agg #[.int .i64 p, .int .i64 q, .int .i64 r, .int .i64 s]] w fun e w' => e = .returned (.bool true) ∧ Below w.heap.size w w' := by
  have H0 := Lib.hid h0
  clear h0
  go_enter Tryz.func36, Tryz.ntmps36
  go_wp2_with fail
  refine (within_to _ _ _ _ H0.out _).mono ?_
  rintro e w' ⟨rfl, rfl⟩
  go_wp2_with fail
  go_ret
  exact ⟨rfl, (below_alloc (Below.refl _ _))⟩
set_option maxRecDepth 100000 in
set_option maxHeartbeats 1000000 in
theorem odd1 (p q r s : Int) (h0 : inB p (-1000) 1000 = true) (h1 : inB q 1 1048576 = false) (w : World) :
    Calls Tryz.prog 36 #[.agg #[.int .i64 p, .int .i64 q, .int .i64 r, .int .i64 s]] w fun e w' => e = .returned (.bool true) ∧ Below w.heap.size w w' := by
  have H0 := Lib.hid h0
  have H1 := Lib.hid h1
  clear h0 h1
  go_enter Tryz.func36, Tryz.ntmps36
  go_wp2_with fail
  refine (within_to _ _ _ _ H0.out _).mono ?_
  rintro e w' ⟨rfl, rfl⟩
  go_wp2_with fail
  refine (within_to _ _ _ _ H1.out _).mono ?_
  rintro e w' ⟨rfl, rfl⟩
  go_wp2_with fail
  go_ret
  exact ⟨rfl, (below_alloc (Below.refl _ _))⟩
set_option maxRecDepth 100000 in
set_option maxHeartbeats 1000000 in
theorem odd2 (p q r s : Int) (h0 : inB p (-1000) 1000 = true) (h1 : inB q 1 1048576 = true) (h2 : inB r 1 4096 = false) (w : World) :
    Calls Tryz.prog 36 #[.agg #[.int .i64 p, .int .i64 q, .int .i64 r, .int .i64 s]] w fun e w' => e = .returned (.bool true) ∧ Below w.heap.size w w' := by
  have H0 := Lib.hid h0
  have H1 := Lib.hid h1
  have H2 := Lib.hid h2
  clear h0 h1 h2
  go_enter Tryz.func36, Tryz.ntmps36
  go_wp2_with fail
  refine (within_to _ _ _ _ H0.out _).mono ?_
  rintro e w' ⟨rfl, rfl⟩
  go_wp2_with fail
  refine (within_to _ _ _ _ H1.out _).mono ?_
  rintro e w' ⟨rfl, rfl⟩
  go_wp2_with fail
  refine (within_to _ _ _ _ H2.out _).mono ?_
  rintro e w' ⟨rfl, rfl⟩
  go_wp2_with fail
  go_ret
  exact ⟨rfl, (below_alloc (Below.refl _ _))⟩
set_option maxRecDepth 100000 in
set_option maxHeartbeats 1000000 in
theorem odd3 (p q r s : Int) (h0 : inB p (-1000) 1000 = true) (h1 : inB q 1 1048576 = true) (h2 : inB r 1 4096 = true) (h3 : inB s 1 24 = false) (w : World) :
    Calls Tryz.prog 36 #[.agg #[.int .i64 p, .int .i64 q, .int .i64 r, .int .i64 s]] w fun e w' => e = .returned (.bool true) ∧ Below w.heap.size w w' := by
  have H0 := Lib.hid h0
  have H1 := Lib.hid h1
  have H2 := Lib.hid h2
  have H3 := Lib.hid h3
  clear h0 h1 h2 h3
  go_enter Tryz.func36, Tryz.ntmps36
  go_wp2_with fail
  refine (within_to _ _ _ _ H0.out _).mono ?_
  rintro e w' ⟨rfl, rfl⟩
  go_wp2_with fail
  refine (within_to _ _ _ _ H1.out _).mono ?_
  rintro e w' ⟨rfl, rfl⟩
  go_wp2_with fail
  refine (within_to _ _ _ _ H2.out _).mono ?_
  rintro e w' ⟨rfl, rfl⟩
  go_wp2_with fail
  refine (within_to _ _ _ _ H3.out _).mono ?_
  rintro e w' ⟨rfl, rfl⟩
  go_wp2_with fail
  go_ret
  exact ⟨rfl, (below_alloc (Below.refl _ _))⟩
set_option maxRecDepth 100000 in
set_option maxHeartbeats 1000000 in
theorem odd4 (p q r s : Int) (h0 : inB p (-1000) 1000 = true) (h1 : inB q 1 1048576 = true) (h2 : inB r 1 4096 = true) (h3 : inB s 1 24 = true) (w : World) :
    Calls Tryz.prog 36 #[.agg #[.int .i64 p, .int .i64 q, .int .i64 r, .int .i64 s]] w fun e w' => e = .returned (.bool false) ∧ Below w.heap.size w w' := by
  have H0 := Lib.hid h0
  have H1 := Lib.hid h1
  have H2 := Lib.hid h2
  have H3 := Lib.hid h3
  clear h0 h1 h2 h3
  go_enter Tryz.func36, Tryz.ntmps36
  go_wp2_with fail
  refine (within_to _ _ _ _ H0.out _).mono ?_
  rintro e w' ⟨rfl, rfl⟩
  go_wp2_with fail
  refine (within_to _ _ _ _ H1.out _).mono ?_
  rintro e w' ⟨rfl, rfl⟩
  go_wp2_with fail
  refine (within_to _ _ _ _ H2.out _).mono ?_
  rintro e w' ⟨rfl, rfl⟩
  go_wp2_with fail
  refine (within_to _ _ _ _ H3.out _).mono ?_
  rintro e w' ⟨rfl, rfl⟩
  go_wp2_with fail
  go_ret
  exact ⟨rfl, (below_alloc (Below.refl _ _))⟩
theorem odd_to (k : Cls) (b : Bool) (h : clsB k = !b) (w : World) :
    Calls Tryz.prog 36 #[.agg (clsA k)] w fun e w' => e = .returned (.bool b) ∧ Below w.heap.size w w' := by
  obtain ⟨p, q, r, s⟩ := k
  unfold clsB at h
  dsimp only [clsA] at h ⊢
  cases h0 : inB p (-1000) 1000
  · rw [h0] at h
    obtain rfl : b = true := by simpa using h
    exact odd0 p q r s h0 w
  · cases h1 : inB q 1 1048576
    · rw [h0, h1] at h
      obtain rfl : b = true := by simpa using h
      exact odd1 p q r s h0 h1 w
    · cases h2 : inB r 1 4096
      · rw [h0, h1, h2] at h
        obtain rfl : b = true := by simpa using h
        exact odd2 p q r s h0 h1 h2 w
      · cases h3 : inB s 1 24
        · rw [h0, h1, h2, h3] at h
          obtain rfl : b = true := by simpa using h
          exact odd3 p q r s h0 h1 h2 h3 w
        · rw [h0, h1, h2, h3] at h
          obtain rfl : b = false := by simpa using h
          exact odd4 p q r s h0 h1 h2 h3 w
set_option maxRecDepth 100000 in
set_option maxHeartbeats 1000000 in
theorem class0 (p q r s : Int)  (h0 : inB p (-1000) 1000 = false) (w : World) :
    Calls Tryz.prog 46 #[.agg #[.int .i64 p, .int .i64 q, .int .i64 r, .int .i64 s]] w fun e w' => e = .returned (.bool false) ∧ Below w.heap.size w w' := by
  have H0 := Lib.hid h0
  clear h0
  go_enter Tryz.func46, Tryz.ntmps46
  go_wp2_with fail
  refine (in_to _ _ _ _ H0.out _).mono ?_
  rintro e w' ⟨rfl, rfl⟩
  go_wp2_with fail
  go_ret
  exact ⟨rfl, (below_alloc (Below.refl _ _))⟩
set_option maxRecDepth 100000 in
set_option maxHeartbeats 1000000 in
theorem class1 (p q r s : Int) (h0 : inB p (-1000) 1000 = true) (h1 : inB q 1 1048576 = false) (w : World) :
    Calls Tryz.prog 46 #[.agg #[.int .i64 p, .int .i64 q, .int .i64 r, .int .i64 s]] w fun e w' => e = .returned (.bool false) ∧ Below w.heap.size w w' := by
  have H0 := Lib.hid h0
  have H1 := Lib.hid h1
  clear h0 h1
  go_enter Tryz.func46, Tryz.ntmps46
  go_wp2_with fail
  refine (in_to _ _ _ _ H0.out _).mono ?_
  rintro e w' ⟨rfl, rfl⟩
  go_wp2_with fail
  refine (in_to _ _ _ _ H1.out _).mono ?_
  rintro e w' ⟨rfl, rfl⟩
  go_wp2_with fail
  go_ret
  exact ⟨rfl, (below_alloc (Below.refl _ _))⟩
set_option maxRecDepth 100000 in
set_option maxHeartbeats 1000000 in
theorem class2 (p q r s : Int) (h0 : inB p (-1000) 1000 = true) (h1 : inB q 1 1048576 = true) (h2 : inB r 1 4096 = false) (w : World) :
    Calls Tryz.prog 46 #[.agg #[.int .i64 p, .int .i64 q, .int .i64 r, .int .i64 s]] w fun e w' => e = .returned (.bool false) ∧ Below w.heap.size w w' := by
  have H0 := Lib.hid h0
  have H1 := Lib.hid h1
  have H2 := Lib.hid h2
  clear h0 h1 h2
  go_enter Tryz.func46, Tryz.ntmps46
  go_wp2_with fail
  refine (in_to _ _ _ _ H0.out _).mono ?_
  rintro e w' ⟨rfl, rfl⟩
  go_wp2_with fail
  refine (in_to _ _ _ _ H1.out _).mono ?_
  rintro e w' ⟨rfl, rfl⟩
  go_wp2_with fail
  refine (in_to _ _ _ _ H2.out _).mono ?_
  rintro e w' ⟨rfl, rfl⟩
  go_wp2_with fail
  go_ret
  exact ⟨rfl, (below_alloc (Below.refl _ _))⟩
set_option maxRecDepth 100000 in
set_option maxHeartbeats 1000000 in
theorem class3 (p q r s : Int) (h0 : inB p (-1000) 1000 = true) (h1 : inB q 1 1048576 = true) (h2 : inB r 1 4096 = true) (h3 : inB s 1 24 = false) (w : World) :
    Calls Tryz.prog 46 #[.agg #[.int .i64 p, .int .i64 q, .int .i64 r, .int .i64 s]] w fun e w' => e = .returned (.bool false) ∧ Below w.heap.size w w' := by
  have H0 := Lib.hid h0
  have H1 := Lib.hid h1
  have H2 := Lib.hid h2
  have H3 := Lib.hid h3
  clear h0 h1 h2 h3
  go_enter Tryz.func46, Tryz.ntmps46
  go_wp2_with fail
  refine (in_to _ _ _ _ H0.out _).mono ?_
  rintro e w' ⟨rfl, rfl⟩
  go_wp2_with fail
  refine (in_to _ _ _ _ H1.out _).mono ?_
  rintro e w' ⟨rfl, rfl⟩
  go_wp2_with fail
  refine (in_to _ _ _ _ H2.out _).mono ?_
  rintro e w' ⟨rfl, rfl⟩
  go_wp2_with fail
  refine (in_to _ _ _ _ H3.out _).mono ?_
  rintro e w' ⟨rfl, rfl⟩
  go_wp2_with fail
  go_ret
  exact ⟨rfl, (below_alloc (Below.refl _ _))⟩
set_option maxRecDepth 100000 in
set_option maxHeartbeats 1000000 in
theorem class4 (p q r s : Int) (h0 : inB p (-1000) 1000 = true) (h1 : inB q 1 1048576 = true) (h2 : inB r 1 4096 = true) (h3 : inB s 1 24 = true) (w : World) :
    Calls Tryz.prog 46 #[.agg #[.int .i64 p, .int .i64 q, .int .i64 r, .int .i64 s]] w fun e w' => e = .returned (.bool true) ∧ Below w.heap.size w w' := by
  have H0 := Lib.hid h0
  have H1 := Lib.hid h1
  have H2 := Lib.hid h2
  have H3 := Lib.hid h3
  clear h0 h1 h2 h3
  go_enter Tryz.func46, Tryz.ntmps46
  go_wp2_with fail
  refine (in_to _ _ _ _ H0.out _).mono ?_
  rintro e w' ⟨rfl, rfl⟩
  go_wp2_with fail
  refine (in_to _ _ _ _ H1.out _).mono ?_
  rintro e w' ⟨rfl, rfl⟩
  go_wp2_with fail
  refine (in_to _ _ _ _ H2.out _).mono ?_
  rintro e w' ⟨rfl, rfl⟩
  go_wp2_with fail
  refine (in_to _ _ _ _ H3.out _).mono ?_
  rintro e w' ⟨rfl, rfl⟩
  go_wp2_with fail
  go_ret
  exact ⟨rfl, (below_alloc (Below.refl _ _))⟩
theorem class_to (k : Cls) (b : Bool) (h : clsB k = b) (w : World) :
    Calls Tryz.prog 46 #[.agg (clsA k)] w fun e w' => e = .returned (.bool b) ∧ Below w.heap.size w w' := by
  obtain ⟨p, q, r, s⟩ := k
  unfold clsB at h
  dsimp only [clsA] at h ⊢
  cases h0 : inB p (-1000) 1000
  · rw [h0] at h
    obtain rfl : b = false := by simpa using h
    exact class0 p q r s h0 w
  · cases h1 : inB q 1 1048576
    · rw [h0, h1] at h
      obtain rfl : b = false := by simpa using h
      exact class1 p q r s h0 h1 w
    · cases h2 : inB r 1 4096
      · rw [h0, h1, h2] at h
        obtain rfl : b = false := by simpa using h
        exact class2 p q r s h0 h1 h2 w
      · cases h3 : inB s 1 24
        · rw [h0, h1, h2, h3] at h
          obtain rfl : b = false := by simpa using h
          exact class3 p q r s h0 h1 h2 h3 w
        · rw [h0, h1, h2, h3] at h
          obtain rfl : b = true := by simpa using h
          exact class4 p q r s h0 h1 h2 h3 w
/-- An index was found. -/
def Found (w : World) (e : Ending) (w' : World) : Prop := ∃ v : Int, 0 ≤ v ∧ e = .returned (.int .i64 v) ∧ Below w.heap.size w w'
set_option maxRecDepth 100000 in
set_option maxHeartbeats 2000000 in
theorem index_all (X : Option Addr) (c : Nat) (ks : List Cls) (hl : ks.length ≤ 4611686018427387904) (w : World) (hk : ClsAt w w.heap.size X ks) (hall : ∀ k ∈ ks, clsB k = true) :
    Calls Tryz.prog 64 #[.slice X ks.length c, .func (.func 36) #[] #[]] w (fun e w' => e = .returned (.int .i64 (-1)) ∧ Below w.heap.size w w') := by
  have HK := Lib.hid hk
  have HA := Lib.hid hall
  clear hk hall
  go_enter Tryz.func64, Tryz.ntmps64
  go_wp2_with fail
  go_loopw [8] (fun i wr => ∃ k : Nat, k ≤ ks.length ∧ i = .int .i64 k ∧ Hid (Below w.heap.size w wr) ∧ Hid (∀ j x, j < k → ks[j]? = some x → clsB x = true))
    (fun i _ => ks.length - (intOf i).toNat)
  case atStart => exact ⟨0, Nat.zero_le _, rfl, Below.refl _ _, fun j x h => by omega⟩
  case round =>
    obtain ⟨k, hk, rfl, hB, hP⟩ := hrel
    by_cases hlt : k < ks.length
    · have hg : ks[k]? = some ks[k] := List.getElem?_eq_getElem hlt
      generalize ks[k] = x at hg
      obtain ⟨b, o, rfl, hb, x0, x1, x2, x3⟩ := HK.out k x hg
      have y0 : wr.cell? ⟨b, o + k * 4, none⟩ = some (.int .i64 x.1) := (hB.out.cell (p := ⟨b, o + k * 4, none⟩) hb).trans x0
      have y1 : wr.cell? ⟨b, o + k * 4 + 1, none⟩ = some (.int .i64 x.2.1) := (hB.out.cell (p := ⟨b, o + k * 4 + 1, none⟩) hb).trans x1
      have y2 : wr.cell? ⟨b, o + k * 4 + 2, none⟩ = some (.int .i64 x.2.2.1) := (hB.out.cell (p := ⟨b, o + k * 4 + 2, none⟩) hb).trans x2
      have y3 : wr.cell? ⟨b, o + k * 4 + 3, none⟩ = some (.int .i64 x.2.2.2) := (hB.out.cell (p := ⟨b, o + k * 4 + 3, none⟩) hb).trans x3
      have HG := Lib.hid hg
      clear hg x0 x1 x2 x3
      have hc : clsB x = !false := HA.out x (List.mem_of_getElem? HG.out)
      have HC := Lib.hid hc
      clear hc
      go_wp2_with fail
      refine (odd_to x false HC.out _).mono ?_
      rintro e w1 ⟨rfl, hB1⟩
      have HB1 := Lib.hid (below_up hB.out hB1)
      clear hB1 y0 y1 y2 y3
      go_wp2_with fail
      go_roundw
      case rel => exact ⟨k + 1, by omega, by go_num, HB1.out, fun j z hj hz => by
        rcases Nat.lt_or_ge j k with h | h
        · exact hP.out j z h hz
        · obtain rfl : j = k := by omega
          rw [HG.out] at hz; cases hz; exact HC.out⟩
      case measure => simp [intOf]; omega
    · obtain rfl : k = ks.length := by omega
      go_wp2_with fail
      go_ret
      exact ⟨rfl, hB.out⟩
set_option maxRecDepth 100000 in
set_option maxHeartbeats 2000000 in
theorem index_some (X : Option Addr) (c : Nat) (ks : List Cls) (hl : ks.length ≤ 4611686018427387904) (w : World) (hk : ClsAt w w.heap.size X ks) (hsome : ¬ ∀ k ∈ ks, clsB k = true) :
    Calls Tryz.prog 64 #[.slice X ks.length c, .func (.func 36) #[] #[]] w (Found w) := by
  have HK := Lib.hid hk
  have HA := Lib.hid hsome
  clear hk hsome
  go_enter Tryz.func64, Tryz.ntmps64
  go_wp2_with fail
  go_loopw [8] (fun i wr => ∃ k : Nat, k ≤ ks.length ∧ i = .int .i64 k ∧ Hid (Below w.heap.size w wr) ∧ Hid (∀ j x, j < k → ks[j]? = some x → clsB x = true))
    (fun i _ => ks.length - (intOf i).toNat)
  case atStart => exact ⟨0, Nat.zero_le _, rfl, Below.refl _ _, fun j x h => by omega⟩
  case round =>
    obtain ⟨k, hk, rfl, hB, hP⟩ := hrel
    by_cases hlt : k < ks.length
    · have hg : ks[k]? = some ks[k] := List.getElem?_eq_getElem hlt
      generalize ks[k] = x at hg
      obtain ⟨b, o, rfl, hb, x0, x1, x2, x3⟩ := HK.out k x hg
      have y0 : wr.cell? ⟨b, o + k * 4, none⟩ = some (.int .i64 x.1) := (hB.out.cell (p := ⟨b, o + k * 4, none⟩) hb).trans x0
      have y1 : wr.cell? ⟨b, o + k * 4 + 1, none⟩ = some (.int .i64 x.2.1) := (hB.out.cell (p := ⟨b, o + k * 4 + 1, none⟩) hb).trans x1
      have y2 : wr.cell? ⟨b, o + k * 4 + 2, none⟩ = some (.int .i64 x.2.2.1) := (hB.out.cell (p := ⟨b, o + k * 4 + 2, none⟩) hb).trans x2
      have y3 : wr.cell? ⟨b, o + k * 4 + 3, none⟩ = some (.int .i64 x.2.2.2) := (hB.out.cell (p := ⟨b, o + k * 4 + 3, none⟩) hb).trans x3
      have HG := Lib.hid hg
      clear hg x0 x1 x2 x3
      cases hc : clsB x
      · have HC := Lib.hid (show clsB x = !true from hc)
        clear hc
        go_wp2_with fail
        refine (odd_to x true HC.out _).mono ?_
        rintro e w1 ⟨rfl, hB1⟩
        have HB1 := Lib.hid (below_up hB.out hB1)
        clear hB1 y0 y1 y2 y3
        go_wp2_with fail
        go_ret
        exact ⟨k, by omega, rfl, HB1.out⟩
      · have HC := Lib.hid (show clsB x = !false from hc)
        clear hc
        go_wp2_with fail
        refine (odd_to x false HC.out _).mono ?_
        rintro e w1 ⟨rfl, hB1⟩
        have HB1 := Lib.hid (below_up hB.out hB1)
        clear hB1 y0 y1 y2 y3
        go_wp2_with fail
        go_roundw
        case rel => exact ⟨k + 1, by omega, by go_num, HB1.out, fun j z hj hz => by
          rcases Nat.lt_or_ge j k with h | h
          · exact hP.out j z h hz
          · obtain rfl : j = k := by omega
            rw [HG.out] at hz; cases hz; exact HC.out⟩
        case measure => simp [intOf]; omega
    · obtain rfl : k = ks.length := by omega
      exfalso
      refine HA.out (fun x hx => ?_)
      obtain ⟨j, hj, e⟩ := List.mem_iff_getElem.1 hx
      exact hP.out j x hj (by rw [List.getElem?_eq_getElem hj, e])
set_option maxHeartbeats 1000000 in
theorem contains_to (X : Option Addr) (c : Nat) (ks : List Cls) (hl : ks.length ≤ 4611686018427387904) (b : Bool) (hb : ks.all clsB = !b) (w : World) (hk : ClsAt w w.heap.size X ks) :
    Calls Tryz.prog 39 #[.slice X ks.length c, .func (.func 36) #[] #[]] w fun e w' => e = .returned (.bool b) ∧ Below w.heap.size w w' := by
  have HK := Lib.hid hk
  clear hk
  cases b with
  | false =>
    have ha : ∀ k ∈ ks, clsB k = true := by simpa using hb
    have HA := Lib.hid ha
    clear ha hb
    go_enter Tryz.func39, Tryz.ntmps39
    go_wp2_with fail
    refine (index_all X c ks hl _ HK.out HA.out).mono ?_
    rintro e w1 ⟨rfl, hB1⟩
    have HB1 := Lib.hid hB1
    clear hB1
    go_wp2_with fail
    go_ret
    exact ⟨rfl, HB1.out⟩
  | true =>
    have ha : ¬ ∀ k ∈ ks, clsB k = true := fun h => by
      have : ks.all clsB = true := by simpa using h
      rw [this] at hb; cases hb
    have HA := Lib.hid ha
    clear ha hb
    go_enter Tryz.func39, Tryz.ntmps39
    go_wp2_with fail
    refine (index_some X c ks hl _ HK.out HA.out).mono ?_
    rintro e w1 ⟨v, hv, rfl, hB1⟩
    have HB1 := Lib.hid hB1
    clear hB1
    go_wp2_with fail
    go_ret
    exact ⟨rfl, HB1.out⟩
end Go.Proofs.YtfpljpdjohmbaaaGreat.PartClass
