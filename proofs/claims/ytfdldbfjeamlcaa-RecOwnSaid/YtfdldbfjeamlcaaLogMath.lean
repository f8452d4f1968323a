/- Logs in plain Lean: areas, acts, what a loss of power leaves; texts and logs in memory. No conditions. -/
import Derived.Laws.BytesString
import Derived.Laws.Cells
import Derived.OneCell
import Derived.Lib.BufferRead
import Derived.Test.YtfdldbfjeamlcaaRows
import Derived.Test.YtfdldbfjeamlcaaMem
namespace Go.Proofs.Ytfdldbfjeamlcaa.LogMath
open Go.RowKit Mem
set_option linter.unusedVariables false
set_option linter.unusedSimpArgs false

/-- An area: its bytes, and how many of them last. -/
structure AV where
  t : List Int
  k : Int
/-- A log. -/
structure LV where
  a : AV
  b : AV
def AV.z : AV := ⟨[], 0⟩
def LV.z : LV := ⟨AV.z, AV.z⟩
def LV.of (l : LV) (i : Bool) : AV := if i then l.b else l.a
def LV.put (l : LV) (i : Bool) (x : AV) : LV := if i then ⟨l.a, x⟩ else ⟨x, l.b⟩
def mayA (x : AV) : Bool := decide ((x.t.length : Int) ≤ 262144) && (decide (0 ≤ x.k) && decide (x.k ≤ (x.t.length : Int)))
def mayL (l : LV) : Bool := mayA l.a && mayA l.b
def checkL (l : LV) : Int := if mayL l then 0 else 8
/-- What is left of an area. -/
def leftA (x : AV) (n : Int) : AV := ⟨x.t.take (x.k + min (max n 0) ((x.t.length : Int) - x.k)).toNat, x.k + min (max n 0) ((x.t.length : Int) - x.k)⟩
def leftL (l : LV) (m n : Int) : LV := ⟨leftA l.a m, leftA l.b n⟩
def crashL (l : LV) (m n : Int) : LV := if mayL l then leftL l m n else LV.z
/-- May an act be? -/
def mayAct (kd ar : Int) (tx : List Int) : Bool := (decide (ar = 0) || decide (ar = 1)) && (decide (kd = 2) || ((decide (kd = 1) || decide (kd = 3)) && decide (tx.length = 0)))
def doneA (x : AV) (kd : Int) (tx : List Int) : AV := if kd = 1 then AV.z else if kd = 2 then ⟨x.t ++ tx, x.k⟩ else ⟨x.t, (x.t.length : Int)⟩
/-- An act's error. -/
def doE (l : LV) (kd ar : Int) (tx : List Int) : Int :=
  if mayL l then (if mayAct kd ar tx then (if ((l.of (decide (ar = 1))).t.length : Int) + (tx.length : Int) ≤ 262144 then 0 else 9) else 2) else 8
/-- What an act makes. -/
def doL (l : LV) (kd ar : Int) (tx : List Int) : LV :=
  if doE l kd ar tx = 0 then l.put (decide (ar = 1)) (doneA (l.of (decide (ar = 1))) kd tx) else LV.z

/-- The string of a slice of bytes. -/
def strOf (l : List Int) : ByteArray := l.foldl (fun r n => r.push (UInt8.ofNat n.toNat)) ByteArray.empty
theorem run_strOf {w : World} {B n c : Nat} {A : Option Addr} {l : List Int} (h : Reads w B 1 A n (l.map (Value.int .u8))) : (convert 37 9 (.slice A n c)).run Try.prog w = .ok (.string (strOf l)) w := by
  have hl : l.length = n := by have := h.1; simpa using this
  by_cases hn : 0 < n
  · obtain ⟨ad, rfl, _, hc⟩ := h.2 hn
    rw [run_convert_bytes_string w _ _ _ _ _ _ Try.underlying37 Try.underlying5 Try.underlying9]
    have hh := run_loadCells_list (P := Try.prog) (w := w) ad (l.map (Value.int .u8)) hc
    rw [List.length_map, hl] at hh
    exact run_bytesToString w ad n c l hh
  · obtain rfl : n = 0 := by omega
    obtain rfl : l = [] := List.eq_nil_of_length_eq_zero hl
    rw [run_convert_bytes_string w _ _ _ _ _ _ Try.underlying37 Try.underlying5 Try.underlying9]
    cases A with
    | none => simp [Conv.bytesToString]; rfl
    | some ad =>
      have hh := run_loadCells_list (P := Try.prog) (w := w) ad ([] : List Value) (by simp)
      exact run_bytesToString w ad 0 c [] hh

/-! In memory. -/
/-- A block of four cells, written whole. -/
def W4 (w : World) (g : Nat) (a b c d : Value) : World := (((w.setCell ⟨g, 0, none⟩ a).setCell ⟨g, 1, none⟩ b).setCell ⟨g, 2, none⟩ c).setCell ⟨g, 3, none⟩ d
theorem W4.blk {w : World} {g : Nat} {t : TypeId} {p q r s : Value} (h : Blk w g t #[p, q, r, s]) (a b c d : Value) : Blk (W4 w g a b c d) g t #[a, b, c, d] := by
  have := (((h.set_ 0 a).set_ 1 b).set_ 2 c).set_ 3 d
  unfold W4
  simpa using this
theorem W4.far {w : World} {g g' : Nat} {t : TypeId} {cs : Array Value} (h : Blk w g' t cs) (hg : g' ≠ g) (a b c d : Value) : Blk (W4 w g a b c d) g' t cs :=
  (((h.far (p := ⟨g, 0, none⟩) hg a).far (p := ⟨g, 1, none⟩) hg b).far (p := ⟨g, 2, none⟩) hg c).far (p := ⟨g, 3, none⟩) hg d
theorem W4.below {u w : World} {B g : Nat} (h : Below B u w) (hg : B ≤ g) (a b c d : Value) : Below B u (W4 w g a b c d) :=
  (((h.setCell (p := ⟨g, 0, none⟩) hg a).setCell (p := ⟨g, 1, none⟩) hg b).setCell (p := ⟨g, 2, none⟩) hg c).setCell (p := ⟨g, 3, none⟩) hg d
theorem W4.size (w : World) (g : Nat) (a b c d : Value) : (W4 w g a b c d).heap.size = w.heap.size := by unfold W4; simp
theorem W4.own {w : World} {g B n size : Nat} {e : TypeId} {v : Value} {xs : List Value} (h : w.ownsRow B e size v n xs) (hg : v.ownBlock ≠ some g) (a b c d : Value) : (W4 w g a b c d).ownsRow B e size v n xs :=
  Go.ownsRow_setCell_other (Go.ownsRow_setCell_other (Go.ownsRow_setCell_other (Go.ownsRow_setCell_other h (a := ⟨g, 0, none⟩) hg a) (a := ⟨g, 1, none⟩) hg b) (a := ⟨g, 2, none⟩) hg c) (a := ⟨g, 3, none⟩) hg d
theorem own_ne {w : World} {g B n size : Nat} {e : TypeId} {v : Value} {xs : List Value} (h : w.ownsRow B e size v n xs) (hg : g < B) : v.ownBlock ≠ some g := fun he => by have := h.lt g he; omega
theorem cell_set_far {w : World} {a p : Addr} {u v : Value} (h : w.cell? a = some u) (hne : a ≠ p) : (w.setCell p v).cell? a = some u := by
  rw [World.cell?_setCell_other _ _ _ _ hne.symm]; exact h
theorem ownsRow_less {w : World} {B B' n size : Nat} {e : TypeId} {v : Value} {xs : List Value} (h : w.ownsRow B e size v n xs) (hB : B' ≤ B) : w.ownsRow B' e size v n xs := by
  refine ⟨h.1, ?_⟩
  rcases h.2 with h2 | ⟨g, cap, cur, e1, e2, e3⟩
  · exact .inl h2
  · exact .inr ⟨g, cap, cur, e1, by omega, e3⟩
theorem ownsRow_up {w w' : World} {B n size : Nat} {e : TypeId} {v : Value} {xs : List Value} (h : w.ownsRow B e size v n xs) (hb : Below w.heap.size w w') : w'.ownsRow B e size v n xs := by
  refine ⟨h.1, ?_⟩
  rcases h.2 with h2 | ⟨g, cap, cur, e1, e2, e3, e4⟩
  · exact .inl h2
  · exact .inr ⟨g, cap, cur, e1, e2, (hb.block g (Array.getElem?_eq_some_iff.1 e3).1).trans e3, e4⟩
/-- Bytes. -/
def TAt (w : World) (X : Option Addr) (t : List Int) : Prop := ∀ (i : Nat) (v : Int), t[i]? = some v → ∃ b o, X = some ⟨b, o, none⟩ ∧ b < w.heap.size ∧ w.cell? ⟨b, o + i, none⟩ = some (.int .u8 v)
theorem TAt.nil {w : World} {X : Option Addr} : TAt w X [] := fun i v h => by simp at h
theorem TAt.up {w w' : World} {X : Option Addr} {t : List Int} (h : TAt w X t) (hB : Below w.heap.size w w') : TAt w' X t := fun i v hi => by
  obtain ⟨b, o, e, hb, x⟩ := h i v hi
  exact ⟨b, o, e, Nat.lt_of_lt_of_le hb hB.size, keep_cell x hB⟩
theorem TAt.reads {w : World} {X : Option Addr} {t : List Int} (h : TAt w X t) : Reads w w.heap.size 1 X t.length (t.map (Value.int .u8)) := by
  refine ⟨by simp, fun hn => ?_⟩
  obtain ⟨b, o, e, hb, _⟩ := h 0 t[0] (List.getElem?_eq_getElem hn)
  refine ⟨_, e, hb, fun j u hu => ?_⟩
  rw [List.getElem?_map] at hu
  cases hj : t[j]? with
  | none => rw [hj] at hu; cases hu
  | some v =>
    rw [hj] at hu
    cases hu
    obtain ⟨b', o', e', _, x⟩ := h j v hj
    rw [e] at e'
    cases e'
    rw [add_flat]
    exact x
theorem TAt.of_reads {w : World} {B n : Nat} {X : Option Addr} {t : List Int} (hB : B ≤ w.heap.size) (h : Reads w B 1 X n (t.map (Value.int .u8))) : TAt w X t := fun i v hi => by
  have hl : i < t.length := (List.getElem?_eq_some_iff.1 hi).1
  have hn : 0 < n := by have := h.1; simp at this; omega
  obtain ⟨b, o, e, hb, hc⟩ := h.flat hn
  exact ⟨b, o, e, by omega, hc i _ (by rw [List.getElem?_map, hi]; rfl)⟩
theorem TAt.take {w : World} {X : Option Addr} {t : List Int} (h : TAt w X t) (n : Nat) : TAt w X (t.take n) := fun i v hi => by
  have hi' := hi
  rw [List.getElem?_take] at hi'
  split at hi'
  · exact h i v hi'
  · cases hi'
/-- A row of one's own that reads as bytes: in one block, from B on. -/
abbrev TOwn (w : World) (B : Nat) (v : Value) (t : List Int) : Prop := w.ownsRow B 5 1 v t.length (t.map (Value.int .u8))
/-- Bytes that may be written, from block B on, whatever they are. -/
def TFree (w : World) (B : Nat) (X : Option Addr) (n : Nat) : Prop := ∀ i, i < n → ∃ g o v, X = some ⟨g, o, none⟩ ∧ B ≤ g ∧ g < w.heap.size ∧ w.cell? ⟨g, o + i, none⟩ = some (.int .u8 v) ∧ w.frozen? ⟨g, o + i, none⟩ = false
theorem TFree.nil {w : World} {B : Nat} {X : Option Addr} : TFree w B X 0 := fun i h => absurd h (by omega)
theorem TFree.less {w : World} {B B' n : Nat} {X : Option Addr} (h : TFree w B X n) (hB : B' ≤ B) : TFree w B' X n := fun i hi => by
  obtain ⟨g, o, v, e, h1, h2, h3⟩ := h i hi
  exact ⟨g, o, v, e, Nat.le_trans hB h1, h2, h3⟩
theorem TFree.take {w : World} {B n m : Nat} {X : Option Addr} (h : TFree w B X n) (hm : m ≤ n) : TFree w B X m := fun i hi => h i (by omega)
theorem TFree.up {w w' : World} {B n : Nat} {X : Option Addr} (h : TFree w B X n) (hB : Below w.heap.size w w') : TFree w' B X n := fun i hi => by
  obtain ⟨g, o, v, e, h1, h2, h3, h4⟩ := h i hi
  exact ⟨g, o, v, e, h1, Nat.lt_of_lt_of_le h2 hB.size, keep_cell h3 hB, by rw [hB.frozen (p := ⟨g, o + i, none⟩) h2]; exact h4⟩
theorem TFree.set_ {w : World} {B n : Nat} {X : Option Addr} (h : TFree w B X n) (p : Addr) (u : Int) : TFree (w.setCell p (.int .u8 u)) B X n := fun i hi => by
  obtain ⟨g, o, v, e, h1, h2, h3, h4⟩ := h i hi
  refine (Decidable.em (p = ⟨g, o + i, none⟩)).elim (fun hp => ?_) (fun hp => ?_)
  · subst hp
    exact ⟨g, o, u, e, h1, by rw [World.size_setCell]; exact h2, World.cell?_setCell_same _ _ _ h3, by rw [World.frozen?_setCell]; exact h4⟩
  · exact ⟨g, o, v, e, h1, by rw [World.size_setCell]; exact h2, by rw [World.cell?_setCell_other _ _ _ _ hp]; exact h3, by rw [World.frozen?_setCell]; exact h4⟩
/-- A cell that holds no byte is none of them. -/
theorem cell_not_byte {w : World} {p q : Addr} {v i u : Int} {x : Value} (hq : w.cell? q = some x) (hp : w.cell? p = some (.int .u8 i)) (hn : ∀ j, x ≠ .int .u8 j) : (w.setCell p (.int .u8 u)).cell? q = some x := by
  rw [World.cell?_setCell_other _ _ _ _ (fun e => by subst e; rw [hq] at hp; cases hp; exact hn i rfl)]
  exact hq
theorem TOwn.free {w : World} {B n c : Nat} {X : Option Addr} {t : List Int} (h : w.ownsRow B 5 1 (.slice X n c) n (t.map (Value.int .u8))) : TFree w B X n := fun i hi => by
  obtain ⟨g, cap, e, hB, hg⟩ := h.form (by omega)
  have e' : X = some ⟨g, 0, none⟩ := by injection e
  subst e'
  have hl : i < t.length := by have := h.1; simp at this; omega
  have hc := h.cells (g := g) rfl i (.int .u8 t[i]) (by simp [List.getElem?_map, List.getElem?_eq_getElem hl])
  rw [add_flat] at hc
  refine ⟨g, 0, t[i], rfl, hB, hg, hc, ?_⟩
  have := (e ▸ h).frozenAt i
  simpa using this
theorem TOwn.at_ {w : World} {B n c : Nat} {X : Option Addr} {t : List Int} (h : w.ownsRow B 5 1 (.slice X n c) n (t.map (Value.int .u8))) : TAt w X t := TAt.of_reads (Nat.le_refl _) (Reads.of_own h)
/-- A log that came back, in memory of its own from B on. -/
def RetL (w : World) (B : Nat) (m : LV) (v : Value) : Prop := ∃ X ca Y cb, v = .agg #[.slice X m.a.t.length ca, .int .i64 m.a.k, .slice Y m.b.t.length cb, .int .i64 m.b.k] ∧ TAt w X m.a.t ∧ TAt w Y m.b.t ∧ TFree w B X m.a.t.length ∧ TFree w B Y m.b.t.length
theorem RetL.of_own {w : World} {B : Nat} {m : LV} {X : Option Addr} {ca : Nat} {Y : Option Addr} {cb : Nat} (h : TOwn w B (.slice X m.a.t.length ca) m.a.t) (h2 : TOwn w B (.slice Y m.b.t.length cb) m.b.t) :
    RetL w B m (.agg #[.slice X m.a.t.length ca, .int .i64 m.a.k, .slice Y m.b.t.length cb, .int .i64 m.b.k]) :=
  ⟨X, ca, Y, cb, rfl, TOwn.at_ h, TOwn.at_ h2, TOwn.free h, TOwn.free h2⟩
theorem RetL.zero {w : World} {B : Nat} : RetL w B LV.z (.agg #[.slice none 0 0, .int .i64 0, .slice none 0 0, .int .i64 0]) :=
  ⟨none, 0, none, 0, rfl, TAt.nil, TAt.nil, TFree.nil, TFree.nil⟩
theorem RetL.less {w : World} {B B' : Nat} {m : LV} {v : Value} (h : RetL w B m v) (hB : B' ≤ B) : RetL w B' m v := by
  obtain ⟨X, ca, Y, cb, e, h1, h2, h3, h4⟩ := h
  exact ⟨X, ca, Y, cb, e, h1, h2, h3.less hB, h4.less hB⟩
theorem RetL.up {w w' : World} {B : Nat} {m : LV} {v : Value} (h : RetL w B m v) (hB : Below w.heap.size w w') : RetL w' B m v := by
  obtain ⟨X, ca, Y, cb, e, h1, h2, h3, h4⟩ := h
  exact ⟨X, ca, Y, cb, e, h1.up hB, h2.up hB, h3.up hB, h4.up hB⟩
theorem TFree.far {w : World} {B n : Nat} {X : Option Addr} (h : TFree w B X n) {p : Addr} (hp : p.block < B) (u : Value) : TFree (w.setCell p u) B X n := fun i hi => by
  obtain ⟨g, o, v, e, h1, h2, h3, h4⟩ := h i hi
  exact ⟨g, o, v, e, h1, by rw [World.size_setCell]; exact h2, cell_set_far h3 (fun e => by subst e; simp at hp; omega), by rw [World.frozen?_setCell]; exact h4⟩
theorem TAt.far {w : World} {B : Nat} {X : Option Addr} {t : List Int} (h : TAt w X t) (hF : TFree w B X t.length) {p : Addr} (hp : p.block < B) (u : Value) : TAt (w.setCell p u) X t := fun i v hi => by
  obtain ⟨b, o, e, hb, hc⟩ := h i v hi
  obtain ⟨g, o', _, e', h1, _⟩ := hF i (List.getElem?_eq_some_iff.1 hi).1
  subst e
  cases e'
  exact ⟨b, o, rfl, by rw [World.size_setCell]; exact hb, cell_set_far hc (fun e => by subst e; simp at hp; omega)⟩
theorem RetL.far {w : World} {B : Nat} {m : LV} {v : Value} (h : RetL w B m v) {p : Addr} (hp : p.block < B) (u : Value) : RetL (w.setCell p u) B m v := by
  obtain ⟨X, ca, Y, cb, e, h1, h2, h3, h4⟩ := h
  exact ⟨X, ca, Y, cb, e, h1.far h3 hp u, h2.far h4 hp u, h3.far hp u, h4.far hp u⟩
theorem RetL.w4 {w : World} {B g : Nat} {m : LV} {v : Value} (h : RetL w B m v) (hg : g < B) (a b c d : Value) : RetL (W4 w g a b c d) B m v :=
  (((h.far (p := ⟨g, 0, none⟩) hg a).far (p := ⟨g, 1, none⟩) hg b).far (p := ⟨g, 2, none⟩) hg c).far (p := ⟨g, 3, none⟩) hg d
theorem RetL.four {w : World} {B : Nat} {m : LV} {v : Value} (h : RetL w B m v) : ∃ X n c k Y n' c' k', v = .agg #[.slice X n c, .int .i64 k, .slice Y n' c', .int .i64 k'] := by
  obtain ⟨X, ca, Y, cb, e, _⟩ := h
  exact ⟨_, _, _, _, _, _, _, _, e⟩
end Go.Proofs.Ytfdldbfjeamlcaa.LogMath
