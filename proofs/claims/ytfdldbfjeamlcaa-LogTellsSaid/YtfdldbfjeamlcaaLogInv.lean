/- Logs that are read only; what the law's loops keep. No conditions but those named. -/
import Derived.Test.YtfdldbfjeamlcaaLogAll
import Derived.Test.YtfdldbfjeamlcaaOpenLog
namespace Go.Proofs.Ytfdldbfjeamlcaa.LogInv
open Go.RowKit Mem LogMath LogProg LogRef1 LogRef2 LogAll
set_option linter.unusedVariables false

/-- A value that reads as a log. -/
def LIs (w : World) (m : LV) (v : Value) : Prop := ∃ X ca Y cb, v = .agg #[.slice X m.a.t.length ca, .int .i64 m.a.k, .slice Y m.b.t.length cb, .int .i64 m.b.k] ∧ TAt w X m.a.t ∧ TAt w Y m.b.t
theorem LIs.up {w w' : World} {m : LV} {v : Value} (h : LIs w m v) (hB : Below w.heap.size w w') : LIs w' m v := by
  obtain ⟨X, ca, Y, cb, e, h1, h2⟩ := h
  exact ⟨X, ca, Y, cb, e, h1.up hB, h2.up hB⟩
theorem RetL.is_ {w : World} {B : Nat} {m : LV} {v : Value} (h : RetL w B m v) : LIs w m v := by
  obtain ⟨X, ca, Y, cb, e, h1, h2, _⟩ := h
  exact ⟨X, ca, Y, cb, e, h1, h2⟩
theorem LIs.mk {w : World} {x y : AV} {X : Option Addr} {ca : Nat} {Y : Option Addr} {cb : Nat} (h1 : TAt w X x.t) (h2 : TAt w Y y.t) : LIs w ⟨x, y⟩ (.agg #[.slice X x.t.length ca, .int .i64 x.k, .slice Y y.t.length cb, .int .i64 y.k]) := ⟨X, ca, Y, cb, rfl, h1, h2⟩
theorem rSameI {w : World} {m m' : LV} {v v' : Value} (h : LIs w m v) (h' : LIs w m' v') :
    Calls Try.prog 35 #[v, v'] w fun e w' => e = .returned (.bool (sameL m m')) ∧ Below w.heap.size w w' := by
  obtain ⟨X, ca, Y, cb, rfl, h1, h2⟩ := h
  obtain ⟨X', ca', Y', cb', rfl, h1', h2'⟩ := h'
  exact rSame m.a m.b X ca Y cb m'.a m'.b X' ca' Y' cb' w h1 h2 h1' h2'
theorem lSameI {w : World} {m m' : LV} {v v' : Value} (h : LIs w m v) (h' : LIs w m' v') :
    Calls Try.prog 36 #[v, v'] w fun e w' => e = .returned (.bool (sameL m m')) ∧ Below w.heap.size w w' := by
  obtain ⟨X, ca, Y, cb, rfl, h1, h2⟩ := h
  obtain ⟨X', ca', Y', cb', rfl, h1', h2'⟩ := h'
  exact lSame m.a m.b X ca Y cb m'.a m'.b X' ca' Y' cb' w h1 h2 h1' h2'
theorem doL_len {x y : AV} {kd ar : Int} {tx : List Int} (hx : x.t.length ≤ 300000) (hy : y.t.length ≤ 300000) (ht : tx.length ≤ 300000) : (doL ⟨x, y⟩ kd ar tx).a.t.length ≤ 600000 ∧ (doL ⟨x, y⟩ kd ar tx).b.t.length ≤ 600000 := by
  have hd : ∀ z : AV, z.t.length ≤ 300000 → (doneA z kd tx).t.length ≤ 600000 := fun z hz => by
    unfold doneA
    split
    · simp [AV.z]
    · split
      · simp; omega
      · simp; omega
  unfold doL
  split
  · unfold LV.put LV.of
    by_cases h : ar = 1
    · simp only [h, decide_true, if_true]
      exact ⟨by omega, hd y hy⟩
    · simp only [h, decide_false]
      exact ⟨hd x hx, by show y.t.length ≤ 600000; omega⟩
  · simp [LV.z, AV.z]
theorem crashL_len {x y : AV} {m n : Int} (hx : x.t.length ≤ 300000) (hy : y.t.length ≤ 300000) : (crashL ⟨x, y⟩ m n).a.t.length ≤ 600000 ∧ (crashL ⟨x, y⟩ m n).b.t.length ≤ 600000 := by
  unfold crashL
  split
  · simp only [leftL, leftA, List.length_take]
    omega
  · simp [LV.z, AV.z]
/-- A box that holds such a log. -/
theorem RetL.box {w : World} {B g : Nat} {t : TypeId} {m : LV} {X : Option Addr} {n c : Nat} {k : Int} {Y : Option Addr} {n' c' : Nat} {k' : Int} (h : RetL w B m (.agg #[.slice X n c, .int .i64 k, .slice Y n' c', .int .i64 k'])) (hm : m.a.t.length ≤ 600000 ∧ m.b.t.length ≤ 600000)
    (hK : Blk w g t #[.slice X n c, .int .i64 k, .slice Y n' c', .int .i64 k']) {B' : Nat} (hB : B' ≤ B) : MBox w B' g := by
  obtain ⟨X', ca, Y', cb, e, h1, h2, h3, h4⟩ := h
  simp only [Value.agg.injEq, Array.mk.injEq, List.cons.injEq, Value.slice.injEq, Value.int.injEq, and_true, true_and] at e
  obtain ⟨⟨rfl, rfl, rfl⟩, rfl, ⟨rfl, rfl, rfl⟩, rfl⟩ := e
  exact MBox.of hK (by omega) (by omega) (h3.less hB) (h4.less hB)
/-- What the law's loops keep. -/
def Inv (w Wb : World) (g1 g2 g3 : Nat) (wr : World) : Prop := Below w.heap.size w wr ∧ Below Wb.heap.size Wb wr ∧ MBox wr Wb.heap.size g1 ∧ MBox wr Wb.heap.size g2 ∧ MBox wr Wb.heap.size g3
theorem Inv.store {w Wb wr : World} {g1 g2 g3 : Nat} (h : Inv w Wb g1 g2 g3 wr) (hw : w.heap.size ≤ Wb.heap.size) {p : Addr} {i : Int} (hp : wr.cell? p = some (.int .u8 i)) (hb : Wb.heap.size ≤ p.block) (u : Int) : Inv w Wb g1 g2 g3 (wr.setCell p (.int .u8 u)) :=
  ⟨h.1.setCell (by omega) _, h.2.1.setCell hb _, h.2.2.1.set_ hp, h.2.2.2.1.set_ hp, h.2.2.2.2.set_ hp⟩
end Go.Proofs.Ytfdldbfjeamlcaa.LogInv
