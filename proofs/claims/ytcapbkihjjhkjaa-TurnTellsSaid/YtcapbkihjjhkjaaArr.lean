/- '==' on arrays of three integers, of three truths. No conditions but the types'. -/
import Derived.Test.YtcapbkihjjhkjaaRows
import Derived.Laws.StructEq
import Derived.Laws.Small
import Derived.Tactics
import Derived.Tactics2
namespace Go.Proofs.Ytcapbkihjjhkjaa.Arr
set_option linter.unusedVariables false
set_option linter.unusedSimpArgs false

theorem eq3_any {P : Program} {t e : TypeId} (ht : P.underlying t = some (.array 3 e)) (hsz : ∀ w, (sizeOf e).run P w = .ok 1 w) (w : World) (x0 x1 x2 y0 y1 y2 : Value) (r0 r1 r2 : Bool)
    (ha : ∀ w, (isAgg e).run P w = .ok false w)
    (q0 : (Op.equalIn 9999 e x0 y0).run P w = .ok r0 w) (q1 : (Op.equalIn 9999 e x1 y1).run P w = .ok r1 w) (q2 : (Op.equalIn 9999 e x2 y2).run P w = .ok r2 w) :
    (Op.equalIn 10000 t (.agg #[x0, x1, x2]) (.agg #[y0, y1, y2])).run P w = .ok (r0 && r1 && r2) w := by
  rw [show (10000 : Nat) = 9999 + 1 from rfl, Op.equalIn]
  simp only [Sem.run_bind, run_underlying ht, Result.andThen_ok, hsz]
  simp only [Std.Legacy.Range.forIn_eq_forIn_range', Std.Legacy.Range.size, Nat.sub_zero, Nat.add_sub_cancel, Nat.div_one, List.range'_succ, List.range'_zero, List.forIn_cons, List.forIn_nil]
  have p (xs : Array Value) (i : Nat) (v : Value) (h : xs[i]? = some v) : (part e xs i).run P w = .ok v w := by simp [part, ha, h]
  have a0 := p #[x0, x1, x2] 0 x0 rfl
  have a1 := p #[x0, x1, x2] 1 x1 rfl
  have a2 := p #[x0, x1, x2] 2 x2 rfl
  have b0 := p #[y0, y1, y2] 0 y0 rfl
  have b1 := p #[y0, y1, y2] 1 y1 rfl
  have b2 := p #[y0, y1, y2] 2 y2 rfl
  cases r0 <;> cases r1 <;> cases r2 <;> simp [Sem.run_bind, a0, a1, a2, b0, b1, b2, q0, q1, q2]
theorem isAgg_int {P : Program} {e : TypeId} {k : IntKind} (he : P.underlying e = some (.int k)) (w : World) : (isAgg e).run P w = .ok false w := by simp [isAgg, run_underlying he]
theorem isAgg_bool {P : Program} {e : TypeId} (he : P.underlying e = some .bool) (w : World) : (isAgg e).run P w = .ok false w := by simp [isAgg, run_underlying he]
theorem eq3_int {P : Program} {t e : TypeId} {k : IntKind} (ht : P.underlying t = some (.array 3 e)) (he : P.underlying e = some (.int k)) (hsz : ∀ w, (sizeOf e).run P w = .ok 1 w) (a b c a' b' c' : Int) (w : World) :
    (Op.equalIn 10000 t (.agg #[.int k a, .int k b, .int k c]) (.agg #[.int k a', .int k b', .int k c'])).run P w = .ok (a == a' && b == b' && c == c') w :=
  eq3_any ht hsz w _ _ _ _ _ _ _ _ _ (isAgg_int he) (run_equalIn_int w 9998 e k k _ _ he) (run_equalIn_int w 9998 e k k _ _ he) (run_equalIn_int w 9998 e k k _ _ he)
theorem eq3_bool {P : Program} {t e : TypeId} (ht : P.underlying t = some (.array 3 e)) (he : P.underlying e = some .bool) (hsz : ∀ w, (sizeOf e).run P w = .ok 1 w) (a b c a' b' c' : Bool) (w : World) :
    (Op.equalIn 10000 t (.agg #[.bool a, .bool b, .bool c]) (.agg #[.bool a', .bool b', .bool c'])).run P w = .ok (a == a' && b == b' && c == c') w :=
  eq3_any ht hsz w _ _ _ _ _ _ _ _ _ (isAgg_bool he) (run_equalIn_bool w 9998 e _ _ he) (run_equalIn_bool w 9998 e _ _ he) (run_equalIn_bool w 9998 e _ _ he)
end Go.Proofs.Ytcapbkihjjhkjaa.Arr
