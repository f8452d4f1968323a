/- '==' on a partition, and on its place, with itself: no condition on its numbers. -/
import Derived.Test.YtfndopemfhmhgaaArr
import Derived.Test.YtfndopemfhmhgaaPartTurn
namespace Go.Proofs.Ytfndopemfhmhgaa.PartEq
open Go.RowKit Mem PartTurn Arr
set_option linter.unusedVariables false
set_option linter.unusedSimpArgs false

theorem eqF_step {P : Program} {w : World} {d : Nat} {xs ys : Array Value} {f : Field} {fs : List Field} {a b : Value} (hn : f.name ≠ "_") (pa : (part f.type xs f.offset).run P w = .ok a w) (pb : (part f.type ys f.offset).run P w = .ok b w)
    (he : (Op.equalIn d f.type a b).run P w = .ok true w) (h : (Op.eqFields d xs ys fs).run P w = .ok true w) : (Op.eqFields d xs ys (f :: fs)).run P w = .ok true w := by
  simp only [Op.eqFields, hn, ne_eq, not_false_eq_true, if_true, Sem.run_bind, pa, pb, he, Result.andThen_ok]
  simpa using h
theorem eqF_nil {P : Program} {w : World} {d : Nat} {xs ys : Array Value} : (Op.eqFields d xs ys []).run P w = .ok true w := by simp [Op.eqFields]
theorem self3 {P : Program} {t e : TypeId} (d : Nat) (ht : P.underlying t = some (.array 3 e)) (hsz : ∀ w, (sizeOf e).run P w = .ok 1 w) (w : World) (x0 x1 x2 : Value)
    (ha : ∀ w, (isAgg e).run P w = .ok false w)
    (q0 : (Op.equalIn d e x0 x0).run P w = .ok true w) (q1 : (Op.equalIn d e x1 x1).run P w = .ok true w) (q2 : (Op.equalIn d e x2 x2).run P w = .ok true w) :
    (Op.equalIn (d + 1) t (.agg #[x0, x1, x2]) (.agg #[x0, x1, x2])).run P w = .ok true w := by
  rw [Op.equalIn]
  simp only [Sem.run_bind, run_underlying ht, Result.andThen_ok, hsz]
  simp only [Std.Legacy.Range.forIn_eq_forIn_range', Std.Legacy.Range.size, Nat.sub_zero, Nat.add_sub_cancel, Nat.div_one, List.range'_succ, List.range'_zero, List.forIn_cons, List.forIn_nil]
  have p (xs : Array Value) (i : Nat) (v : Value) (h : xs[i]? = some v) : (part e xs i).run P w = .ok v w := by simp [part, ha, h]
  have a0 := p #[x0, x1, x2] 0 x0 rfl
  have a1 := p #[x0, x1, x2] 1 x1 rfl
  have a2 := p #[x0, x1, x2] 2 x2 rfl
  simp [Sem.run_bind, a0, a1, a2, q0, q1, q2]
theorem self_int {P : Program} (w : World) (d : Nat) {t : TypeId} {k : IntKind} (h : P.underlying t = some (.int k)) (a : Int) : (Op.equalIn (d + 1) t (.int k a) (.int k a)).run P w = .ok true w := by
  rw [run_equalIn_int w d t k k a a h]; simp
theorem self_bool {P : Program} (w : World) (d : Nat) {t : TypeId} (h : P.underlying t = some .bool) (a : Bool) : (Op.equalIn (d + 1) t (.bool a) (.bool a)).run P w = .ok true w := by
  rw [run_equalIn_bool w d t a a h]; simp
theorem self_struct {P : Program} {w : World} {d : Nat} {t : TypeId} {xs : Array Value} {fs : List Field} (ht : P.underlying t = some (.struct (P.fieldsOf t))) (hp : P.stoodInHeld t = false) (hf : (P.fieldsOf t).toList = fs) (h : (Op.eqFields d xs xs fs).run P w = .ok true w) :
    (Op.equalIn (d + 1) t (.agg xs) (.agg xs)).run P w = .ok true w := by
  rw [run_equalIn_struct w d t xs xs ht hp, hf]; exact h
theorem self_ints (d : Nat) (a b c : Int) (w : World) : (Op.equalIn (d + 2) 22 (.agg #[.int .i64 a, .int .i64 b, .int .i64 c]) (.agg #[.int .i64 a, .int .i64 b, .int .i64 c])).run Try.prog w = .ok true w :=
  self3 (d + 1) Try.underlying22 (fun w => by kernel_rfl) w _ _ _ (isAgg_int Try.underlying3) (self_int w d Try.underlying3 _) (self_int w d Try.underlying3 _) (self_int w d Try.underlying3 _)
theorem self_bools (d : Nat) (a b c : Bool) (w : World) : (Op.equalIn (d + 2) 33 (.agg #[.bool a, .bool b, .bool c]) (.agg #[.bool a, .bool b, .bool c])).run Try.prog w = .ok true w :=
  self3 (d + 1) Try.underlying33 (fun w => by kernel_rfl) w _ _ _ (isAgg_bool Try.underlying4) (self_bool w d Try.underlying4 _) (self_bool w d Try.underlying4 _) (self_bool w d Try.underlying4 _)
theorem self_box (d : Nat) (x1 x2 x3 x4 x5 x6 : Int) (w : World) : (Op.equalIn (d + 3) 32 (.agg #[.int .i64 x1, .int .i64 x2, .int .i64 x3, .int .i64 x4, .int .i64 x5, .int .i64 x6]) (.agg #[.int .i64 x1, .int .i64 x2, .int .i64 x3, .int .i64 x4, .int .i64 x5, .int .i64 x6])).run Try.prog w = .ok true w := by
  refine self_struct (d := d + 2) (by kernel_rfl) (by kernel_rfl) rfl ?_
  refine eqF_step (a := .agg #[.int .i64 x1, .int .i64 x2, .int .i64 x3]) (b := .agg #[.int .i64 x1, .int .i64 x2, .int .i64 x3]) (by decide) (by kernel_rfl) (by kernel_rfl) (self_ints d _ _ _ w) ?_
  exact eqF_step (a := .agg #[.int .i64 x4, .int .i64 x5, .int .i64 x6]) (b := .agg #[.int .i64 x4, .int .i64 x5, .int .i64 x6]) (by decide) (by kernel_rfl) (by kernel_rfl) (self_ints d _ _ _ w) eqF_nil
theorem self_place (d : Nat) (x1 x2 x3 x4 x5 x6 : Int) (t1 t2 t3 : Bool) (w : World) : (Op.equalIn (d + 4) 35 (.agg #[.int .i64 x1, .int .i64 x2, .int .i64 x3, .int .i64 x4, .int .i64 x5, .int .i64 x6, .bool t1, .bool t2, .bool t3]) (.agg #[.int .i64 x1, .int .i64 x2, .int .i64 x3, .int .i64 x4, .int .i64 x5, .int .i64 x6, .bool t1, .bool t2, .bool t3])).run Try.prog w = .ok true w := by
  refine self_struct (d := d + 3) (by kernel_rfl) (by kernel_rfl) rfl ?_
  refine eqF_step (a := .agg #[.int .i64 x1, .int .i64 x2, .int .i64 x3, .int .i64 x4, .int .i64 x5, .int .i64 x6]) (b := .agg #[.int .i64 x1, .int .i64 x2, .int .i64 x3, .int .i64 x4, .int .i64 x5, .int .i64 x6]) (by decide) (by kernel_rfl) (by kernel_rfl) (self_box d _ _ _ _ _ _ w) ?_
  exact eqF_step (a := .agg #[.bool t1, .bool t2, .bool t3]) (b := .agg #[.bool t1, .bool t2, .bool t3]) (by decide) (by kernel_rfl) (by kernel_rfl) (self_bools (d + 1) _ _ _ w) eqF_nil
theorem self_part (d : Nat) (job x1 x2 x3 x4 x5 x6 : Int) (t1 t2 t3 : Bool) (ph tt si : Int) (w : World) : (Op.equalIn (d + 5) 37 (.agg #[.int .i64 job, .int .i64 x1, .int .i64 x2, .int .i64 x3, .int .i64 x4, .int .i64 x5, .int .i64 x6, .bool t1, .bool t2, .bool t3, .int .u8 ph, .int .i64 tt, .int .i64 si]) (.agg #[.int .i64 job, .int .i64 x1, .int .i64 x2, .int .i64 x3, .int .i64 x4, .int .i64 x5, .int .i64 x6, .bool t1, .bool t2, .bool t3, .int .u8 ph, .int .i64 tt, .int .i64 si])).run Try.prog w = .ok true w := by
  refine self_struct (d := d + 4) (by kernel_rfl) (by kernel_rfl) rfl ?_
  refine eqF_step (a := .int .i64 job) (b := .int .i64 job) (by decide) (by kernel_rfl) (by kernel_rfl) (self_int w (d + 3) Try.underlying3 _) ?_
  refine eqF_step (a := .agg #[.int .i64 x1, .int .i64 x2, .int .i64 x3, .int .i64 x4, .int .i64 x5, .int .i64 x6, .bool t1, .bool t2, .bool t3]) (b := .agg #[.int .i64 x1, .int .i64 x2, .int .i64 x3, .int .i64 x4, .int .i64 x5, .int .i64 x6, .bool t1, .bool t2, .bool t3]) (by decide) (by kernel_rfl) (by kernel_rfl) (self_place d _ _ _ _ _ _ _ _ _ w) ?_
  refine eqF_step (a := .int .u8 ph) (b := .int .u8 ph) (by decide) (by kernel_rfl) (by kernel_rfl) (self_int w (d + 3) Try.underlying5 _) ?_
  refine eqF_step (a := .int .i64 tt) (b := .int .i64 tt) (by decide) (by kernel_rfl) (by kernel_rfl) (self_int w (d + 3) Try.underlying3 _) ?_
  exact eqF_step (a := .int .i64 si) (b := .int .i64 si) (by decide) (by kernel_rfl) (by kernel_rfl) (self_int w (d + 3) Try.underlying3 _) eqF_nil
end Go.Proofs.Ytfndopemfhmhgaa.PartEq
