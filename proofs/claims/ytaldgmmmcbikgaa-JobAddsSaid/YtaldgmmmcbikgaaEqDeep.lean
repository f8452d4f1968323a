/- '==' on structs and arrays of flat words, by the cells: two are equal just if their cells are. No conditions but the types'. -/
import Derived.DeepKeys
import Derived.Laws.StructEq
import Derived.Tactics
import Derived.Test.YtaldgmmmcbikgaaRows
namespace Go.Proofs.Ytaldgmmmcbikgaa.EqDeep
set_option linter.unusedVariables false

theorem eq_of {P : Program} {t : TypeId} {m D D' : Nat} {xs ys : Array Value} {la lb : List Lit} (hk : P.keyTypeAt m t = true) (hm : m ≤ 10000)
    (hx : (Value.agg xs).formed P t = true) (hy : (Value.agg ys).formed P t = true) (kx : P.keyLits D t xs.toList = some la) (ky : P.keyLits D' t ys.toList = some lb) (b : Bool) (hb : b = true ↔ la = lb) (w : World) :
    (Op.equalIn 10000 t (.agg xs) (.agg ys)).run P w = .ok b w := by
  have h := run_equalIn_deep (10000 - m) m t hk
  rw [show 10000 - m + m = 10000 by omega] at h
  obtain ⟨r, hr, hi⟩ := h w D D' (.agg xs) (.agg ys) la lb hx hy kx ky
  rw [hr]
  have : r = b := by
    cases r <;> cases b
    · rfl
    · exact absurd (hi.2 (hb.1 rfl)) (by simp)
    · exact absurd (hb.2 (hi.1 rfl)) (by simp)
    · rfl
  rw [this]
theorem eq_self {P : Program} {t : TypeId} {m D : Nat} {xs : Array Value} {la : List Lit} (hk : P.keyTypeAt m t = true) (hm : m ≤ 10000)
    (hx : (Value.agg xs).formed P t = true) (kx : P.keyLits D t xs.toList = some la) (w : World) :
    (Op.equalIn 10000 t (.agg xs) (.agg xs)).run P w = .ok true w := eq_of hk hm hx hx kx kx true (by simp) w
end Go.Proofs.Ytaldgmmmcbikgaa.EqDeep
