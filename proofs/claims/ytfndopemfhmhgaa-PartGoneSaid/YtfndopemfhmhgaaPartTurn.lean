/- Plain words: a partition's values, its moments, and what a turn makes of it. No program in sight. -/
import Derived.Test.YtfndopemfhmhgaaPartMath
namespace Go.Proofs.Ytfndopemfhmhgaa.PartTurn
open Go.RowKit Mem PosMath PartMath
set_option linter.unusedVariables false

/-- A partition's thirteen values. -/
structure PV where
  job : Int
  x1 : Int
  x2 : Int
  x3 : Int
  x4 : Int
  x5 : Int
  x6 : Int
  t1 : Bool
  t2 : Bool
  t3 : Bool
  ph : Int
  tt : Int
  si : Int
deriving DecidableEq
def PV.arr (p : PV) : Array Value := #[.int .i64 p.job, .int .i64 p.x1, .int .i64 p.x2, .int .i64 p.x3, .int .i64 p.x4, .int .i64 p.x5, .int .i64 p.x6, .bool p.t1, .bool p.t2, .bool p.t3, .int .u8 p.ph, .int .i64 p.tt, .int .i64 p.si]
def PV.zero : PV := ⟨0, 0, 0, 0, 0, 0, 0, false, false, false, 0, 0, 0⟩
def endsV (a b c bo fr tr ag : Int) (ks : List Cls) (p : PV) (wall : Int) : Int × Int :=
  if CfgOk a b c bo fr tr ag ks ∧ PartOk p.job p.ph p.tt p.si tr then if inB wall 1 1048576 = true then (capM (p.si + leftR p.ph bo wall fr), 0) else (0, 2) else (0, 8)
def turnsV (a b c bo fr tr ag : Int) (ks : List Cls) (p : PV) (wall : Int) : Int × Int :=
  if CfgOk a b c bo fr tr ag ks ∧ PartOk p.job p.ph p.tt p.si tr then if inB wall 1 1048576 = true then (capM (p.si + clockR p.ph bo wall fr), 0) else (0, 2) else (0, 8)
/-- What a turn makes of what may be. -/
def nextV (tr : Int) (p : PV) (turn now : Int) : PV × Int × Bool × Int :=
  if turn < 1 ∨ 8 < turn ∨ inB now p.si 1099511627776 = false then (PV.zero, 0, false, 2)
  else if p.ph = 1 then if turn = 1 then ({ p with ph := 2, si := now }, 0, false, 0) else if turn = 2 then (if p.tt < tr then ({ p with ph := 1, tt := p.tt + 1, si := now }, 0, false, 0) else ({ p with ph := 3, tt := tr, si := now }, 6, false, 0)) else if turn = 6 then ({ p with ph := 3, si := now }, 5, false, 0) else if turn = 7 then ({ p with ph := 3, si := now }, 6, false, 0) else (PV.zero, 0, false, 250)
  else if p.ph = 2 then if turn = 3 then ({ p with ph := 3, si := now }, 3, false, 0) else if turn = 4 then ({ p with ph := 3, si := now }, 6, false, 0) else if turn = 5 then ({ p with ph := 3, si := now }, 4, false, 0) else if turn = 6 then ({ p with ph := 3, si := now }, 5, false, 0) else if turn = 7 then ({ p with ph := 3, si := now }, 6, false, 0) else (PV.zero, 0, false, 250)
  else if turn = 7 then (p, 0, false, 0) else if turn = 8 then (PV.zero, 0, true, 0) else (PV.zero, 0, false, 250)
def nextA (a b c bo fr tr ag : Int) (ks : List Cls) (p : PV) (turn now : Int) : PV × Int × Bool × Int :=
  if CfgOk a b c bo fr tr ag ks ∧ PartOk p.job p.ph p.tt p.si tr then nextV tr p turn now else (PV.zero, 0, false, 8)
/-- What a turn makes, in one sentence. -/
def Went (tr : Int) (p : PV) (turn now : Int) (r : PV × Int × Bool × Int) : Prop :=
  r.2.2.2 ≠ 0 ∨ (inB now p.si 1099511627776 = true ∧ (
    (r = (PV.zero, 0, true, 0) ∧ p.ph = 3 ∧ turn = 8) ∨
    (r = (p, 0, false, 0) ∧ p.ph = 3 ∧ turn = 7) ∨
    (p.ph = 1 ∧ turn = 2 ∧ ((p.tt < tr ∧ r = ({ p with ph := 1, tt := p.tt + 1, si := now }, 0, false, 0)) ∨ (¬ p.tt < tr ∧ r = ({ p with ph := 3, tt := tr, si := now }, 6, false, 0)))) ∨
    (p.ph = 1 ∧ turn = 1 ∧ r = ({ p with ph := 2, si := now }, 0, false, 0)) ∨
    ((p.ph = 1 ∨ p.ph = 2) ∧ turn ≠ 2 ∧ turn ≠ 8 ∧ turn ≠ 1 ∧ ∃ j, 3 ≤ j ∧ j ≤ 6 ∧ r = ({ p with ph := 3, si := now }, j, false, 0))))
theorem went (tr : Int) (p : PV) (turn now : Int) (h : 1 ≤ p.ph ∧ p.ph ≤ 3) : Went tr p turn now (nextV tr p turn now) := by
  by_cases h0 : turn < 1 ∨ 8 < turn ∨ inB now p.si 1099511627776 = false
  · left; unfold nextV; rw [if_pos h0]; decide
  have hN : inB now p.si 1099511627776 = true := by
    cases e : inB now p.si 1099511627776
    · exact absurd (Or.inr (Or.inr e)) h0
    · rfl
  have hph : p.ph = 1 ∨ p.ph = 2 ∨ p.ph = 3 := by omega
  have ht8 : turn = 1 ∨ turn = 2 ∨ turn = 3 ∨ turn = 4 ∨ turn = 5 ∨ turn = 6 ∨ turn = 7 ∨ turn = 8 := by omega
  unfold nextV
  rw [if_neg h0]
  clear h0 h
  rcases hph with e | e | e <;> rcases ht8 with rfl | rfl | rfl | rfl | rfl | rfl | rfl | rfl <;> simp [Went, e, hN]
  all_goals (by_cases ht : p.tt < tr <;> simp [ht] <;> omega)
end Go.Proofs.Ytfndopemfhmhgaa.PartTurn
