/- Commands in plain Lean: their own fields, their bytes. -/
import Derived.Test.YtfdldbfjeamlcaaRecEach
namespace Go.Proofs.Ytfdldbfjeamlcaa.RecMath
open Go.RowKit Mem RecMem RecByte RecNum RecEach
set_option linter.unusedVariables false
set_option linter.unusedSimpArgs false

/-- A command, its job's numbers among them. -/
structure CV where
  kd : Int
  id : Int
  us : Int
  cl : Int
  a : Int
  b : Int
  c : Int
  p : Bool
  q : Bool
  r : Bool
  tn : Bool
  wa : Int
  pr : Int
  he : Bool
  af : List Int
  st : Int
  ca : Int
  ci : Int
  b0 : Int
  b1 : Int
  b2 : Int
  b3 : Int
  b4 : Int
  b5 : Int
  fr : Int
  to : Int
  n : Int
  we : Bool
deriving DecidableEq, Inhabited
def CV.z : CV := ⟨0, 0, 0, 0, 0, 0, 0, false, false, false, false, 0, 0, false, [], 0, 0, 0, 0, 0, 0, 0, 0, 0, 0, 0, 0, false⟩
def isJob (k : Int) : Prop := k = 1
def isId (k : Int) : Prop := k = 2 ∨ k = 3 ∨ k = 4 ∨ k = 6
def isKeep (k : Int) : Prop := k = 5
def isWell (k : Int) : Prop := k = 8 ∨ k = 9
def isN (k : Int) : Prop := k = 7 ∨ k = 10 ∨ k = 11 ∨ k = 12 ∨ k = 13 ∨ k = 14 ∨ k = 15
instance (k : Int) : Decidable (isJob k) := by unfold isJob; infer_instance
instance (k : Int) : Decidable (isId k) := by unfold isId; infer_instance
instance (k : Int) : Decidable (isKeep k) := by unfold isKeep; infer_instance
instance (k : Int) : Decidable (isWell k) := by unfold isWell; infer_instance
instance (k : Int) : Decidable (isN k) := by unfold isN; infer_instance
/-- A command with its own fields alone. -/
def own (c : CV) : CV :=
  if isJob c.kd then { CV.z with kd := c.kd, us := c.us, cl := c.cl, a := c.a, b := c.b, c := c.c, p := c.p, q := c.q, r := c.r, tn := c.tn, wa := c.wa, pr := c.pr, he := c.he, af := c.af }
  else if isId c.kd then { CV.z with kd := c.kd, ci := c.ci }
  else if isKeep c.kd then { CV.z with kd := c.kd, b0 := c.b0, b1 := c.b1, b2 := c.b2, b3 := c.b3, b4 := c.b4, b5 := c.b5, fr := c.fr, to := c.to }
  else if isWell c.kd then { CV.z with kd := c.kd, ci := c.ci, we := c.we }
  else if isN c.kd then { CV.z with kd := c.kd, n := c.n }
  else { CV.z with kd := c.kd }
theorem own_kd (c : CV) : (own c).kd = c.kd := by unfold own; repeat (first | rfl | split)
/-- May a kind be? -/
def mayK (k : Int) : Bool := decide (1 ≤ k) && decide (k ≤ 15)
theorem mayK_iff {k : Int} : mayK k = true ↔ isJob k ∨ isId k ∨ isKeep k ∨ isWell k ∨ isN k := by
  simp [mayK, isJob, isId, isKeep, isWell, isN]
  omega
theorem own_own (c : CV) : own (own c) = own c := by
  unfold own
  by_cases h1 : isJob c.kd
  · simp only [h1, if_true]
  · by_cases h2 : isId c.kd
    · simp only [h1, h2, if_true, if_false]
    · by_cases h3 : isKeep c.kd
      · simp only [h1, h2, h3, if_true, if_false]
      · by_cases h4 : isWell c.kd
        · simp only [h1, h2, h3, h4, if_true, if_false]
        · by_cases h5 : isN c.kd
          · simp only [h1, h2, h3, h4, h5, if_true, if_false]
          · simp only [h1, h2, h3, h4, h5, if_false]
/-- Its numbers are machine words. -/
def CWf (c : CV) : Prop := (∀ n ∈ [c.id, c.us, c.cl, c.a, c.b, c.c, c.wa, c.pr, c.ca, c.ci, c.b0, c.b1, c.b2, c.b3, c.b4, c.b5, c.fr, c.to, c.n], (Lit.int .i64 n).wf = true) ∧ ∀ n ∈ c.af, (Lit.int .i64 n).wf = true
/-- A command's bytes, of one with its own fields alone. -/
def askB (c : CV) : List Int := nB c.us ++ (nB c.cl ++ (numsB [c.a, c.b, c.c] ++ ([tB c.p, tB c.q, tB c.r] ++ ([tB c.tn] ++ (nB c.wa ++ (nB c.pr ++ ([tB c.he] ++ (nB c.af.length ++ numsB c.af))))))))
def cmdB (c : CV) : List Int :=
  c.kd :: (if isJob c.kd then askB c
  else if isId c.kd then nB c.ci
  else if isKeep c.kd then numsB [c.b0, c.b1, c.b2, c.b3, c.b4, c.b5] ++ (nB c.fr ++ nB c.to)
  else if isWell c.kd then nB c.ci ++ [tB c.we]
  else if isN c.kd then nB c.n
  else [])
theorem askB_len (c : CV) : (askB c).length = 69 + 8 * c.af.length := by
  simp only [askB, List.length_append, nB_len, numsB_len, List.length_cons, List.length_nil]
  omega
theorem cmdB_len (c : CV) : (cmdB c).length ≤ 82 + 8 * c.af.length := by
  unfold cmdB
  rw [List.length_cons]
  have := askB_len c
  split
  · omega
  · split
    · rw [nB_len]; omega
    · split
      · simp only [List.length_append, nB_len, numsB_len, List.length_cons, List.length_nil]; omega
      · split
        · simp only [List.length_append, nB_len, List.length_cons, List.length_nil]; omega
        · split
          · rw [nB_len]; omega
          · simp only [List.length_nil]; omega
abbrev cmdA (c : CV) (Y : Option Addr) (cy : Nat) : Array Value := #[.int .u8 c.kd, .int .i64 c.id, .int .i64 c.us, .int .i64 c.cl, .int .i64 c.a, .int .i64 c.b, .int .i64 c.c, .bool c.p, .bool c.q, .bool c.r, .bool c.tn, .int .i64 c.wa, .int .i64 c.pr, .bool c.he, .slice Y c.af.length cy, .int .u8 c.st, .int .i64 c.ca, .int .i64 c.ci, .int .i64 c.b0, .int .i64 c.b1, .int .i64 c.b2, .int .i64 c.b3, .int .i64 c.b4, .int .i64 c.b5, .int .i64 c.fr, .int .i64 c.to, .int .i64 c.n, .bool c.we]
abbrev recA (c : CV) (Y : Option Addr) (cy : Nat) : Array Value := #[.int .i64 0, .int .i64 0, .int .i64 0, .int .i64 0, .int .i64 0, .int .i64 0, .int .i64 0, .int .i64 0, .slice none 0 0, .int .i64 0, .int .i64 0, .slice none 0 0, .slice none 0 0, .slice none 0 0, .slice none 0 0, .slice none 0 0, .slice none 0 0, .int .u8 c.kd, .int .i64 c.id, .int .i64 c.us, .int .i64 c.cl, .int .i64 c.a, .int .i64 c.b, .int .i64 c.c, .bool c.p, .bool c.q, .bool c.r, .bool c.tn, .int .i64 c.wa, .int .i64 c.pr, .bool c.he, .slice Y c.af.length cy, .int .u8 c.st, .int .i64 c.ca, .int .i64 c.ci, .int .i64 c.b0, .int .i64 c.b1, .int .i64 c.b2, .int .i64 c.b3, .int .i64 c.b4, .int .i64 c.b5, .int .i64 c.fr, .int .i64 c.to, .int .i64 c.n, .bool c.we]
end Go.Proofs.Ytfdldbfjeamlcaa.RecMath
