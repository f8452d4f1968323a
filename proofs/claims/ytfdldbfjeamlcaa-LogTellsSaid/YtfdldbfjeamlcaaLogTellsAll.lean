/- The law LogTells for all arguments. -/
import Derived.Test.YtfdldbfjeamlcaaLogTellsG
import Derived.Test.YtfdldbfjeamlcaaLogTellsWalk
namespace Go.Proofs.Ytfdldbfjeamlcaa.LogTellsAll
open Go.RowKit Mem LogMath LogProg LogRef1 LogRef2 LogCrash LogAll LogInv LogTellsG LogTellsWalk
set_option linter.unusedVariables false
set_option linter.unusedSimpArgs false

theorem greatL_no {x y : AV} (h : greatL x y = false) : x.t.length ≤ 300000 ∧ y.t.length ≤ 300000 := by
  simp [greatL] at h
  omega
theorem tells (w : World) (x y : AV) (X : Option Addr) (ca : Nat) (Y : Option Addr) (cb : Nat) (h1 : x.t.length ≤ ca ∧ ca ≤ maxLen) (h2 : y.t.length ≤ cb ∧ cb ≤ maxLen) (hX : TAt w X x.t) (hY : TAt w Y y.t)
    (x' y' : AV) (X' : Option Addr) (ca' : Nat) (Y' : Option Addr) (cb' : Nat) (h1' : x'.t.length ≤ ca' ∧ ca' ≤ maxLen) (h2' : y'.t.length ≤ cb' ∧ cb' ≤ maxLen) (hX' : TAt w X' x'.t) (hY' : TAt w Y' y'.t)
    (kd ar : Int) (T : Option Addr) (ct : Nat) (tx : List Int) (h3 : tx.length ≤ ct ∧ ct ≤ maxLen) (hT : TAt w T tx) (m n : Int) :
    Calls Try.prog 8 #[.agg #[.slice X x.t.length ca, .int .i64 x.k, .slice Y y.t.length cb, .int .i64 y.k], .agg #[.slice X' x'.t.length ca', .int .i64 x'.k, .slice Y' y'.t.length cb', .int .i64 y'.k], .agg #[.int .u8 kd, .int .i64 ar, .slice T tx.length ct], .agg #[.int .i64 m, .int .i64 n]] w fun e w' => e = .returned (.bool true) ∧ Below w.heap.size w w' := by
  cases g : greatL x y
  · cases g' : greatL x' y'
    · obtain ⟨a, b⟩ := greatL_no g
      obtain ⟨a', b'⟩ := greatL_no g'
      by_cases ht : (300000 : Int) < (tx.length : Int)
      · exact tells_C x y X ca Y cb x' y' X' ca' Y' cb' kd ar T ct tx m n g g' ht w
      · exact tells_main x y X ca Y cb x' y' X' ca' Y' cb' kd ar T ct tx m n a b a' b' (by omega) h1.1 h2.1 w hX hY hX' hY' hT
    · exact tells_B x y X ca Y cb x' y' X' ca' Y' cb' kd ar T ct tx m n g g' w
  · exact tells_A x y X ca Y cb x' y' X' ca' Y' cb' kd ar T ct tx m n g w
end Go.Proofs.Ytfdldbfjeamlcaa.LogTellsAll
