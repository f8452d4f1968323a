/- JobKeeps: the law. No conditions but those named. -/
import Derived.Test.YtaldgmmmcbikgaaJobKeepsW
import Derived.Test.YtaldgmmmcbikgaaOpenInts
namespace Go.Proofs.Ytaldgmmmcbikgaa.JobKeepsL
open Go.RowKit Mem PosMath PartMath TurnMath TurnFitsV JobMath JobMem JobRSame JobGreat JobKeepsW Lay
set_option linter.unusedVariables false

theorem keepsLaw (w : World) (d0 d1 d2 bo fr tr ag : Int) (K : Option Addr) (kc : Nat) (ks : List Cls) (hcp : ks.length ≤ kc) (hcm : kc ≤ maxLen) (hk : ClsAt w w.heap.size K ks) (X : Option Addr) (cX : Nat) (l : List JV) (hlc : l.length ≤ cX) (hcX : cX ≤ maxLen) (hX : JobsAt w X l) (hla : ∀ j ∈ l, JWf j ∧ j.af.length ≤ maxLen) (U : Option Addr) (cu : Nat) (us : List Int) (huc : us.length ≤ cu) (hcu : cu ≤ maxLen) (hU : IntsAt w U us)
    (j : JV) (Y : Option Addr) (cj : Nat) (hjc : j.af.length ≤ cj) (hjm : cj ≤ maxLen) (hY : IntsAt w Y j.af) (hjw : JWf j) :
    Calls Try.prog 7 #[.agg #[.int .i64 d0, .int .i64 d1, .int .i64 d2, .int .i64 bo, .int .i64 fr, .int .i64 tr, .int .i64 ag, .slice K ks.length kc], .slice X l.length cX, .slice U us.length cu, .agg #[.int .i64 j.id, .int .i64 j.us, .int .i64 j.cl, .int .i64 j.x.a, .int .i64 j.x.b, .int .i64 j.x.c, .bool j.x.p, .bool j.x.q, .bool j.x.r, .bool j.x.tn, .int .i64 j.wa, .int .i64 j.pr, .bool j.he, .slice Y j.af.length cj, .int .u8 j.st, .int .i64 j.ca]] w fun e w' => e = .returned (.bool true) ∧ Below w.heap.size w w' := by
  have hlk : ks.length ≤ maxLen := Nat.le_trans hcp hcm
  have hl : l.length ≤ maxLen := Nat.le_trans hlc hcX
  have hlu : us.length ≤ maxLen := Nat.le_trans huc hcu
  have hjl : j.af.length ≤ maxLen := Nat.le_trans hjc hjm
  by_cases h0 : (100 : Int) < (ks.length : Int)
  · exact jk_cls d0 d1 d2 bo fr tr ag K kc ks hlk X cX l hlc hl hla U cu us hlu j Y cj hjl hjw h0 w hk hX hU hY
  by_cases h1 : greatB l = true
  · exact jk_great d0 d1 d2 bo fr tr ag K kc ks hlk X cX l hlc hl hla U cu us hlu j Y cj hjl hjw h0 h1 w hk hX hU hY
  have h1' : greatB l = false := by simpa using h1
  by_cases h2 : (100 : Int) < (us.length : Int)
  · exact jk_busy d0 d1 d2 bo fr tr ag K kc ks hlk X cX l hlc hl hla U cu us hlu j Y cj hjl hjw h0 h1' h2 w hk hX hU hY
  by_cases h3 : (100 : Int) < (j.af.length : Int)
  · exact jk_after d0 d1 d2 bo fr tr ag K kc ks hlk X cX l hlc hl hla U cu us hlu j Y cj hjl hjw h0 h1' h2 h3 w hk hX hU hY
  exact jk_main d0 d1 d2 bo fr tr ag K kc ks hlk X cX l hlc hl hla U cu us hlu j Y cj hjl hjw h0 h1' h2 h3 w hk hX hU hY
end Go.Proofs.Ytaldgmmmcbikgaa.JobKeepsL
