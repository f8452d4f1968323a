/- Plain words for partitions: numbers within bounds, classes, configs, what turns make. No program in sight. -/
import Derived.Test.YtaldgmmmcbikgaaMem
import Derived.Test.YtaldgmmmcbikgaaPosMath
namespace Go.Proofs.Ytaldgmmmcbikgaa.PartMath
open Go.RowKit Mem PosMath
set_option linter.unusedVariables false

def inB (n lo hi : Int) : Bool := decide (lo ≤ n ∧ n ≤ hi)
theorem inB_true {n lo hi : Int} (h : inB n lo hi = true) : lo ≤ n ∧ n ≤ hi := by simpa [inB] using h
theorem inB_mk {n lo hi : Int} (h : lo ≤ n) (h2 : n ≤ hi) : inB n lo hi = true := by simp [inB, h, h2]
abbrev Cls := Int × Int × Int × Int
def clsB (k : Cls) : Bool := inB k.1 (-1000) 1000 && inB k.2.1 1 1048576 && inB k.2.2.1 1 4096 && inB k.2.2.2 1 24
def clsA (k : Cls) : Array Value := #[.int .i64 k.1, .int .i64 k.2.1, .int .i64 k.2.2.1, .int .i64 k.2.2.2]
/-- A slice of classes. -/
def ClsAt (w : World) (B : Nat) (X : Option Addr) (ks : List Cls) : Prop := ∀ (i : Nat) (k : Cls), ks[i]? = some k → ∃ b o, X = some ⟨b, o, none⟩ ∧ b < B ∧
  w.cell? ⟨b, o + i * 4, none⟩ = some (.int .i64 k.1) ∧ w.cell? ⟨b, o + i * 4 + 1, none⟩ = some (.int .i64 k.2.1) ∧ w.cell? ⟨b, o + i * 4 + 2, none⟩ = some (.int .i64 k.2.2.1) ∧ w.cell? ⟨b, o + i * 4 + 3, none⟩ = some (.int .i64 k.2.2.2)
theorem ClsAt.below {w w' : World} {B : Nat} {X : Option Addr} {ks : List Cls} (h : ClsAt w B X ks) (hb : Below B w w') : ClsAt w' B X ks := fun i k hi => by
  obtain ⟨b, o, e, hlt, x0, x1, x2, x3⟩ := h i k hi
  exact ⟨b, o, e, hlt, (hb.cell (p := ⟨b, _, none⟩) hlt).trans x0, (hb.cell (p := ⟨b, _, none⟩) hlt).trans x1, (hb.cell (p := ⟨b, _, none⟩) hlt).trans x2, (hb.cell (p := ⟨b, _, none⟩) hlt).trans x3⟩
theorem ClsAt.more {w : World} {B B' : Nat} {X : Option Addr} {ks : List Cls} (h : ClsAt w B X ks) (hB : B ≤ B') : ClsAt w B' X ks := fun i k hi => by
  obtain ⟨b, o, e, hlt, hx⟩ := h i k hi
  exact ⟨b, o, e, by omega, hx⟩
theorem ClsAt.up {w w' : World} {X : Option Addr} {ks : List Cls} (h : ClsAt w w.heap.size X ks) (hb : Below w.heap.size w w') : ClsAt w' w'.heap.size X ks := (h.below hb).more hb.size
theorem ClsAt.nil {w : World} {B : Nat} {X : Option Addr} : ClsAt w B X [] := fun i k hi => by simp at hi
/-- A config may be. -/
def CfgOk (a b c bo fr tr ag : Int) (ks : List Cls) : Prop :=
  May a b c ∧ inB bo 1 1048576 = true ∧ inB fr 1 1048576 = true ∧ inB tr 1 5 = true ∧ inB ag 1 1048576 = true ∧ inB ks.length 1 4 = true ∧ ks.all clsB = true
instance (a b c bo fr tr ag : Int) (ks : List Cls) : Decidable (CfgOk a b c bo fr tr ag ks) := by unfold CfgOk; infer_instance
/-- A partition may be, but for its place. -/
def PartOk (job ph tt si tr : Int) : Prop := inB job 1 2147483647 = true ∧ (1 ≤ ph ∧ ph ≤ 3) ∧ inB tt 1 tr = true ∧ inB si 0 1099511627776 = true
instance (job ph tt si tr : Int) : Decidable (PartOk job ph tt si tr) := by unfold PartOk; infer_instance
/-- How long it is promised to be from Since on; when it turns. -/
def leftR (ph bo wall fr : Int) : Int := if ph = 1 then bo + wall + fr else if ph = 2 then wall + fr else fr
def clockR (ph bo wall fr : Int) : Int := if ph = 1 then bo else if ph = 2 then wall else fr
def capM (v : Int) : Int := if v ≤ 1099511627776 then v else 1099511627776
theorem capM_lo {v : Int} (h : v ≤ 1099511627776) : capM v = v := if_pos h
theorem capM_hi {v : Int} (h : ¬ v ≤ 1099511627776) : capM v = 1099511627776 := if_neg h
end Go.Proofs.Ytaldgmmmcbikgaa.PartMath
