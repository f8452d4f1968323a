/- Several texts joined: The reference's SameOne, Same and Great. -/
import Derived.BigRegion
import Derived.BigQuiet
import Derived.Lib.QuietBelow
import Derived.Deep.QuietTactic
import Derived.Test.YtfpljpdjohmbaaaGreatYC
import Derived.Test.YtfpljpdjohmbaaaGreatYA
import Derived.Deep.DeepCutAuto
import Derived.Deep.RegionHeld3
import Derived.Laws.Rows
import Derived.Laws.AppendOwn
import Derived.Laws.OwnMore
import Derived.Deep.MidRow
import Derived.Test.YtfpljpdjohmbaaaGreatYB
import Derived.Test.YtfpljpdjohmbaaaGreatY6
import Derived.Test.YtfpljpdjohmbaaaGreatY1
import Derived.Deep.Slices
import Derived.Deep.Fields
import Derived.ChangeSame
import Derived.Laws.IdiomArrays
/-! The reference's SameOne, Same and Great. -/
namespace Go.Proofs.YtfpljpdjohmbaaaGreat.JobRSame
open Go.Sort (grow)
open Go.RowKit Mem PosMath PartMath TurnMath TurnWalks TurnMap JobMath JobMem JobSame QuietRow
set_option linter.unusedVariables false
set_option linter.unusedSimpArgs false

set_option maxRecDepth 100000 in
set_option maxHeartbeats 4000000 in
theorem rs_len (x y : JV) (Y Z : Option Addr) (c d : Nat) (hx : WWf x.x) (hy : WWf y.x) (hl : x.af.length ≤ 1000) (hm : y.af.length ≤ 1000) (hn : x.af.length ≠ y.af.length) (w : World) (hY : IntsAt w Y x.af) (hZ : IntsAt w Z y.af) :
    Calls Tryz.prog 23 #[.agg #[.int .i64 x.id, .int .i64 x.us, .int .i64 x.cl, .int .i64 x.x.a, .int .i64 x.x.b, .int .i64 x.x.c, .bool x.x.p, .bool x.x.q, .bool x.x.r, .bool x.x.tn, .int .i64 x.wa, .int .i64 x.pr, .bool x.he, .slice Y x.af.length c, .int .u8 x.st, .int .i64 x.ca], .agg #[.int .i64 y.id, .int .i64 y.us, .int .i64 y.cl, .int .i64 y.x.a, .int .i64 y.x.b, .int .i64 y.x.c, .bool y.x.p, .bool y.x.q, .bool y.x.r, .bool y.x.tn, .int .i64 y.wa, .int .i64 y.pr, .bool y.he, .slice Z y.af.length d, .int .u8 y.st, .int .i64 y.ca]] w fun e w' => e = .returned (.bool false) ∧ Below w.heap.size w w' := by
  have hn' : ((x.af.length : Int) != (y.af.length : Int)) = true := by simp; omega
  clear hn hY hZ
  go_enter Tryz.func23, Tryz.ntmps23
  go_wp2_with fail
  go_ret
  exact ⟨rfl, below_alloc (below_alloc (Below.refl _ _))⟩
set_option maxRecDepth 100000 in
set_option maxHeartbeats 4000000 in
theorem rs_0 (x y : JV) (Y Z : Option Addr) (c d : Nat) (hx : WWf x.x) (hy : WWf y.x) (hl : x.af.length ≤ 1000) (hm : y.af.length ≤ 1000) (hn : x.af.length = y.af.length)  (h0 : ¬ x.id = y.id) (w : World) (hY : IntsAt w Y x.af) (hZ : IntsAt w Z y.af) :
    Calls Tryz.prog 23 #[.agg #[.int .i64 x.id, .int .i64 x.us, .int .i64 x.cl, .int .i64 x.x.a, .int .i64 x.x.b, .int .i64 x.x.c, .bool x.x.p, .bool x.x.q, .bool x.x.r, .bool x.x.tn, .int .i64 x.wa, .int .i64 x.pr, .bool x.he, .slice Y x.af.length c, .int .u8 x.st, .int .i64 x.ca], .agg #[.int .i64 y.id, .int .i64 y.us, .int .i64 y.cl, .int .i64 y.x.a, .int .i64 y.x.b, .int .i64 y.x.c, .bool y.x.p, .bool y.x.q, .bool y.x.r, .bool y.x.tn, .int .i64 y.wa, .int .i64 y.pr, .bool y.he, .slice Z y.af.length d, .int .u8 y.st, .int .i64 y.ca]] w fun e w' => e = .returned (.bool false) ∧ Below w.heap.size w w' := by
  have hn' : ((x.af.length : Int) != (y.af.length : Int)) = false := by simp [hn]
  have e0 : (x.id != y.id) = true := by simpa using h0
  clear hn hY hZ hx hy h0
  go_enter Tryz.func23, Tryz.ntmps23
  go_wp2_with fail
  go_ret
  exact ⟨rfl, below_alloc (below_alloc (Below.refl _ _))⟩
set_option maxRecDepth 100000 in
set_option maxHeartbeats 4000000 in
theorem rs_1 (x y : JV) (Y Z : Option Addr) (c d : Nat) (hx : WWf x.x) (hy : WWf y.x) (hl : x.af.length ≤ 1000) (hm : y.af.length ≤ 1000) (hn : x.af.length = y.af.length) (h0 : x.id = y.id) (h1 : ¬ x.us = y.us) (w : World) (hY : IntsAt w Y x.af) (hZ : IntsAt w Z y.af) :
    Calls Tryz.prog 23 #[.agg #[.int .i64 x.id, .int .i64 x.us, .int .i64 x.cl, .int .i64 x.x.a, .int .i64 x.x.b, .int .i64 x.x.c, .bool x.x.p, .bool x.x.q, .bool x.x.r, .bool x.x.tn, .int .i64 x.wa, .int .i64 x.pr, .bool x.he, .slice Y x.af.length c, .int .u8 x.st, .int .i64 x.ca], .agg #[.int .i64 y.id, .int .i64 y.us, .int .i64 y.cl, .int .i64 y.x.a, .int .i64 y.x.b, .int .i64 y.x.c, .bool y.x.p, .bool y.x.q, .bool y.x.r, .bool y.x.tn, .int .i64 y.wa, .int .i64 y.pr, .bool y.he, .slice Z y.af.length d, .int .u8 y.st, .int .i64 y.ca]] w fun e w' => e = .returned (.bool false) ∧ Below w.heap.size w w' := by
  have hn' : ((x.af.length : Int) != (y.af.length : Int)) = false := by simp [hn]
  have e0 : (x.id != y.id) = false := by simpa using h0
  have e1 : (x.us != y.us) = true := by simpa using h1
  clear hn hY hZ hx hy h0 h1
  go_enter Tryz.func23, Tryz.ntmps23
  go_wp2_with fail
  go_ret
  exact ⟨rfl, below_alloc (below_alloc (Below.refl _ _))⟩
set_option maxRecDepth 100000 in
set_option maxHeartbeats 4000000 in
theorem rs_2 (x y : JV) (Y Z : Option Addr) (c d : Nat) (hx : WWf x.x) (hy : WWf y.x) (hl : x.af.length ≤ 1000) (hm : y.af.length ≤ 1000) (hn : x.af.length = y.af.length) (h0 : x.id = y.id) (h1 : x.us = y.us) (h2 : ¬ x.cl = y.cl) (w : World) (hY : IntsAt w Y x.af) (hZ : IntsAt w Z y.af) :
    Calls Tryz.prog 23 #[.agg #[.int .i64 x.id, .int .i64 x.us, .int .i64 x.cl, .int .i64 x.x.a, .int .i64 x.x.b, .int .i64 x.x.c, .bool x.x.p, .bool x.x.q, .bool x.x.r, .bool x.x.tn, .int .i64 x.wa, .int .i64 x.pr, .bool x.he, .slice Y x.af.length c, .int .u8 x.st, .int .i64 x.ca], .agg #[.int .i64 y.id, .int .i64 y.us, .int .i64 y.cl, .int .i64 y.x.a, .int .i64 y.x.b, .int .i64 y.x.c, .bool y.x.p, .bool y.x.q, .bool y.x.r, .bool y.x.tn, .int .i64 y.wa, .int .i64 y.pr, .bool y.he, .slice Z y.af.length d, .int .u8 y.st, .int .i64 y.ca]] w fun e w' => e = .returned (.bool false) ∧ Below w.heap.size w w' := by
  have hn' : ((x.af.length : Int) != (y.af.length : Int)) = false := by simp [hn]
  have e0 : (x.id != y.id) = false := by simpa using h0
  have e1 : (x.us != y.us) = false := by simpa using h1
  have e2 : (x.cl != y.cl) = true := by simpa using h2
  clear hn hY hZ hx hy h0 h1 h2
  go_enter Tryz.func23, Tryz.ntmps23
  go_wp2_with fail
  go_ret
  exact ⟨rfl, below_alloc (below_alloc (Below.refl _ _))⟩
set_option maxRecDepth 100000 in
set_option maxHeartbeats 4000000 in
theorem rs_3 (x y : JV) (Y Z : Option Addr) (c d : Nat) (hx : WWf x.x) (hy : WWf y.x) (hl : x.af.length ≤ 1000) (hm : y.af.length ≤ 1000) (hn : x.af.length = y.af.length) (h0 : x.id = y.id) (h1 : x.us = y.us) (h2 : x.cl = y.cl) (h3 : ¬ x.x = y.x) (w : World) (hY : IntsAt w Y x.af) (hZ : IntsAt w Z y.af) :
    Calls Tryz.prog 23 #[.agg #[.int .i64 x.id, .int .i64 x.us, .int .i64 x.cl, .int .i64 x.x.a, .int .i64 x.x.b, .int .i64 x.x.c, .bool x.x.p, .bool x.x.q, .bool x.x.r, .bool x.x.tn, .int .i64 x.wa, .int .i64 x.pr, .bool x.he, .slice Y x.af.length c, .int .u8 x.st, .int .i64 x.ca], .agg #[.int .i64 y.id, .int .i64 y.us, .int .i64 y.cl, .int .i64 y.x.a, .int .i64 y.x.b, .int .i64 y.x.c, .bool y.x.p, .bool y.x.q, .bool y.x.r, .bool y.x.tn, .int .i64 y.wa, .int .i64 y.pr, .bool y.he, .slice Z y.af.length d, .int .u8 y.st, .int .i64 y.ca]] w fun e w' => e = .returned (.bool false) ∧ Below w.heap.size w w' := by
  have hn' : ((x.af.length : Int) != (y.af.length : Int)) = false := by simp [hn]
  have e0 : (x.id != y.id) = false := by simpa using h0
  have e1 : (x.us != y.us) = false := by simpa using h1
  have e2 : (x.cl != y.cl) = false := by simpa using h2
  have e3 : ∀ w, (Op.equalIn 10000 30 (.agg #[.int .i64 x.x.a, .int .i64 x.x.b, .int .i64 x.x.c, .bool x.x.p, .bool x.x.q, .bool x.x.r, .bool x.x.tn]) (.agg #[.int .i64 y.x.a, .int .i64 y.x.b, .int .i64 y.x.c, .bool y.x.p, .bool y.x.q, .bool y.x.r, .bool y.x.tn])).run Tryz.prog w = .ok false w := fun w => by
    have := eq_wants hx hy w
    rw [decide_eq_false h3] at this
    exact this
  clear hn hY hZ hx hy h0 h1 h2 h3
  go_enter Tryz.func23, Tryz.ntmps23
  go_wp2_with fail
  go_ret
  exact ⟨rfl, below_alloc (below_alloc (Below.refl _ _))⟩
set_option maxRecDepth 100000 in
set_option maxHeartbeats 4000000 in
theorem rs_4 (x y : JV) (Y Z : Option Addr) (c d : Nat) (hx : WWf x.x) (hy : WWf y.x) (hl : x.af.length ≤ 1000) (hm : y.af.length ≤ 1000) (hn : x.af.length = y.af.length) (h0 : x.id = y.id) (h1 : x.us = y.us) (h2 : x.cl = y.cl) (h3 : x.x = y.x) (h4 : ¬ x.wa = y.wa) (w : World) (hY : IntsAt w Y x.af) (hZ : IntsAt w Z y.af) :
    Calls Tryz.prog 23 #[.agg #[.int .i64 x.id, .int .i64 x.us, .int .i64 x.cl, .int .i64 x.x.a, .int .i64 x.x.b, .int .i64 x.x.c, .bool x.x.p, .bool x.x.q, .bool x.x.r, .bool x.x.tn, .int .i64 x.wa, .int .i64 x.pr, .bool x.he, .slice Y x.af.length c, .int .u8 x.st, .int .i64 x.ca], .agg #[.int .i64 y.id, .int .i64 y.us, .int .i64 y.cl, .int .i64 y.x.a, .int .i64 y.x.b, .int .i64 y.x.c, .bool y.x.p, .bool y.x.q, .bool y.x.r, .bool y.x.tn, .int .i64 y.wa, .int .i64 y.pr, .bool y.he, .slice Z y.af.length d, .int .u8 y.st, .int .i64 y.ca]] w fun e w' => e = .returned (.bool false) ∧ Below w.heap.size w w' := by
  have hn' : ((x.af.length : Int) != (y.af.length : Int)) = false := by simp [hn]
  have e0 : (x.id != y.id) = false := by simpa using h0
  have e1 : (x.us != y.us) = false := by simpa using h1
  have e2 : (x.cl != y.cl) = false := by simpa using h2
  have e3 : ∀ w, (Op.equalIn 10000 30 (.agg #[.int .i64 x.x.a, .int .i64 x.x.b, .int .i64 x.x.c, .bool x.x.p, .bool x.x.q, .bool x.x.r, .bool x.x.tn]) (.agg #[.int .i64 y.x.a, .int .i64 y.x.b, .int .i64 y.x.c, .bool y.x.p, .bool y.x.q, .bool y.x.r, .bool y.x.tn])).run Tryz.prog w = .ok true w := fun w => by
    have := eq_wants hx hy w
    rw [decide_eq_true h3] at this
    exact this
  have e4 : (x.wa != y.wa) = true := by simpa using h4
  clear hn hY hZ hx hy h0 h1 h2 h3 h4
  go_enter Tryz.func23, Tryz.ntmps23
  go_wp2_with fail
  go_ret
  exact ⟨rfl, below_alloc (below_alloc (Below.refl _ _))⟩
set_option maxRecDepth 100000 in
set_option maxHeartbeats 4000000 in
theorem rs_5 (x y : JV) (Y Z : Option Addr) (c d : Nat) (hx : WWf x.x) (hy : WWf y.x) (hl : x.af.length ≤ 1000) (hm : y.af.length ≤ 1000) (hn : x.af.length = y.af.length) (h0 : x.id = y.id) (h1 : x.us = y.us) (h2 : x.cl = y.cl) (h3 : x.x = y.x) (h4 : x.wa = y.wa) (h5 : ¬ x.pr = y.pr) (w : World) (hY : IntsAt w Y x.af) (hZ : IntsAt w Z y.af) :
    Calls Tryz.prog 23 #[.agg #[.int .i64 x.id, .int .i64 x.us, .int .i64 x.cl, .int .i64 x.x.a, .int .i64 x.x.b, .int .i64 x.x.c, .bool x.x.p, .bool x.x.q, .bool x.x.r, .bool x.x.tn, .int .i64 x.wa, .int .i64 x.pr, .bool x.he, .slice Y x.af.length c, .int .u8 x.st, .int .i64 x.ca], .agg #[.int .i64 y.id, .int .i64 y.us, .int .i64 y.cl, .int .i64 y.x.a, .int .i64 y.x.b, .int .i64 y.x.c, .bool y.x.p, .bool y.x.q, .bool y.x.r, .bool y.x.tn, .int .i64 y.wa, .int .i64 y.pr, .bool y.he, .slice Z y.af.length d, .int .u8 y.st, .int .i64 y.ca]] w fun e w' => e = .returned (.bool false) ∧ Below w.heap.size w w' := by
  have hn' : ((x.af.length : Int) != (y.af.length : Int)) = false := by simp [hn]
  have e0 : (x.id != y.id) = false := by simpa using h0
  have e1 : (x.us != y.us) = false := by simpa using h1
  have e2 : (x.cl != y.cl) = false := by simpa using h2
  have e3 : ∀ w, (Op.equalIn 10000 30 (.agg #[.int .i64 x.x.a, .int .i64 x.x.b, .int .i64 x.x.c, .bool x.x.p, .bool x.x.q, .bool x.x.r, .bool x.x.tn]) (.agg #[.int .i64 y.x.a, .int .i64 y.x.b, .int .i64 y.x.c, .bool y.x.p, .bool y.x.q, .bool y.x.r, .bool y.x.tn])).run Tryz.prog w = .ok true w := fun w => by
    have := eq_wants hx hy w
    rw [decide_eq_true h3] at this
    exact this
  have e4 : (x.wa != y.wa) = false := by simpa using h4
  have e5 : (x.pr != y.pr) = true := by simpa using h5
  clear hn hY hZ hx hy h0 h1 h2 h3 h4 h5
  go_enter Tryz.func23, Tryz.ntmps23
  go_wp2_with fail
  go_ret
  exact ⟨rfl, below_alloc (below_alloc (Below.refl _ _))⟩
set_option maxRecDepth 100000 in
set_option maxHeartbeats 4000000 in
theorem rs_6 (x y : JV) (Y Z : Option Addr) (c d : Nat) (hx : WWf x.x) (hy : WWf y.x) (hl : x.af.length ≤ 1000) (hm : y.af.length ≤ 1000) (hn : x.af.length = y.af.length) (h0 : x.id = y.id) (h1 : x.us = y.us) (h2 : x.cl = y.cl) (h3 : x.x = y.x) (h4 : x.wa = y.wa) (h5 : x.pr = y.pr) (h6 : ¬ x.he = y.he) (w : World) (hY : IntsAt w Y x.af) (hZ : IntsAt w Z y.af) :
    Calls Tryz.prog 23 #[.agg #[.int .i64 x.id, .int .i64 x.us, .int .i64 x.cl, .int .i64 x.x.a, .int .i64 x.x.b, .int .i64 x.x.c, .bool x.x.p, .bool x.x.q, .bool x.x.r, .bool x.x.tn, .int .i64 x.wa, .int .i64 x.pr, .bool x.he, .slice Y x.af.length c, .int .u8 x.st, .int .i64 x.ca], .agg #[.int .i64 y.id, .int .i64 y.us, .int .i64 y.cl, .int .i64 y.x.a, .int .i64 y.x.b, .int .i64 y.x.c, .bool y.x.p, .bool y.x.q, .bool y.x.r, .bool y.x.tn, .int .i64 y.wa, .int .i64 y.pr, .bool y.he, .slice Z y.af.length d, .int .u8 y.st, .int .i64 y.ca]] w fun e w' => e = .returned (.bool false) ∧ Below w.heap.size w w' := by
  have hn' : ((x.af.length : Int) != (y.af.length : Int)) = false := by simp [hn]
  have e0 : (x.id != y.id) = false := by simpa using h0
  have e1 : (x.us != y.us) = false := by simpa using h1
  have e2 : (x.cl != y.cl) = false := by simpa using h2
  have e3 : ∀ w, (Op.equalIn 10000 30 (.agg #[.int .i64 x.x.a, .int .i64 x.x.b, .int .i64 x.x.c, .bool x.x.p, .bool x.x.q, .bool x.x.r, .bool x.x.tn]) (.agg #[.int .i64 y.x.a, .int .i64 y.x.b, .int .i64 y.x.c, .bool y.x.p, .bool y.x.q, .bool y.x.r, .bool y.x.tn])).run Tryz.prog w = .ok true w := fun w => by
    have := eq_wants hx hy w
    rw [decide_eq_true h3] at this
    exact this
  have e4 : (x.wa != y.wa) = false := by simpa using h4
  have e5 : (x.pr != y.pr) = false := by simpa using h5
  have e6 : (!(x.he == y.he)) = true := by simpa using h6
  clear hn hY hZ hx hy h0 h1 h2 h3 h4 h5 h6
  go_enter Tryz.func23, Tryz.ntmps23
  go_wp2_with fail
  go_ret
  exact ⟨rfl, below_alloc (below_alloc (Below.refl _ _))⟩
set_option maxRecDepth 100000 in
set_option maxHeartbeats 4000000 in
theorem rs_7 (x y : JV) (Y Z : Option Addr) (c d : Nat) (hx : WWf x.x) (hy : WWf y.x) (hl : x.af.length ≤ 1000) (hm : y.af.length ≤ 1000) (hn : x.af.length = y.af.length) (h0 : x.id = y.id) (h1 : x.us = y.us) (h2 : x.cl = y.cl) (h3 : x.x = y.x) (h4 : x.wa = y.wa) (h5 : x.pr = y.pr) (h6 : x.he = y.he) (h7 : ¬ x.st = y.st) (w : World) (hY : IntsAt w Y x.af) (hZ : IntsAt w Z y.af) :
    Calls Tryz.prog 23 #[.agg #[.int .i64 x.id, .int .i64 x.us, .int .i64 x.cl, .int .i64 x.x.a, .int .i64 x.x.b, .int .i64 x.x.c, .bool x.x.p, .bool x.x.q, .bool x.x.r, .bool x.x.tn, .int .i64 x.wa, .int .i64 x.pr, .bool x.he, .slice Y x.af.length c, .int .u8 x.st, .int .i64 x.ca], .agg #[.int .i64 y.id, .int .i64 y.us, .int .i64 y.cl, .int .i64 y.x.a, .int .i64 y.x.b, .int .i64 y.x.c, .bool y.x.p, .bool y.x.q, .bool y.x.r, .bool y.x.tn, .int .i64 y.wa, .int .i64 y.pr, .bool y.he, .slice Z y.af.length d, .int .u8 y.st, .int .i64 y.ca]] w fun e w' => e = .returned (.bool false) ∧ Below w.heap.size w w' := by
  have hn' : ((x.af.length : Int) != (y.af.length : Int)) = false := by simp [hn]
  have e0 : (x.id != y.id) = false := by simpa using h0
  have e1 : (x.us != y.us) = false := by simpa using h1
  have e2 : (x.cl != y.cl) = false := by simpa using h2
  have e3 : ∀ w, (Op.equalIn 10000 30 (.agg #[.int .i64 x.x.a, .int .i64 x.x.b, .int .i64 x.x.c, .bool x.x.p, .bool x.x.q, .bool x.x.r, .bool x.x.tn]) (.agg #[.int .i64 y.x.a, .int .i64 y.x.b, .int .i64 y.x.c, .bool y.x.p, .bool y.x.q, .bool y.x.r, .bool y.x.tn])).run Tryz.prog w = .ok true w := fun w => by
    have := eq_wants hx hy w
    rw [decide_eq_true h3] at this
    exact this
  have e4 : (x.wa != y.wa) = false := by simpa using h4
  have e5 : (x.pr != y.pr) = false := by simpa using h5
  have e6 : (!(x.he == y.he)) = false := by simpa using h6
  have e7 : (x.st != y.st) = true := by simpa using h7
  clear hn hY hZ hx hy h0 h1 h2 h3 h4 h5 h6 h7
  go_enter Tryz.func23, Tryz.ntmps23
  go_wp2_with fail
  go_ret
  exact ⟨rfl, below_alloc (below_alloc (Below.refl _ _))⟩
set_option maxRecDepth 100000 in
set_option maxHeartbeats 4000000 in
theorem rs_8 (x y : JV) (Y Z : Option Addr) (c d : Nat) (hx : WWf x.x) (hy : WWf y.x) (hl : x.af.length ≤ 1000) (hm : y.af.length ≤ 1000) (hn : x.af.length = y.af.length) (h0 : x.id = y.id) (h1 : x.us = y.us) (h2 : x.cl = y.cl) (h3 : x.x = y.x) (h4 : x.wa = y.wa) (h5 : x.pr = y.pr) (h6 : x.he = y.he) (h7 : x.st = y.st) (h8 : ¬ x.ca = y.ca) (w : World) (hY : IntsAt w Y x.af) (hZ : IntsAt w Z y.af) :
    Calls Tryz.prog 23 #[.agg #[.int .i64 x.id, .int .i64 x.us, .int .i64 x.cl, .int .i64 x.x.a, .int .i64 x.x.b, .int .i64 x.x.c, .bool x.x.p, .bool x.x.q, .bool x.x.r, .bool x.x.tn, .int .i64 x.wa, .int .i64 x.pr, .bool x.he, .slice Y x.af.length c, .int .u8 x.st, .int .i64 x.ca], .agg #[.int .i64 y.id, .int .i64 y.us, .int .i64 y.cl, .int .i64 y.x.a, .int .i64 y.x.b, .int .i64 y.x.c, .bool y.x.p, .bool y.x.q, .bool y.x.r, .bool y.x.tn, .int .i64 y.wa, .int .i64 y.pr, .bool y.he, .slice Z y.af.length d, .int .u8 y.st, .int .i64 y.ca]] w fun e w' => e = .returned (.bool false) ∧ Below w.heap.size w w' := by
  have hn' : ((x.af.length : Int) != (y.af.length : Int)) = false := by simp [hn]
  have e0 : (x.id != y.id) = false := by simpa using h0
  have e1 : (x.us != y.us) = false := by simpa using h1
  have e2 : (x.cl != y.cl) = false := by simpa using h2
  have e3 : ∀ w, (Op.equalIn 10000 30 (.agg #[.int .i64 x.x.a, .int .i64 x.x.b, .int .i64 x.x.c, .bool x.x.p, .bool x.x.q, .bool x.x.r, .bool x.x.tn]) (.agg #[.int .i64 y.x.a, .int .i64 y.x.b, .int .i64 y.x.c, .bool y.x.p, .bool y.x.q, .bool y.x.r, .bool y.x.tn])).run Tryz.prog w = .ok true w := fun w => by
    have := eq_wants hx hy w
    rw [decide_eq_true h3] at this
    exact this
  have e4 : (x.wa != y.wa) = false := by simpa using h4
  have e5 : (x.pr != y.pr) = false := by simpa using h5
  have e6 : (!(x.he == y.he)) = false := by simpa using h6
  have e7 : (x.st != y.st) = false := by simpa using h7
  have e8 : (x.ca != y.ca) = true := by simpa using h8
  clear hn hY hZ hx hy h0 h1 h2 h3 h4 h5 h6 h7 h8
  go_enter Tryz.func23, Tryz.ntmps23
  go_wp2_with fail
  go_ret
  exact ⟨rfl, below_alloc (below_alloc (Below.refl _ _))⟩
set_option maxRecDepth 100000 in
set_option maxHeartbeats 4000000 in
theorem rs_all (x y : JV) (Y Z : Option Addr) (c d : Nat) (hx : WWf x.x) (hy : WWf y.x) (hl : x.af.length ≤ 1000) (hm : y.af.length ≤ 1000) (hn : x.af.length = y.af.length) (h0 : x.id = y.id) (h1 : x.us = y.us) (h2 : x.cl = y.cl) (h3 : x.x = y.x) (h4 : x.wa = y.wa) (h5 : x.pr = y.pr) (h6 : x.he = y.he) (h7 : x.st = y.st) (h8 : x.ca = y.ca) (w : World) (hY : IntsAt w Y x.af) (hZ : IntsAt w Z y.af) :
    Calls Tryz.prog 23 #[.agg #[.int .i64 x.id, .int .i64 x.us, .int .i64 x.cl, .int .i64 x.x.a, .int .i64 x.x.b, .int .i64 x.x.c, .bool x.x.p, .bool x.x.q, .bool x.x.r, .bool x.x.tn, .int .i64 x.wa, .int .i64 x.pr, .bool x.he, .slice Y x.af.length c, .int .u8 x.st, .int .i64 x.ca], .agg #[.int .i64 y.id, .int .i64 y.us, .int .i64 y.cl, .int .i64 y.x.a, .int .i64 y.x.b, .int .i64 y.x.c, .bool y.x.p, .bool y.x.q, .bool y.x.r, .bool y.x.tn, .int .i64 y.wa, .int .i64 y.pr, .bool y.he, .slice Z y.af.length d, .int .u8 y.st, .int .i64 y.ca]] w fun e w' => e = .returned (.bool (decide (x.af = y.af))) ∧ Below w.heap.size w w' := by
  obtain ⟨V, hV⟩ : ∃ V, V = decide (x.af = y.af) := ⟨_, rfl⟩
  rw [← hV]
  have HV := Lib.hid hV
  have HN := Lib.hid hn
  have HY := Lib.hid hY
  have HZ := Lib.hid hZ
  have hn' : ((x.af.length : Int) != (y.af.length : Int)) = false := by simp [hn]
  have hle : (x.af.length : Int) ≤ (y.af.length : Int) := by omega
  have e0 : (x.id != y.id) = false := by simpa using h0
  have e1 : (x.us != y.us) = false := by simpa using h1
  have e2 : (x.cl != y.cl) = false := by simpa using h2
  have e3 : ∀ w, (Op.equalIn 10000 30 (.agg #[.int .i64 x.x.a, .int .i64 x.x.b, .int .i64 x.x.c, .bool x.x.p, .bool x.x.q, .bool x.x.r, .bool x.x.tn]) (.agg #[.int .i64 y.x.a, .int .i64 y.x.b, .int .i64 y.x.c, .bool y.x.p, .bool y.x.q, .bool y.x.r, .bool y.x.tn])).run Tryz.prog w = .ok true w := fun w => by
    have := eq_wants hx hy w
    rw [decide_eq_true h3] at this
    exact this
  have e4 : (x.wa != y.wa) = false := by simpa using h4
  have e5 : (x.pr != y.pr) = false := by simpa using h5
  have e6 : (!(x.he == y.he)) = false := by simpa using h6
  have e7 : (x.st != y.st) = false := by simpa using h7
  have e8 : (x.ca != y.ca) = false := by simpa using h8
  clear hV hn hY hZ hx hy h0 h1 h2 h3 h4 h5 h6 h7 h8
  go_enter Tryz.func23, Tryz.ntmps23
  go_wp2_with fail
  clear e0 e1 e2 e3 e4 e5 e6 e7 e8 hn'
  have kx0 : Blk ((w.alloc (.cells #[.int .i64 x.id, .int .i64 x.us, .int .i64 x.cl, .int .i64 x.x.a, .int .i64 x.x.b, .int .i64 x.x.c, .bool x.x.p, .bool x.x.q, .bool x.x.r, .bool x.x.tn, .int .i64 x.wa, .int .i64 x.pr, .bool x.he, .slice Y x.af.length c, .int .u8 x.st, .int .i64 x.ca] 33)).alloc (.cells #[.int .i64 y.id, .int .i64 y.us, .int .i64 y.cl, .int .i64 y.x.a, .int .i64 y.x.b, .int .i64 y.x.c, .bool y.x.p, .bool y.x.q, .bool y.x.r, .bool y.x.tn, .int .i64 y.wa, .int .i64 y.pr, .bool y.he, .slice Z y.af.length d, .int .u8 y.st, .int .i64 y.ca] 33)) w.heap.size 33 #[.int .i64 x.id, .int .i64 x.us, .int .i64 x.cl, .int .i64 x.x.a, .int .i64 x.x.b, .int .i64 x.x.c, .bool x.x.p, .bool x.x.q, .bool x.x.r, .bool x.x.tn, .int .i64 x.wa, .int .i64 x.pr, .bool x.he, .slice Y x.af.length c, .int .u8 x.st, .int .i64 x.ca] := (Blk.new w _ _).alloc _
  have ky0 : Blk ((w.alloc (.cells #[.int .i64 x.id, .int .i64 x.us, .int .i64 x.cl, .int .i64 x.x.a, .int .i64 x.x.b, .int .i64 x.x.c, .bool x.x.p, .bool x.x.q, .bool x.x.r, .bool x.x.tn, .int .i64 x.wa, .int .i64 x.pr, .bool x.he, .slice Y x.af.length c, .int .u8 x.st, .int .i64 x.ca] 33)).alloc (.cells #[.int .i64 y.id, .int .i64 y.us, .int .i64 y.cl, .int .i64 y.x.a, .int .i64 y.x.b, .int .i64 y.x.c, .bool y.x.p, .bool y.x.q, .bool y.x.r, .bool y.x.tn, .int .i64 y.wa, .int .i64 y.pr, .bool y.he, .slice Z y.af.length d, .int .u8 y.st, .int .i64 y.ca] 33)) (w.heap.size + 1) 33 #[.int .i64 y.id, .int .i64 y.us, .int .i64 y.cl, .int .i64 y.x.a, .int .i64 y.x.b, .int .i64 y.x.c, .bool y.x.p, .bool y.x.q, .bool y.x.r, .bool y.x.tn, .int .i64 y.wa, .int .i64 y.pr, .bool y.he, .slice Z y.af.length d, .int .u8 y.st, .int .i64 y.ca] := blk1 w _ _
  have hb0 : Below w.heap.size w ((w.alloc (.cells #[.int .i64 x.id, .int .i64 x.us, .int .i64 x.cl, .int .i64 x.x.a, .int .i64 x.x.b, .int .i64 x.x.c, .bool x.x.p, .bool x.x.q, .bool x.x.r, .bool x.x.tn, .int .i64 x.wa, .int .i64 x.pr, .bool x.he, .slice Y x.af.length c, .int .u8 x.st, .int .i64 x.ca] 33)).alloc (.cells #[.int .i64 y.id, .int .i64 y.us, .int .i64 y.cl, .int .i64 y.x.a, .int .i64 y.x.b, .int .i64 y.x.c, .bool y.x.p, .bool y.x.q, .bool y.x.r, .bool y.x.tn, .int .i64 y.wa, .int .i64 y.pr, .bool y.he, .slice Z y.af.length d, .int .u8 y.st, .int .i64 y.ca] 33)) := below_alloc (below_alloc (Below.refl _ _))
  generalize ((w.alloc (.cells #[.int .i64 x.id, .int .i64 x.us, .int .i64 x.cl, .int .i64 x.x.a, .int .i64 x.x.b, .int .i64 x.x.c, .bool x.x.p, .bool x.x.q, .bool x.x.r, .bool x.x.tn, .int .i64 x.wa, .int .i64 x.pr, .bool x.he, .slice Y x.af.length c, .int .u8 x.st, .int .i64 x.ca] 33)).alloc (.cells #[.int .i64 y.id, .int .i64 y.us, .int .i64 y.cl, .int .i64 y.x.a, .int .i64 y.x.b, .int .i64 y.x.c, .bool y.x.p, .bool y.x.q, .bool y.x.r, .bool y.x.tn, .int .i64 y.wa, .int .i64 y.pr, .bool y.he, .slice Z y.af.length d, .int .u8 y.st, .int .i64 y.ca] 33)) = w0 at *
  have H0 := Lib.hid (And.intro hb0 (And.intro kx0 ky0))
  clear hb0 kx0 ky0
  go_loopw [5] (fun i wr => ∃ k : Nat, k ≤ x.af.length ∧ i = .int .i64 k ∧ Hid (∀ (j : Nat) (a b : Int), j < k → x.af[j]? = some a → y.af[j]? = some b → a = b) ∧ Hid (Below w.heap.size w wr ∧ Blk wr w.heap.size 33 #[.int .i64 x.id, .int .i64 x.us, .int .i64 x.cl, .int .i64 x.x.a, .int .i64 x.x.b, .int .i64 x.x.c, .bool x.x.p, .bool x.x.q, .bool x.x.r, .bool x.x.tn, .int .i64 x.wa, .int .i64 x.pr, .bool x.he, .slice Y x.af.length c, .int .u8 x.st, .int .i64 x.ca] ∧ Blk wr (w.heap.size + 1) 33 #[.int .i64 y.id, .int .i64 y.us, .int .i64 y.cl, .int .i64 y.x.a, .int .i64 y.x.b, .int .i64 y.x.c, .bool y.x.p, .bool y.x.q, .bool y.x.r, .bool y.x.tn, .int .i64 y.wa, .int .i64 y.pr, .bool y.he, .slice Z y.af.length d, .int .u8 y.st, .int .i64 y.ca]))
    (fun i _ => x.af.length - (intOf i).toNat)
  case atStart => exact ⟨0, Nat.zero_le _, rfl, (fun j a b h => by omega), H0.out⟩
  case round =>
    obtain ⟨k, hk, rfl, hP, hB⟩ := hrel
    clear H0
    have x13 : wr.cell? ⟨w.heap.size, 13, none⟩ = some (.slice Y x.af.length c) := hB.out.2.1.cell 13
    have y13 : wr.cell? ⟨w.heap.size + 1, 13, none⟩ = some (.slice Z y.af.length d) := hB.out.2.2.cell 13
    by_cases hlt : k < x.af.length
    · have hg : x.af[k]? = some x.af[k] := List.getElem?_eq_getElem hlt
      generalize x.af[k] = u at hg
      have hkm : k < y.af.length := by have := HN.out; omega
      have hg2 : y.af[k]? = some y.af[k] := List.getElem?_eq_getElem hkm
      generalize y.af[k] = v at hg2
      have hki : (k : Int) < (x.af.length : Int) := by omega
      have hki2 : (k : Int) < (y.af.length : Int) := by omega
      have hki0 : (0 : Int) ≤ (k : Int) := by omega
      obtain ⟨b, o, rfl, hb, a0⟩ := HY.out.up hB.out.1 k u hg
      obtain ⟨b', o', rfl, hb', c0⟩ := HZ.out.up hB.out.1 k v hg2
      have HG := Lib.hid (And.intro hg hg2)
      clear hg hg2
      by_cases he : u = v
      · have he' : (u != v) = false := by simp [he]
        have HE := Lib.hid he
        clear he
        go_wp2_with fail
        go_quiet (fail)
        go_wp2_with fail
        go_roundw
        case rel => exact ⟨k + 1, by omega, by go_num, (fun j p q hj hu hv => by
            rcases Nat.lt_or_ge j k with h | h
            · exact hP.out j p q h hu hv
            · obtain rfl : j = k := by omega
              rw [HG.out.1] at hu; rw [HG.out.2] at hv; cases hu; cases hv; exact HE.out), below_drewN hB.out.1 _, hB.out.2.1.drewN _, hB.out.2.2.drewN _⟩
        case measure => simp [intOf]; omega
      · have he' : (u != v) = true := by simp [he]
        have ev : V = false := by rw [HV.out]; exact decide_eq_false (list_ne HG.out.1 HG.out.2 he)
        have EV := Lib.hid ev
        clear he ev
        go_wp2_with fail
        go_quiet (fail)
        go_wp2_with fail
        go_ret
        rw [EV.out]
        exact ⟨rfl, below_drewN hB.out.1 _⟩
    · obtain rfl : k = x.af.length := by omega
      have ev : V = true := by rw [HV.out]; exact decide_eq_true (list_eq HN.out hP.out)
      have EV := Lib.hid ev
      clear ev
      go_wp2_with fail
      go_ret
      rw [EV.out]
      exact ⟨rfl, hB.out.1⟩
theorem rsameOne (x y : JV) (Y Z : Option Addr) (c d : Nat) (hx : WWf x.x) (hy : WWf y.x) (hl : x.af.length ≤ 1000) (hm : y.af.length ≤ 1000) (w : World) (hY : IntsAt w Y x.af) (hZ : IntsAt w Z y.af) :
    Calls Tryz.prog 23 #[.agg (x.arr Y c), .agg (y.arr Z d)] w fun e w' => e = .returned (.bool (decide (x = y))) ∧ Below w.heap.size w w' := by
  by_cases hn : x.af.length = y.af.length
  rotate_left
  · rw [decide_eq_false fun e => hn (by rw [e])]
    exact rs_len x y Y Z c d hx hy hl hm hn w hY hZ
  by_cases h0 : x.id = y.id
  rotate_left
  · rw [decide_eq_false fun e => h0 (by rw [e])]
    exact rs_0 x y Y Z c d hx hy hl hm hn h0 w hY hZ
  by_cases h1 : x.us = y.us
  rotate_left
  · rw [decide_eq_false fun e => h1 (by rw [e])]
    exact rs_1 x y Y Z c d hx hy hl hm hn h0 h1 w hY hZ
  by_cases h2 : x.cl = y.cl
  rotate_left
  · rw [decide_eq_false fun e => h2 (by rw [e])]
    exact rs_2 x y Y Z c d hx hy hl hm hn h0 h1 h2 w hY hZ
  by_cases h3 : x.x = y.x
  rotate_left
  · rw [decide_eq_false fun e => h3 (by rw [e])]
    exact rs_3 x y Y Z c d hx hy hl hm hn h0 h1 h2 h3 w hY hZ
  by_cases h4 : x.wa = y.wa
  rotate_left
  · rw [decide_eq_false fun e => h4 (by rw [e])]
    exact rs_4 x y Y Z c d hx hy hl hm hn h0 h1 h2 h3 h4 w hY hZ
  by_cases h5 : x.pr = y.pr
  rotate_left
  · rw [decide_eq_false fun e => h5 (by rw [e])]
    exact rs_5 x y Y Z c d hx hy hl hm hn h0 h1 h2 h3 h4 h5 w hY hZ
  by_cases h6 : x.he = y.he
  rotate_left
  · rw [decide_eq_false fun e => h6 (by rw [e])]
    exact rs_6 x y Y Z c d hx hy hl hm hn h0 h1 h2 h3 h4 h5 h6 w hY hZ
  by_cases h7 : x.st = y.st
  rotate_left
  · rw [decide_eq_false fun e => h7 (by rw [e])]
    exact rs_7 x y Y Z c d hx hy hl hm hn h0 h1 h2 h3 h4 h5 h6 h7 w hY hZ
  by_cases h8 : x.ca = y.ca
  rotate_left
  · rw [decide_eq_false fun e => h8 (by rw [e])]
    exact rs_8 x y Y Z c d hx hy hl hm hn h0 h1 h2 h3 h4 h5 h6 h7 h8 w hY hZ
  have e : decide (x = y) = decide (x.af = y.af) := by
    rw [Bool.eq_iff_iff, decide_eq_true_eq, decide_eq_true_eq, jv_eq]
    simp only [h0, h1, h2, h3, h4, h5, h6, h7, h8, true_and]
  rw [e]
  exact rs_all x y Y Z c d hx hy hl hm hn h0 h1 h2 h3 h4 h5 h6 h7 h8 w hY hZ
set_option maxRecDepth 100000 in
set_option maxHeartbeats 8000000 in
theorem rSame (X Y : Option Addr) (c d : Nat) (l m : List JV) (hl : l.length ≤ 1000) (hm : m.length ≤ 1000) (hla : ∀ j ∈ l, WWf j.x ∧ j.af.length ≤ 1000) (hma : ∀ j ∈ m, WWf j.x ∧ j.af.length ≤ 1000) (w : World) (hX : JobsAt w X l) (hY : JobsAt w Y m) :
    Calls Tryz.prog 11 #[.slice X l.length c, .slice Y m.length d] w fun e w' => e = .returned (.bool (decide (l = m))) ∧ Below w.heap.size w w' := by
  obtain ⟨V, hV⟩ : ∃ V, V = decide (l = m) := ⟨_, rfl⟩
  rw [← hV]
  have HV := Lib.hid hV
  have HX := Lib.hid hX
  have HY := Lib.hid hY
  have HA := Lib.hid (And.intro hla hma)
  clear hV hX hY hla hma
  by_cases hn : l.length = m.length
  · have hn' : ((l.length : Int) != (m.length : Int)) = false := by simp [hn]
    have HN := Lib.hid hn
    clear hn
    go_enter Tryz.func11, Tryz.ntmps11
    go_wp2_with fail
    clear hn'
    go_loopw [5] (fun i wr => ∃ k : Nat, k ≤ l.length ∧ i = .int .i64 k ∧ Hid (∀ (j : Nat) (x y : JV), j < k → l[j]? = some x → m[j]? = some y → x = y) ∧ Hid (Below w.heap.size w wr))
      (fun i _ => l.length - (intOf i).toNat)
    case atStart => exact ⟨0, Nat.zero_le _, rfl, (fun j x y h => by omega), Below.refl _ _⟩
    case round =>
      obtain ⟨k, hk, rfl, hP, hB⟩ := hrel
      by_cases hlt : k < l.length
      · have hg : l[k]? = some l[k] := List.getElem?_eq_getElem hlt
        generalize l[k] = x at hg
        have hkm : k < m.length := by have := HN.out; omega
        have hg2 : m[k]? = some m[k] := List.getElem?_eq_getElem hkm
        generalize m[k] = y at hg2
        have hki : (k : Int) < (l.length : Int) := by omega
        have hki2 : (k : Int) < (m.length : Int) := by omega
        have hki0 : (0 : Int) ≤ (k : Int) := by omega
        obtain ⟨b, o, Yx, cx, rfl, hb, hJ, hI⟩ := HX.out.up hB.out k x hg
        obtain ⟨b', o', Yy, cy, rfl, hb', hJ', hI'⟩ := HY.out.up hB.out k y hg2
        have HJX := Lib.hid hJ.range
        have HJY := Lib.hid hJ'.range
        have HI := Lib.hid (And.intro hI hI')
        have HG := Lib.hid (And.intro hg hg2)
        have hxo := HA.out.1 x (List.mem_of_getElem? hg)
        have hyo := HA.out.2 y (List.mem_of_getElem? hg2)
        have HS := Lib.hid (fun w hY hZ => rsameOne x y Yx Yy cx cy hxo.1 hyo.1 hxo.2 hyo.2 w hY hZ)
        unfold JV.arr at HS
        clear hg hg2 hI hI' hxo hyo hJ hJ'
        go_wp2_with fail
        by_cases he : x = y
        · have he' : decide (x = y) = true := decide_eq_true he
          have HE := Lib.hid he
          rw [he'] at HS
          clear he he'
          refine wp_region_quiet_below (by kernel_rfl) (by kernel_rfl) ?_
          repeat (first | (refine quiet_load_mid (by rfl) 33 _ rfl _ _ rfl _ HJX.out _ Tryz.underlying33 rfl (by kernel_rfl) ?_; simp only [Act.put, List.setIfInBounds_toArray, List.set_cons_zero, List.set_cons_succ]) | (refine quiet_load_mid (by rfl) 33 _ rfl _ _ rfl _ HJY.out _ Tryz.underlying33 rfl (by kernel_rfl) ?_; simp only [Act.put, List.setIfInBounds_toArray, List.set_cons_zero, List.set_cons_succ]) | go_big_quiet_step (first | fail | exact Calls.regrown_of (HS.out _ (HI.out.1.up (below_regrown _ _ _)) (HI.out.2.up (below_regrown _ _ _)))))
          refine wpQuiet_nil ?_
          intro _ hw'
          obtain ⟨⟨dq, osq⟩, hw''⟩ := hw'
          subst hw''
          have hBq := below_regrown wr dq osq
          generalize grow (redrawn wr dq) osq = w2 at *
          have HB2 := Lib.hid (below_up hB.out hBq)
          clear hBq HS HJX HJY
          go_wp2_with fail
          go_roundw
          case rel => exact ⟨k + 1, by omega, by go_num, (fun j u v hj hu hv => by
              rcases Nat.lt_or_ge j k with h | h
              · exact hP.out j u v h hu hv
              · obtain rfl : j = k := by omega
                rw [HG.out.1] at hu; rw [HG.out.2] at hv; cases hu; cases hv; exact HE.out), HB2.out⟩
          case measure => simp [intOf]; omega
        · have he' : decide (x = y) = false := decide_eq_false he
          have ev : V = false := by rw [HV.out]; exact decide_eq_false (list_ne HG.out.1 HG.out.2 he)
          have EV := Lib.hid ev
          rw [he'] at HS
          clear he ev he'
          refine wp_region_quiet_below (by kernel_rfl) (by kernel_rfl) ?_
          repeat (first | (refine quiet_load_mid (by rfl) 33 _ rfl _ _ rfl _ HJX.out _ Tryz.underlying33 rfl (by kernel_rfl) ?_; simp only [Act.put, List.setIfInBounds_toArray, List.set_cons_zero, List.set_cons_succ]) | (refine quiet_load_mid (by rfl) 33 _ rfl _ _ rfl _ HJY.out _ Tryz.underlying33 rfl (by kernel_rfl) ?_; simp only [Act.put, List.setIfInBounds_toArray, List.set_cons_zero, List.set_cons_succ]) | go_big_quiet_step (first | fail | exact Calls.regrown_of (HS.out _ (HI.out.1.up (below_regrown _ _ _)) (HI.out.2.up (below_regrown _ _ _)))))
          refine wpQuiet_nil ?_
          intro _ hw'
          obtain ⟨⟨dq, osq⟩, hw''⟩ := hw'
          subst hw''
          have hBq := below_regrown wr dq osq
          generalize grow (redrawn wr dq) osq = w2 at *
          have HB2 := Lib.hid (below_up hB.out hBq)
          clear hBq HS HJX HJY
          go_wp2_with fail
          go_ret
          rw [EV.out]
          exact ⟨rfl, HB2.out⟩
      · obtain rfl : k = l.length := by omega
        have ev : V = true := by rw [HV.out]; exact decide_eq_true (list_eq HN.out hP.out)
        have EV := Lib.hid ev
        clear ev
        go_wp2_with fail
        go_ret
        rw [EV.out]
        exact ⟨rfl, hB.out⟩
  · have hn' : ((l.length : Int) != (m.length : Int)) = true := by simp; omega
    have ev : V = false := by rw [HV.out]; exact decide_eq_false fun e => hn (by rw [e])
    have EV := Lib.hid ev
    clear hn ev
    go_enter Tryz.func11, Tryz.ntmps11
    go_wp2_with fail
    go_ret
    rw [EV.out]
    exact ⟨rfl, Below.refl _ _⟩
/-- Jobs are more than statements go through. -/
def greatB (l : List JV) : Bool := (l.take 100).any (fun j => decide (100 < j.af.length)) || decide (100 < l.length)
theorem great_not {l : List JV} (h : greatB l = false) : l.length ≤ 100 ∧ ∀ j ∈ l, j.af.length ≤ 100 := by
  unfold greatB at h
  rw [Bool.or_eq_false_iff] at h
  have h2 : l.length ≤ 100 := by simpa using h.2
  refine ⟨h2, fun j hj => ?_⟩
  rw [List.take_of_length_le h2, List.any_eq_false] at h
  simpa using h.1 j hj
theorem great_any (X : Option Addr) (cap : Nat) (l : List JV) (hl : l.length ≤ 4611686018427387904) (hla : ∀ j ∈ l, j.af.length ≤ 4611686018427387904) (w : World) (hX : JobsAt w X l) :
    Calls Tryz.prog 4 #[.slice X l.length cap] w fun e w' => e = .returned (.bool (greatB l)) ∧ Below w.heap.size w w' := by
  obtain ⟨V, hV⟩ : ∃ V, V = greatB l := ⟨_, rfl⟩
  rw [← hV]
  have HV := Lib.hid hV
  have HX := Lib.hid hX
  have HLA := Lib.hid hla
  clear hV hX hla
  have hfin : (∀ (i : Nat) (x : JV), i < 100 → l[i]? = some x → x.af.length ≤ 100) → V = decide (100 < l.length) := fun hP => by
    rw [HV.out]
    unfold greatB
    rw [show (l.take 100).any (fun j => decide (100 < j.af.length)) = false from by
      rw [List.any_eq_false]
      intro x hx
      obtain ⟨i, hi, e⟩ := List.mem_iff_getElem.1 hx
      have hi' : i < 100 ∧ i < l.length := by simp at hi; omega
      have := hP i x hi'.1 (by rw [← e, List.getElem_take]; exact List.getElem?_eq_getElem hi'.2)
      simpa using this]
    rfl
  have HF := Lib.hid hfin
  clear hfin
  go_enter Tryz.func4, Tryz.ntmps4
  go_wp2_with fail
  go_loopw [3] (fun i wr => ∃ k : Nat, k ≤ l.length ∧ k ≤ 100 ∧ i = .int .i64 k ∧ Hid (∀ (i : Nat) (x : JV), i < k → l[i]? = some x → x.af.length ≤ 100) ∧ Hid (Below w.heap.size w wr))
    (fun i _ => l.length - (intOf i).toNat)
  case atStart => exact ⟨0, Nat.zero_le _, by omega, rfl, (fun i x h => by omega), Below.refl _ _⟩
  case round =>
    obtain ⟨k, hk, hk2, rfl, hP, hB⟩ := hrel
    by_cases hlt : k < l.length
    · have hki : (k : Int) < (l.length : Int) := by omega
      have hki0 : (0 : Int) ≤ (k : Int) := by omega
      by_cases h100 : k < 100
      · have hk3 : (k : Int) < 100 := by omega
        have hg : l[k]? = some l[k] := List.getElem?_eq_getElem hlt
        generalize l[k] = x at hg
        have haf := HLA.out x (List.mem_of_getElem? hg)
        obtain ⟨b, o, Y, c, rfl, hb, hJ, _⟩ := HX.out.up hB.out k x hg
        have y13 : wr.cell? ⟨b, o + k * 16 + 13, none⟩ = some (.slice Y x.af.length c) := hJ.2.2.2.2.2.2.2.2.2.2.2.2.2.1
        have HG := Lib.hid hg
        clear hg hJ
        by_cases hm : x.af.length ≤ 100
        · have hm' : ¬ (100 : Int) < (x.af.length : Int) := by omega
          go_wp2_with fail
          go_roundw
          case rel => exact ⟨k + 1, by omega, by omega, by go_num, (fun i z hi hz => by
              rcases Nat.lt_or_ge i k with h | h
              · exact hP.out i z h hz
              · obtain rfl : i = k := by omega
                rw [HG.out] at hz; cases hz; exact hm), hB.out⟩
          case measure => simp [intOf]; omega
        · have hm' : (100 : Int) < (x.af.length : Int) := by omega
          have ev : V = true := by
            rw [HV.out]
            unfold greatB
            rw [show (l.take 100).any (fun j => decide (100 < j.af.length)) = true from List.any_eq_true.2 ⟨x, by
              have : (l.take 100)[k]? = some x := by rw [List.getElem?_take_of_lt h100]; exact HG.out
              exact List.mem_of_getElem? this, decide_eq_true (by omega)⟩]
            rfl
          have EV := Lib.hid ev
          clear ev
          go_wp2_with fail
          go_ret
          rw [EV.out]
          exact ⟨rfl, hB.out⟩
      · have hk3 : ¬ (k : Int) < 100 := by omega
        have hl1 : (100 : Int) < (l.length : Int) := by omega
        have EV := Lib.hid (HF.out fun i x hi hx => hP.out i x (by omega) hx)
        go_wp2_with fail
        go_ret
        rw [EV.out, decide_eq_true (by omega)]
        exact ⟨rfl, hB.out⟩
    · have hki : ¬ (k : Int) < (l.length : Int) := by omega
      have hl1 : ¬ (100 : Int) < (l.length : Int) := by omega
      have EV := Lib.hid (HF.out fun i x hi hx => hP.out i x (by have := (List.getElem?_eq_some_iff.1 hx).1; omega) hx)
      go_wp2_with fail
      go_ret
      rw [EV.out, decide_eq_false (by omega)]
      exact ⟨rfl, hB.out⟩
end Go.Proofs.YtfpljpdjohmbaaaGreat.JobRSame
/-! The reference's Great, of whatever length. -/
namespace Go.Proofs.YtfpljpdjohmbaaaGreat.JobGreat
open Go.RowKit Mem PosMath PartMath TurnMath TurnWalks TurnMap JobMath JobMem JobSame JobRSame
set_option linter.unusedVariables false
set_option linter.unusedSimpArgs false

theorem great_big (X : Option Addr) (cap : Nat) (l : List JV) (hl : l.length ≤ 9223372036854775807) (hla : ∀ j ∈ l, j.af.length ≤ 9223372036854775807) (w : World) (hX : JobsAt w X l) :
    Calls Tryz.prog 4 #[.slice X l.length cap] w fun e w' => e = .returned (.bool (greatB l)) ∧ Below w.heap.size w w' := by
  obtain ⟨V, hV⟩ : ∃ V, V = greatB l := ⟨_, rfl⟩
  rw [← hV]
  have HV := Lib.hid hV
  have HX := Lib.hid hX
  have HLA := Lib.hid hla
  clear hV hX hla
  have hfin : (∀ (i : Nat) (x : JV), i < 100 → l[i]? = some x → x.af.length ≤ 100) → V = decide (100 < l.length) := fun hP => by
    rw [HV.out]
    unfold greatB
    rw [show (l.take 100).any (fun j => decide (100 < j.af.length)) = false from by
      rw [List.any_eq_false]
      intro x hx
      obtain ⟨i, hi, e⟩ := List.mem_iff_getElem.1 hx
      have hi' : i < 100 ∧ i < l.length := by simp at hi; omega
      have := hP i x hi'.1 (by rw [← e, List.getElem_take]; exact List.getElem?_eq_getElem hi'.2)
      simpa using this]
    rfl
  have HF := Lib.hid hfin
  clear hfin
  go_enter Tryz.func4, Tryz.ntmps4
  go_wp2_with fail
  go_loopw [3] (fun i wr => ∃ k : Nat, k ≤ l.length ∧ k ≤ 100 ∧ i = .int .i64 k ∧ Hid (∀ (i : Nat) (x : JV), i < k → l[i]? = some x → x.af.length ≤ 100) ∧ Hid (Below w.heap.size w wr))
    (fun i _ => l.length - (intOf i).toNat)
  case atStart => exact ⟨0, Nat.zero_le _, by omega, rfl, (fun i x h => by omega), Below.refl _ _⟩
  case round =>
    obtain ⟨k, hk, hk2, rfl, hP, hB⟩ := hrel
    by_cases hlt : k < l.length
    · have hki : (k : Int) < (l.length : Int) := by omega
      have hki0 : (0 : Int) ≤ (k : Int) := by omega
      by_cases h100 : k < 100
      · have hk3 : (k : Int) < 100 := by omega
        have hg : l[k]? = some l[k] := List.getElem?_eq_getElem hlt
        generalize l[k] = x at hg
        have haf := HLA.out x (List.mem_of_getElem? hg)
        obtain ⟨b, o, Y, c, rfl, hb, hJ, _⟩ := HX.out.up hB.out k x hg
        have y13 : wr.cell? ⟨b, o + k * 16 + 13, none⟩ = some (.slice Y x.af.length c) := hJ.2.2.2.2.2.2.2.2.2.2.2.2.2.1
        have HG := Lib.hid hg
        clear hg hJ
        by_cases hm : x.af.length ≤ 100
        · have hm' : ¬ (100 : Int) < (x.af.length : Int) := by omega
          go_wp2_with fail
          go_roundw
          case rel => exact ⟨k + 1, by omega, by omega, by go_num, (fun i z hi hz => by
              rcases Nat.lt_or_ge i k with h | h
              · exact hP.out i z h hz
              · obtain rfl : i = k := by omega
                rw [HG.out] at hz; cases hz; exact hm), hB.out⟩
          case measure => simp [intOf]; omega
        · have hm' : (100 : Int) < (x.af.length : Int) := by omega
          have ev : V = true := by
            rw [HV.out]
            unfold greatB
            rw [show (l.take 100).any (fun j => decide (100 < j.af.length)) = true from List.any_eq_true.2 ⟨x, by
              have : (l.take 100)[k]? = some x := by rw [List.getElem?_take_of_lt h100]; exact HG.out
              exact List.mem_of_getElem? this, decide_eq_true (by omega)⟩]
            rfl
          have EV := Lib.hid ev
          clear ev
          go_wp2_with fail
          go_ret
          rw [EV.out]
          exact ⟨rfl, hB.out⟩
      · have hk3 : ¬ (k : Int) < 100 := by omega
        have hl1 : (100 : Int) < (l.length : Int) := by omega
        have EV := Lib.hid (HF.out fun i x hi hx => hP.out i x (by omega) hx)
        go_wp2_with fail
        go_ret
        rw [EV.out, decide_eq_true (by omega)]
        exact ⟨rfl, hB.out⟩
    · have hki : ¬ (k : Int) < (l.length : Int) := by omega
      have hl1 : ¬ (100 : Int) < (l.length : Int) := by omega
      have EV := Lib.hid (HF.out fun i x hi hx => hP.out i x (by have := (List.getElem?_eq_some_iff.1 hx).1; omega) hx)
      go_wp2_with fail
      go_ret
      rw [EV.out, decide_eq_false (by omega)]
      exact ⟨rfl, hB.out⟩
end Go.Proofs.YtfpljpdjohmbaaaGreat.JobGreat
/-! The reference's keys, who waits, two lists of numbers. No conditions but those named. -/
namespace Go.Proofs.YtfpljpdjohmbaaaGreat.RankRef
open Go.Sort (grow)
open Go.RowKit Mem PosMath PartMath TurnMath TurnMap TurnFitsV JobMath JobCheck JobIndex JobFind JobMem JobTable JobTwin JobRSame JobRTwin JobRef2 JobRef3 JobGreat DepsMath RankMath RankKey RankSort RankOrd RankSel SetList QuietRow Lay 
set_option linter.unusedVariables false
set_option linter.unusedSimpArgs false

set_option maxRecDepth 100000 in
set_option maxHeartbeats 4000000 in
theorem rOf_any (d0 d1 d2 bo fr tr ag : Int) (K : Option Addr) (kc : Nat) (ks : List Cls) (j : JV) (Y : Option Addr) (cj : Nat) (hlk : ks.length ≤ 4611686018427387904) (h : CfgOk d0 d1 d2 bo fr tr ag ks) (h2 : checkV d0 d1 d2 ks j = 0) (w : World) (hk : ClsAt w w.heap.size K ks) :
    Calls Tryz.prog 15 #[.agg #[.int .i64 d0, .int .i64 d1, .int .i64 d2, .int .i64 bo, .int .i64 fr, .int .i64 tr, .int .i64 ag, .slice K ks.length kc], .agg #[.int .i64 j.id, .int .i64 j.us, .int .i64 j.cl, .int .i64 j.x.a, .int .i64 j.x.b, .int .i64 j.x.c, .bool j.x.p, .bool j.x.q, .bool j.x.r, .bool j.x.tn, .int .i64 j.wa, .int .i64 j.pr, .bool j.he, .slice Y j.af.length cj, .int .u8 j.st, .int .i64 j.ca]] w fun e w' => e = .returned (.int .i64 (keyV ks ag j)) ∧ Below w.heap.size w w' := by
  obtain ⟨p0, p1, r0, r1, a0, a1, c0, c1, m0, m1, l0, l1⟩ := key_small h h2
  obtain ⟨m, hm, hml, hget⟩ := cls_at l0 l1
  obtain ⟨kb, ko, hKe, hkb, y0, _⟩ := hk m _ hget
  have HKE := Lib.hid hKe
  have HKB := Lib.hid (And.intro hkb y0)
  unfold keyV
  generalize (clsOf ks j.cl).1 = P at *
  have HM := Lib.hid hm
  have hmi : (m : Int) < (ks.length : Int) := by omega
  have hmi0 : (0 : Int) ≤ (m : Int) := by omega
  have f1 : IntKind.i64.wrap (P + j.pr) = P + j.pr := IntWalk.i64_in _ (by omega)
  have f2 : IntKind.i64.wrap ((P + j.pr) * ag) = (P + j.pr) * ag := IntWalk.i64_in _ (by omega)
  have f3 : IntKind.i64.wrap ((P + j.pr) * ag - j.ca) = (P + j.pr) * ag - j.ca := IntWalk.i64_in _ (by omega)
  clear hm hk hget hkb y0 hKe h h2 p0 p1 r0 r1 a0 a1 c0 c1 m0 m1 l0 l1 hml
  go_enter Tryz.func15, Tryz.ntmps15
  go_upto_region 1 with fail
  have kc0 : Blk ((w.alloc (.cells #[.int .i64 d0, .int .i64 d1, .int .i64 d2, .int .i64 bo, .int .i64 fr, .int .i64 tr, .int .i64 ag, .slice K ks.length kc] 26)).alloc (.cells #[.int .i64 j.id, .int .i64 j.us, .int .i64 j.cl, .int .i64 j.x.a, .int .i64 j.x.b, .int .i64 j.x.c, .bool j.x.p, .bool j.x.q, .bool j.x.r, .bool j.x.tn, .int .i64 j.wa, .int .i64 j.pr, .bool j.he, .slice Y j.af.length cj, .int .u8 j.st, .int .i64 j.ca] 33)) w.heap.size 26 #[.int .i64 d0, .int .i64 d1, .int .i64 d2, .int .i64 bo, .int .i64 fr, .int .i64 tr, .int .i64 ag, .slice K ks.length kc] := (Blk.new w _ _).alloc _
  have kj0 : Blk ((w.alloc (.cells #[.int .i64 d0, .int .i64 d1, .int .i64 d2, .int .i64 bo, .int .i64 fr, .int .i64 tr, .int .i64 ag, .slice K ks.length kc] 26)).alloc (.cells #[.int .i64 j.id, .int .i64 j.us, .int .i64 j.cl, .int .i64 j.x.a, .int .i64 j.x.b, .int .i64 j.x.c, .bool j.x.p, .bool j.x.q, .bool j.x.r, .bool j.x.tn, .int .i64 j.wa, .int .i64 j.pr, .bool j.he, .slice Y j.af.length cj, .int .u8 j.st, .int .i64 j.ca] 33)) (w.heap.size + 1) 33 #[.int .i64 j.id, .int .i64 j.us, .int .i64 j.cl, .int .i64 j.x.a, .int .i64 j.x.b, .int .i64 j.x.c, .bool j.x.p, .bool j.x.q, .bool j.x.r, .bool j.x.tn, .int .i64 j.wa, .int .i64 j.pr, .bool j.he, .slice Y j.af.length cj, .int .u8 j.st, .int .i64 j.ca] := blk1 w _ _
  have hb0 : Below w.heap.size w ((w.alloc (.cells #[.int .i64 d0, .int .i64 d1, .int .i64 d2, .int .i64 bo, .int .i64 fr, .int .i64 tr, .int .i64 ag, .slice K ks.length kc] 26)).alloc (.cells #[.int .i64 j.id, .int .i64 j.us, .int .i64 j.cl, .int .i64 j.x.a, .int .i64 j.x.b, .int .i64 j.x.c, .bool j.x.p, .bool j.x.q, .bool j.x.r, .bool j.x.tn, .int .i64 j.wa, .int .i64 j.pr, .bool j.he, .slice Y j.af.length cj, .int .u8 j.st, .int .i64 j.ca] 33)) := below_alloc (below_alloc (Below.refl _ _))
  generalize ((w.alloc (.cells #[.int .i64 d0, .int .i64 d1, .int .i64 d2, .int .i64 bo, .int .i64 fr, .int .i64 tr, .int .i64 ag, .slice K ks.length kc] 26)).alloc (.cells #[.int .i64 j.id, .int .i64 j.us, .int .i64 j.cl, .int .i64 j.x.a, .int .i64 j.x.b, .int .i64 j.x.c, .bool j.x.p, .bool j.x.q, .bool j.x.r, .bool j.x.tn, .int .i64 j.wa, .int .i64 j.pr, .bool j.he, .slice Y j.af.length cj, .int .u8 j.st, .int .i64 j.ca] 33)) = w0 at *
  have HB0 := Lib.hid hb0
  have KC0 := Lib.hid kc0
  have KJ0 := Lib.hid kj0
  clear hb0
  have x7 : w0.cell? ⟨w.heap.size, 7, none⟩ = some (.slice (some ⟨kb, ko, none⟩) ks.length kc) := by rw [← HKE.out]; exact kc0.cell 7
  have x6 : w0.cell? ⟨w.heap.size, 6, none⟩ = some (.int .i64 ag) := kc0.cell 6
  have z2 : w0.cell? ⟨w.heap.size + 1, 2, none⟩ = some (.int .i64 (m : Int)) := by rw [← HM.out]; exact kj0.cell 2
  have z11 : w0.cell? ⟨w.heap.size + 1, 11, none⟩ = some (.int .i64 j.pr) := kj0.cell 11
  have z15 : w0.cell? ⟨w.heap.size + 1, 15, none⟩ = some (.int .i64 j.ca) := kj0.cell 15
  have y0 : w0.cell? ⟨kb, ko + m * 4, none⟩ = some (.int .i64 P) := (HB0.out.cell (p := ⟨kb, ko + m * 4, none⟩) HKB.out.1).trans HKB.out.2
  clear kc0 kj0
  have kq0 := cell_regrown x7
  have kq1 := cell_regrown x6
  have kq2 := cell_regrown z2
  have kq3 := cell_regrown z11
  have kq4 := cell_regrown z15
  have kq5 := cell_regrown y0
  refine wp_region_quiet_below (by kernel_rfl) (by kernel_rfl) ?_
  repeat (first | go_big_quiet_step (first | fail))
  refine wpQuiet_nil ?_
  intro _ hw'
  obtain ⟨⟨dq, osq⟩, hw''⟩ := hw'
  subst hw''
  have hBq := below_regrown w0 dq osq
  clear kq0 kq1 kq2 kq3 kq4 kq5
  generalize grow (redrawn w0 dq) osq = w1 at *
  have HB1 := Lib.hid (below_up HB0.out hBq)
  go_wp2_with fail
  go_ret
  exact ⟨rfl, HB1.out⟩

set_option maxRecDepth 100000 in
set_option maxHeartbeats 4000000 in
theorem rKeyR (d0 d1 d2 bo fr tr ag : Int) (K : Option Addr) (kc : Nat) (ks : List Cls) (j : JV) (Y : Option Addr) (cj : Nat) (hlk : ks.length ≤ 4611686018427387904) (hla : j.af.length ≤ 4611686018427387904) (w : World) (hk : ClsAt w w.heap.size K ks) (hY : IntsAt w Y j.af) :
    Calls Tryz.prog 7 #[.agg #[.int .i64 d0, .int .i64 d1, .int .i64 d2, .int .i64 bo, .int .i64 fr, .int .i64 tr, .int .i64 ag, .slice K ks.length kc], .agg #[.int .i64 j.id, .int .i64 j.us, .int .i64 j.cl, .int .i64 j.x.a, .int .i64 j.x.b, .int .i64 j.x.c, .bool j.x.p, .bool j.x.q, .bool j.x.r, .bool j.x.tn, .int .i64 j.wa, .int .i64 j.pr, .bool j.he, .slice Y j.af.length cj, .int .u8 j.st, .int .i64 j.ca]] w fun e w' => e = .returned (.tuple #[.int .i64 (if CheckV d0 d1 d2 bo fr tr ag ks j = 0 then keyV ks ag j else 0), .int .i64 (CheckV d0 d1 d2 bo fr tr ag ks j)]) ∧ Below w.heap.size w w' := by
  have HCK := Lib.hid (fun w hk hY => rCheck d0 d1 d2 bo fr tr ag K kc ks j Y cj hlk hla w hk hY)
  have HKY := Lib.hid (fun h w hk => rOf_any d0 d1 d2 bo fr tr ag K kc ks j Y cj hlk (CheckV_zero h).1 (CheckV_zero h).2 w hk)
  have HK := Lib.hid hk
  have HY := Lib.hid hY
  generalize CheckV d0 d1 d2 bo fr tr ag ks j = V at *
  generalize keyV ks ag j = KV at *
  obtain ⟨R, hR⟩ : ∃ R, R = if V = 0 then KV else 0 := ⟨_, rfl⟩
  rw [← hR]
  have HRV := Lib.hid hR
  clear hk hY hR
  go_enter Tryz.func7, Tryz.ntmps7
  go_upto_region 1 with fail
  have kc0 : Blk ((w.alloc (.cells #[.int .i64 d0, .int .i64 d1, .int .i64 d2, .int .i64 bo, .int .i64 fr, .int .i64 tr, .int .i64 ag, .slice K ks.length kc] 26)).alloc (.cells #[.int .i64 j.id, .int .i64 j.us, .int .i64 j.cl, .int .i64 j.x.a, .int .i64 j.x.b, .int .i64 j.x.c, .bool j.x.p, .bool j.x.q, .bool j.x.r, .bool j.x.tn, .int .i64 j.wa, .int .i64 j.pr, .bool j.he, .slice Y j.af.length cj, .int .u8 j.st, .int .i64 j.ca] 33)) w.heap.size 26 #[.int .i64 d0, .int .i64 d1, .int .i64 d2, .int .i64 bo, .int .i64 fr, .int .i64 tr, .int .i64 ag, .slice K ks.length kc] := (Blk.new w _ _).alloc _
  have kj0 : Blk ((w.alloc (.cells #[.int .i64 d0, .int .i64 d1, .int .i64 d2, .int .i64 bo, .int .i64 fr, .int .i64 tr, .int .i64 ag, .slice K ks.length kc] 26)).alloc (.cells #[.int .i64 j.id, .int .i64 j.us, .int .i64 j.cl, .int .i64 j.x.a, .int .i64 j.x.b, .int .i64 j.x.c, .bool j.x.p, .bool j.x.q, .bool j.x.r, .bool j.x.tn, .int .i64 j.wa, .int .i64 j.pr, .bool j.he, .slice Y j.af.length cj, .int .u8 j.st, .int .i64 j.ca] 33)) (w.heap.size + 1) 33 #[.int .i64 j.id, .int .i64 j.us, .int .i64 j.cl, .int .i64 j.x.a, .int .i64 j.x.b, .int .i64 j.x.c, .bool j.x.p, .bool j.x.q, .bool j.x.r, .bool j.x.tn, .int .i64 j.wa, .int .i64 j.pr, .bool j.he, .slice Y j.af.length cj, .int .u8 j.st, .int .i64 j.ca] := blk1 w _ _
  have hb0 : Below w.heap.size w ((w.alloc (.cells #[.int .i64 d0, .int .i64 d1, .int .i64 d2, .int .i64 bo, .int .i64 fr, .int .i64 tr, .int .i64 ag, .slice K ks.length kc] 26)).alloc (.cells #[.int .i64 j.id, .int .i64 j.us, .int .i64 j.cl, .int .i64 j.x.a, .int .i64 j.x.b, .int .i64 j.x.c, .bool j.x.p, .bool j.x.q, .bool j.x.r, .bool j.x.tn, .int .i64 j.wa, .int .i64 j.pr, .bool j.he, .slice Y j.af.length cj, .int .u8 j.st, .int .i64 j.ca] 33)) := below_alloc (below_alloc (Below.refl _ _))
  generalize ((w.alloc (.cells #[.int .i64 d0, .int .i64 d1, .int .i64 d2, .int .i64 bo, .int .i64 fr, .int .i64 tr, .int .i64 ag, .slice K ks.length kc] 26)).alloc (.cells #[.int .i64 j.id, .int .i64 j.us, .int .i64 j.cl, .int .i64 j.x.a, .int .i64 j.x.b, .int .i64 j.x.c, .bool j.x.p, .bool j.x.q, .bool j.x.r, .bool j.x.tn, .int .i64 j.wa, .int .i64 j.pr, .bool j.he, .slice Y j.af.length cj, .int .u8 j.st, .int .i64 j.ca] 33)) = w0 at *
  have HB0 := Lib.hid hb0
  have KC0 := Lib.hid kc0
  have KJ0 := Lib.hid kj0
  clear hb0
  clear kc0 kj0
  go_wp2_with (first | (refine wpList_load_row rfl 26 _ rfl _ rfl 26 #[.int .i64 d0, .int .i64 d1, .int .i64 d2, .int .i64 bo, .int .i64 fr, .int .i64 tr, .int .i64 ag, .slice K ks.length kc] (0, 0) _ KC0.out Tryz.underlying26 rfl (by kernel_rfl) ?_) | (refine wpList_load_row rfl 33 _ rfl _ rfl 33 #[.int .i64 j.id, .int .i64 j.us, .int .i64 j.cl, .int .i64 j.x.a, .int .i64 j.x.b, .int .i64 j.x.c, .bool j.x.p, .bool j.x.q, .bool j.x.r, .bool j.x.tn, .int .i64 j.wa, .int .i64 j.pr, .bool j.he, .slice Y j.af.length cj, .int .u8 j.st, .int .i64 j.ca] (0, 0) _ KJ0.out Tryz.underlying33 rfl (by kernel_rfl) ?_))
  refine (HCK.out _ (HK.out.up HB0.out) (HY.out.up HB0.out)).mono ?_
  rintro e w1 ⟨rfl, hB1⟩
  have HB1 := Lib.hid (below_up HB0.out hB1)
  have KC1 := Lib.hid (KC0.out.below hB1 KC0.out.lt)
  have KJ1 := Lib.hid (KJ0.out.below hB1 KJ0.out.lt)
  clear hB1 KC0 KJ0 HB0 HCK
  by_cases hv : V = 0
  · have ev : R = KV := by rw [HRV.out, if_pos hv]
    have EV := Lib.hid ev
    clear ev HRV
    subst hv
    go_wp2_with (first | (refine wpList_load_row rfl 26 _ rfl _ rfl 26 #[.int .i64 d0, .int .i64 d1, .int .i64 d2, .int .i64 bo, .int .i64 fr, .int .i64 tr, .int .i64 ag, .slice K ks.length kc] (0, 0) _ KC1.out Tryz.underlying26 rfl (by kernel_rfl) ?_) | (refine wpList_load_row rfl 33 _ rfl _ rfl 33 #[.int .i64 j.id, .int .i64 j.us, .int .i64 j.cl, .int .i64 j.x.a, .int .i64 j.x.b, .int .i64 j.x.c, .bool j.x.p, .bool j.x.q, .bool j.x.r, .bool j.x.tn, .int .i64 j.wa, .int .i64 j.pr, .bool j.he, .slice Y j.af.length cj, .int .u8 j.st, .int .i64 j.ca] (0, 0) _ KJ1.out Tryz.underlying33 rfl (by kernel_rfl) ?_))
    refine (HKY.out (by first | exact trivial | rfl) _ (HK.out.up HB1.out)).mono ?_
    rintro e w2 ⟨rfl, hB2⟩
    have HB2 := Lib.hid (below_up HB1.out hB2)
    clear hB2
    go_wp2_with fail
    go_ret2
    rw [EV.out]
    exact ⟨rfl, HB2.out⟩
  · have ev : R = 0 := by rw [HRV.out, if_neg hv]
    have EV := Lib.hid ev
    clear ev HRV
    have hv' : (V != 0) = true := by simpa using hv
    go_wp2_with fail
    go_ret2
    rw [EV.out]
    exact ⟨rfl, HB1.out⟩

set_option maxRecDepth 100000 in
set_option maxHeartbeats 8000000 in
theorem rwaits (j : JV) (Y : Option Addr) (cj : Nat) (w : World) :
    Calls Tryz.prog 35 #[.agg #[.int .i64 j.id, .int .i64 j.us, .int .i64 j.cl, .int .i64 j.x.a, .int .i64 j.x.b, .int .i64 j.x.c, .bool j.x.p, .bool j.x.q, .bool j.x.r, .bool j.x.tn, .int .i64 j.wa, .int .i64 j.pr, .bool j.he, .slice Y j.af.length cj, .int .u8 j.st, .int .i64 j.ca]] w fun e w' => e = .returned (.bool (waitsB j)) ∧ Below w.heap.size w w' := by
  go_enter Tryz.func35, Tryz.ntmps35
  go_upto_region 1 with fail
  have K0 := Blk.new w 33 #[.int .i64 j.id, .int .i64 j.us, .int .i64 j.cl, .int .i64 j.x.a, .int .i64 j.x.b, .int .i64 j.x.c, .bool j.x.p, .bool j.x.q, .bool j.x.r, .bool j.x.tn, .int .i64 j.wa, .int .i64 j.pr, .bool j.he, .slice Y j.af.length cj, .int .u8 j.st, .int .i64 j.ca]
  have HB := Lib.hid (below_alloc (o := .cells #[.int .i64 j.id, .int .i64 j.us, .int .i64 j.cl, .int .i64 j.x.a, .int .i64 j.x.b, .int .i64 j.x.c, .bool j.x.p, .bool j.x.q, .bool j.x.r, .bool j.x.tn, .int .i64 j.wa, .int .i64 j.pr, .bool j.he, .slice Y j.af.length cj, .int .u8 j.st, .int .i64 j.ca] 33) (Below.refl w.heap.size w))
  generalize w.alloc (.cells #[.int .i64 j.id, .int .i64 j.us, .int .i64 j.cl, .int .i64 j.x.a, .int .i64 j.x.b, .int .i64 j.x.c, .bool j.x.p, .bool j.x.q, .bool j.x.r, .bool j.x.tn, .int .i64 j.wa, .int .i64 j.pr, .bool j.he, .slice Y j.af.length cj, .int .u8 j.st, .int .i64 j.ca] 33) = w0 at *
  have x14 : w0.cell? ⟨w.heap.size, 14, none⟩ = some (.int .u8 j.st) := K0.cell 14
  have x12 : w0.cell? ⟨w.heap.size, 12, none⟩ = some (.bool j.he) := K0.cell 12
  clear K0
  by_cases hs : j.st = 1
  · have hW := Lib.hid (show waitsB j = !j.he by unfold waitsB; rw [decide_eq_true hs, Bool.true_and])
    have hq : (j.st == 1) = true := by rw [beq_iff_eq]; exact hs
    clear hs
    go_wp2_with fail
    go_ret
    rw [hW.out]
    exact ⟨rfl, HB.out⟩
  · have hW := Lib.hid (show waitsB j = false by unfold waitsB; rw [decide_eq_false hs, Bool.false_and])
    have hq : (j.st == 1) = false := by rw [beq_eq_false_iff_ne]; exact hs
    clear hs
    go_wp2_with fail
    go_ret
    rw [hW.out]
    exact ⟨rfl, HB.out⟩
theorem list_ne' {l m : List Int} {k : Nat} {x y : Int} (h1 : l[k]? = some x) (h2 : m[k]? = some y) (h : x ≠ y) : ¬ l = m := by
  rintro rfl; rw [h1] at h2; cases h2; exact h rfl
theorem list_eq' {l m : List Int} (hn : l.length = m.length) (h : ∀ (j : Nat) (x y : Int), j < l.length → l[j]? = some x → m[j]? = some y → x = y) : l = m := by
  apply List.ext_getElem hn
  intro i h1 h2
  exact h i _ _ h1 (List.getElem?_eq_getElem h1) (List.getElem?_eq_getElem h2)
set_option maxRecDepth 100000 in
set_option maxHeartbeats 4000000 in
theorem rInts (X Y : Option Addr) (c d : Nat) (l m : List Int) (hl : l.length ≤ 9223372036854775807) (hm : m.length ≤ 9223372036854775807) (w : World) (hX : IntsAt w X l) (hY : IntsAt w Y m) :
    Calls Tryz.prog 10 #[.slice X l.length c, .slice Y m.length d] w fun e w' => e = .returned (.bool (decide (l = m))) ∧ Below w.heap.size w w' := by
  obtain ⟨V, hV⟩ : ∃ V, V = decide (l = m) := ⟨_, rfl⟩
  rw [← hV]
  have HV := Lib.hid hV
  have HX := Lib.hid hX
  have HY := Lib.hid hY
  clear hV hX hY
  by_cases hn : l.length = m.length
  · have hn' : ((l.length : Int) != (m.length : Int)) = false := by simp [hn]
    have HN := Lib.hid hn
    have hle : (l.length : Int) ≤ (m.length : Int) := by omega
    clear hn
    go_enter Tryz.func10, Tryz.ntmps10
    go_wp2_with fail
    go_loopw [5] (fun i wr => ∃ k : Nat, k ≤ l.length ∧ i = .int .i64 k ∧ Hid (∀ (j : Nat) (x y : Int), j < k → l[j]? = some x → m[j]? = some y → x = y) ∧ Hid (Below w.heap.size w wr))
      (fun i _ => l.length - (intOf i).toNat)
    case atStart => exact ⟨0, Nat.zero_le _, rfl, (fun j x y h => by omega), Below.refl _ _⟩
    case round =>
      obtain ⟨k, hk, rfl, hP, hB⟩ := hrel
      by_cases hlt : k < l.length
      · have hg : l[k]? = some l[k] := List.getElem?_eq_getElem hlt
        generalize l[k] = x at hg
        have hkm : k < m.length := by have := HN.out; omega
        have hg2 : m[k]? = some m[k] := List.getElem?_eq_getElem hkm
        generalize m[k] = y at hg2
        have hki : (k : Int) < (l.length : Int) := by omega
        have hki2 : (k : Int) < (m.length : Int) := by omega
        have hki0 : (0 : Int) ≤ (k : Int) := by omega
        obtain ⟨b, o, rfl, hb, y0⟩ := IntsAt.up HX.out hB.out k x hg
        obtain ⟨b', o', rfl, hb', z0⟩ := IntsAt.up HY.out hB.out k y hg2
        have HG := Lib.hid (And.intro hg hg2)
        clear hg hg2
        by_cases he : x = y
        · have he' : (x != y) = false := by simp [he]
          have HE := Lib.hid he
          clear he
          go_wp2_with fail
          go_quiet (fail)
          go_wp2_with fail
          go_roundw
          case rel => exact ⟨k + 1, by omega, by go_num, (fun j u v hj hu hv => by
              rcases Nat.lt_or_ge j k with h | h
              · exact hP.out j u v h hu hv
              · obtain rfl : j = k := by omega
                rw [HG.out.1] at hu; rw [HG.out.2] at hv; cases hu; cases hv; exact HE.out), Mem.below_drewN hB.out _⟩
          case measure => simp [intOf]; omega
        · have he' : (x != y) = true := by simp [he]
          have ev : V = false := by rw [HV.out]; exact decide_eq_false (list_ne' HG.out.1 HG.out.2 he)
          have EV := Lib.hid ev
          clear he ev
          go_wp2_with fail
          go_quiet (fail)
          go_wp2_with fail
          go_ret
          rw [EV.out]
          exact ⟨rfl, Mem.below_drewN hB.out _⟩
      · obtain rfl : k = l.length := by omega
        have ev : V = true := by rw [HV.out]; exact decide_eq_true (list_eq' HN.out hP.out)
        have EV := Lib.hid ev
        clear ev
        go_wp2_with fail
        go_ret
        rw [EV.out]
        exact ⟨rfl, hB.out⟩
  · have hn' : ((l.length : Int) != (m.length : Int)) = true := by simp; omega
    have ev : V = false := by rw [HV.out]; exact decide_eq_false fun e => hn (by rw [e])
    have EV := Lib.hid ev
    clear hn ev
    go_enter Tryz.func10, Tryz.ntmps10
    go_wp2_with fail
    go_ret
    rw [EV.out]
    exact ⟨rfl, Below.refl _ _⟩

end Go.Proofs.YtfpljpdjohmbaaaGreat.RankRef
/-! The reference's order of a table that may be. No conditions but those named. -/
namespace Go.Proofs.YtfpljpdjohmbaaaGreat.RankRefO
open Go.Sort (grow)
open Go.RowKit Mem PosMath PartMath TurnMath TurnMap TurnFitsV JobMath JobCheck JobIndex JobFind JobMem JobTable JobTwin JobRSame JobRTwin JobRef2 JobRef3 JobGreat DepsMath RankMath RankKey RankSort RankOrd RankSel SetList QuietRow Lay RankRef
set_option linter.unusedVariables false
set_option linter.unusedSimpArgs false

theorem bool_info : (Tryz.prog.info? 4).map (fun i => (i.zero, i.size, i.bytes)) = some (some (.bool false), 1, 1) := by kernel_rfl
theorem int_info2 : (Tryz.prog.info? 3).map (fun i => (i.zero, i.size, i.bytes)) = some (some (.int .i64 0), 1, 8) := by kernel_rfl
/-- Truths in a block. -/
def UsedAt (w : World) (g : Nat) (l : List Bool) : Prop := Blk w g 4 (l.map Value.bool).toArray
theorem made_used {w' : World} {base n : Nat} {g : Nat} (h : w'.ownsRow base 4 1 (.slice (some ⟨g, 0, none⟩) n n) n (madeCells (Value.bool false).cells (n * 1)).toList) : UsedAt w' g (List.replicate n false) := by
  rcases h.2 with ⟨e, _⟩ | ⟨g', cap, cur, e, _, h1, _, _, h2, h3⟩
  · cases e
  · injection e with e1 e2 e3
    injection e1 with e1
    injection e1 with e1
    subst e1 e3
    have e4 : cur.toList = (madeCells (Value.bool false).cells (n * 1)).toList := by
      rw [← h3]; exact (List.take_of_length_le (by rw [Array.length_toList, h2]; exact Nat.le_refl _)).symm
    have e5 : (madeCells (Value.bool false).cells (n * 1)).toList = (List.replicate n false).map Value.bool := by
      have hl : (madeCells (Value.bool false).cells (n * 1)).toList.length = n := by have := h.1; simpa using this
      apply List.ext_getElem
      · rw [hl]; simp
      · intro i h1 h2
        simp [madeCells, Value.cells, Nat.mod_one]
    unfold UsedAt Blk
    rw [h1]
    congr 1
    rw [← e5, ← e4]
theorem UsedAt.below {w w' : World} {g : Nat} {l : List Bool} (h : UsedAt w g l) (hB : Below w.heap.size w w') : UsedAt w' g l := Blk.below h hB (Blk.lt h)
theorem UsedAt.cell {w : World} {g : Nat} {l : List Bool} {k : Nat} {b : Bool} (h : UsedAt w g l) (hk : l[k]? = some b) : w.cell? ⟨g, k, none⟩ = some (.bool b) := (Blk.cell h k).trans (by simp [hk])
theorem UsedAt.set {w : World} {g : Nat} {l m : List Bool} (h : UsedAt w g l) (n : Nat) (b : Bool) (hm : l.set n b = m) : UsedAt (w.setCell ⟨g, n, none⟩ (.bool b)) g m := by
  have := Blk.set_ h n (.bool b)
  unfold UsedAt
  rw [← hm, List.map_set]
  simpa using this
def lenV : Value → Nat
  | .slice _ n _ => n
  | _ => 0
theorem ints_of_own {w : World} {B n : Nat} {V : Option Addr} {cv : Nat} {l : List Int} (h : w.ownsRow B 3 1 (.slice V n cv) n (l.map (Value.int .i64))) : IntsAt w V l := fun i v hi => by
  have hl : i < l.length := (List.getElem?_eq_some_iff.1 hi).1
  have hn : 0 < n := by have := h.1; simp at this; omega
  obtain ⟨b, o, e, hb, hc⟩ := (Reads.of_own h).flat hn
  exact ⟨b, o, e, hb, hc i _ (by rw [List.getElem?_map, hi]; rfl)⟩
theorem below_set2 {w W : World} {B : Nat} (h : Below B w W) (g i : Nat) (u : Value) (hg : B ≤ g) : Below B w (W.setCell ⟨g, i, none⟩ u) := h.setCell (p := ⟨g, i, none⟩) hg u
theorem below_alloc3 {B : Nat} {a w : World} (hB : B ≤ w.heap.size) (h : Below B a w) (o : Obj) : Below B a (w.alloc o) := h.alloc hB o
theorem own_form3 {w : World} {F n k : Nat} {e : TypeId} {v : Value} {xs : List Value} (h : w.ownsRow F e k v n xs) : ∃ V c, v = .slice V n c := by
  rcases h.2 with ⟨rfl, e0⟩ | ⟨g, cap, cur, rfl, _⟩
  · exact ⟨none, 0, by rw [e0]⟩
  · exact ⟨_, cap, rfl⟩
theorem reads_box2 (w : World) (t : TypeId) (l : List Value) (h1 : 0 < l.length) : Reads (w.alloc (.cells l.toArray t)) (w.heap.size + 1) 1 (some ⟨w.heap.size, 0, none⟩) l.length l :=
  ⟨by simp, fun _ => ⟨_, rfl, by simp, fun j q hq => by
    rw [add_flat, Nat.zero_add]
    refine ((Blk.new w t l.toArray).cell j).trans ?_
    simpa using hq⟩⟩
theorem take_snoc2 {α : Type} {l : List α} {k : Nat} {x : α} (h : l[k]? = some x) : l.take (k + 1) = l.take k ++ [x] := by rw [List.take_add_one, h]; rfl
set_option maxRecDepth 100000 in
set_option maxHeartbeats 20000000 in
theorem rOrdered (d0 d1 d2 bo fr tr ag : Int) (K : Option Addr) (kc : Nat) (ks : List Cls) (hlk : ks.length ≤ 4611686018427387904) (X : Option Addr) (cap : Nat) (l : List JV) (hl : l.length ≤ 1000) (hC : CfgOk d0 d1 d2 bo fr tr ag ks) (hck : ∀ j ∈ l, checkV d0 d1 d2 ks j = 0) (hu : Up l) (w : World) (hk : ClsAt w w.heap.size K ks) (hX : JobsAt w X l) :
    Calls Tryz.prog 22 #[.agg #[.int .i64 d0, .int .i64 d1, .int .i64 d2, .int .i64 bo, .int .i64 fr, .int .i64 tr, .int .i64 ag, .slice K ks.length kc], .slice X l.length cap] w fun e w' => ∃ X' c', e = .returned (.slice X' (orderV ks ag l).length c') ∧ IntsAt w' X' (orderV ks ag l) ∧ Below w.heap.size w w' := by
  have HOF := Lib.hid (fun (x : JV) (Y : Option Addr) (cj : Nat) (h : checkV d0 d1 d2 ks x = 0) (w : World) (hk : ClsAt w w.heap.size K ks) => rOf_any d0 d1 d2 bo fr tr ag K kc ks x Y cj hlk hC h w hk)
  have HCK := Lib.hid hck
  have HUP := Lib.hid hu
  obtain ⟨N, hN⟩ : ∃ N, N = (orderV ks ag l).length := ⟨_, rfl⟩
  have hNl : N ≤ 1000 := by rw [hN, order_len]; exact Nat.le_trans (List.length_filter_le _ _) hl
  have HN := Lib.hid hN
  clear hC hck hu hN
  go_enter Tryz.func22, Tryz.ntmps22
  go_upto_region 1 with fail
  have kc0 : Blk (w.alloc (.cells #[.int .i64 d0, .int .i64 d1, .int .i64 d2, .int .i64 bo, .int .i64 fr, .int .i64 tr, .int .i64 ag, .slice K ks.length kc] 26)) w.heap.size 26 #[.int .i64 d0, .int .i64 d1, .int .i64 d2, .int .i64 bo, .int .i64 fr, .int .i64 tr, .int .i64 ag, .slice K ks.length kc] := Blk.new w _ _
  have hb0 : Below w.heap.size w (w.alloc (.cells #[.int .i64 d0, .int .i64 d1, .int .i64 d2, .int .i64 bo, .int .i64 fr, .int .i64 tr, .int .i64 ag, .slice K ks.length kc] 26)) := below_alloc (Below.refl _ _)
  generalize w.alloc (.cells #[.int .i64 d0, .int .i64 d1, .int .i64 d2, .int .i64 bo, .int .i64 fr, .int .i64 tr, .int .i64 ag, .slice K ks.length kc] 26) = W0 at *
  obtain ⟨i0, hi0, hz0, hz1, hz2⟩ := info_parts bool_info
  obtain ⟨w1, hr1, hown1, hg1⟩ := run_make_full W0 W0.heap.size 71 4 i0 (.bool false) 1 Tryz.underlying71 hi0 hz0 hz1 .i64 .i64 l.length (by rw [hz2]; omega) (by simp only [maxLen]; omega) (Nat.le_refl _)
  have hB1 : Below W0.heap.size W0 w1 := (Below.refl _ W0).grown hg1 (Nat.le_refl _) (by intro k hk; cases hk)
  have HU0 := Lib.hid (show UsedAt w1 W0.heap.size (usedL l []) by rw [used_nil]; exact made_used hown1)
  have HB0 := Lib.hid hb0
  have KC0 := Lib.hid kc0
  have HK := Lib.hid (hk.up hb0)
  have HX := Lib.hid (hX.up hb0)
  have HB1 := Lib.hid hB1
  clear hi0 hz0 hz1 hz2 hown1 hg1 hB1 hb0 kc0 hk hX
  have hr1 : (Instr.makeSlice 71 (.int .i64 (l.length : Int)) (.int .i64 (l.length : Int))).run Tryz.prog W0 = .ok (.slice (some ⟨W0.heap.size, 0, none⟩) l.length l.length) w1 := hr1
  go_wp2_with fail
  obtain ⟨gU, hgU⟩ : ∃ n, n = W0.heap.size := ⟨_, rfl⟩
  rw [← hgU] at HU0
  rw [← hgU]
  have HGU := Lib.hid hgU
  clear hgU hr1
  go_loopw [5, 7, 8] (fun out _ _ wo => ∃ (m : Nat) (V : Option Addr) (cv : Nat), m ≤ N ∧ out = .slice V m cv ∧ Hid (wo.ownsRow W0.heap.size 3 1 (.slice V m cv) m (((orderV ks ag l).take m).map (Value.int .i64))) ∧ Hid (UsedAt wo gU (usedL l ((orderV ks ag l).take m))) ∧ Hid (Below W0.heap.size W0 wo))
    (fun out _ _ _ => N + 1 - lenV out)
  case atStart => exact ⟨0, none, 0, Nat.zero_le _, rfl, World.ownsRow_nil _ _ _ _, HU0.out, HB1.out⟩
  case round =>
    obtain ⟨m, V, cv, hm, rfl, HO, HU, HBo⟩ := hrel
    clear HU0 HB1
    obtain ⟨os, hos⟩ : ∃ os, os = (orderV ks ag l).take m := ⟨_, rfl⟩
    rw [← hos] at HO HU
    have HOS := Lib.hid hos
    clear hos
    go_wp2_with fail
    obtain ⟨w3, hw3⟩ : ∃ W, W = wr := ⟨wr, rfl⟩
    subst hw3
    go_loopw [7, 8] (fun at_ i wr => ∃ (k : Nat) (a : Int), k ≤ l.length ∧ i = .int .i64 k ∧ at_ = .int .i64 a ∧ Hid (BestOf ks ag l os k a) ∧ Hid (Below w3.heap.size w3 wr))
      (fun at_ i _ => l.length - (intOf i).toNat)
    case atStart => exact ⟨0, -1, Nat.zero_le _, rfl, rfl, BestOf.zero _ _ _ _, Below.refl _ _⟩
    case round =>
      obtain ⟨k, a, hk, rfl, rfl, HBst, HBi⟩ := hrel
      have HBw := Lib.hid (HBo.out.trans (HBi.out.mono HBo.out.size))
      by_cases hlt : k < l.length
      · have hg : l[k]? = some l[k] := List.getElem?_eq_getElem hlt
        generalize l[k] = x at hg
        have HG := Lib.hid hg
        have HU2 := Lib.hid (HU.out.below HBi.out)
        have KCr := Lib.hid (KC0.out.below HBw.out KC0.out.lt)
        obtain ⟨b, o, Yx, cx, e, hb, hJ, hY⟩ := (HX.out.up HBw.out) k x hg
        have HE := Lib.hid e
        have HJX := Lib.hid hJ.range
        have HCX := Lib.hid (HCK.out x (List.mem_of_getElem? hg))
        have xu : wr.cell? ⟨gU, k, none⟩ = some (.bool (os.contains x.id)) := HU2.out.cell (used_at HG.out)
        have hki : (k : Int) < (l.length : Int) := by omega
        have hki0 : (0 : Int) ≤ (k : Int) := by omega
        have hxa : (.slice X l.length cap : Value) = .slice (some ⟨b, o, none⟩) l.length cap := by rw [e]
        subst e
        clear hg hb hJ hY hxa
        go_upto_region 7 with fail
        rcases hub : os.contains x.id with _ | _
        · rcases hwb : waitsB x with _ | _
          · have hc := Lib.hid (show cand os x = false by unfold cand; rw [hub, hwb]; rfl)
            rw [hub] at xu
            clear hub
            have HWX := Lib.hid (show ∀ W : World, Calls Tryz.prog 35 #[.agg #[.int .i64 x.id, .int .i64 x.us, .int .i64 x.cl, .int .i64 x.x.a, .int .i64 x.x.b, .int .i64 x.x.c, .bool x.x.p, .bool x.x.q, .bool x.x.r, .bool x.x.tn, .int .i64 x.wa, .int .i64 x.pr, .bool x.he, .slice Yx x.af.length cx, .int .u8 x.st, .int .i64 x.ca]] W fun e w' => e = .returned (.bool false) ∧ Below W.heap.size W w' from fun W => by have := rwaits x Yx cx W; rw [hwb] at this; exact this)
            clear hwb
            have kq0 := cell_regrown xu
            refine wp_region_quiet_below (by kernel_rfl) (by kernel_rfl) ?_
            repeat (go_big_quiet_step (first | fail))
            (refine quiet_load_mid (by rfl) 33 _ rfl _ _ rfl _ HJX.out _ Tryz.underlying33 rfl (by kernel_rfl) ?_; simp only [Act.put, List.setIfInBounds_toArray, List.set_cons_zero, List.set_cons_succ])
            repeat (go_big_quiet_step (first | fail | exact Calls.regrown_of (HWX.out _)))
            refine wpQuiet_nil ?_
            intro _ hw'
            obtain ⟨⟨dq, osq⟩, hw''⟩ := hw'
            subst hw''
            have hBq := below_regrown wr dq osq
            clear kq0
            generalize grow (redrawn wr dq) osq = wq at *
            have HBe := Lib.hid (HBi.out.trans (hBq.mono HBi.out.size))
            have HBS := Lib.hid (HBst.out.skip HG.out hc.out)
            clear hBq
            go_wp2_with fail
            go_roundw
            case rel => exact ⟨k + 1, _, by omega, by go_num, rfl, HBS.out, HBe.out⟩
            case measure => simp [intOf]; omega
          · have hc := Lib.hid (show cand os x = true by unfold cand; rw [hub, hwb]; rfl)
            rw [hub] at xu
            clear hub
            by_cases ha : a < 0
            · have da : decide (a < 0) = true := decide_eq_true ha
              have HA1 := Lib.hid (show a = -1 by rcases HBst.out with ⟨e, _⟩ | ⟨n, _, e, _⟩ <;> omega)
              have HWX := Lib.hid (show ∀ W : World, Calls Tryz.prog 35 #[.agg #[.int .i64 x.id, .int .i64 x.us, .int .i64 x.cl, .int .i64 x.x.a, .int .i64 x.x.b, .int .i64 x.x.c, .bool x.x.p, .bool x.x.q, .bool x.x.r, .bool x.x.tn, .int .i64 x.wa, .int .i64 x.pr, .bool x.he, .slice Yx x.af.length cx, .int .u8 x.st, .int .i64 x.ca]] W fun e w' => e = .returned (.bool true) ∧ Below W.heap.size W w' from fun W => by have := rwaits x Yx cx W; rw [hwb] at this; exact this)
              clear hwb
              clear ha
              have kq0 := cell_regrown xu
              refine wp_region_quiet_below (by kernel_rfl) (by kernel_rfl) ?_
              repeat (go_big_quiet_step (first | fail))
              (refine quiet_load_mid (by rfl) 33 _ rfl _ _ rfl _ HJX.out _ Tryz.underlying33 rfl (by kernel_rfl) ?_; simp only [Act.put, List.setIfInBounds_toArray, List.set_cons_zero, List.set_cons_succ])
              repeat (go_big_quiet_step (first | fail | exact Calls.regrown_of (HWX.out _)))
              refine wpQuiet_nil ?_
              intro _ hw'
              obtain ⟨⟨dq, osq⟩, hw''⟩ := hw'
              subst hw''
              have hBq := below_regrown wr dq osq
              clear kq0
              generalize grow (redrawn wr dq) osq = wq at *
              have HBe := Lib.hid (HBi.out.trans (hBq.mono HBi.out.size))
              have HBS := Lib.hid ((by rw [HA1.out] at HBst; exact HBst.out.first HG.out hc.out))
              clear hBq
              go_wp2_with fail
              go_roundw
              case rel => exact ⟨k + 1, _, by omega, by go_num, rfl, HBS.out, HBe.out⟩
              case measure => simp [intOf]; omega
            · have da : decide (a < 0) = false := decide_eq_false ha
              obtain ⟨n, y, rfl, hn, hy, _⟩ := HBst.out.place ha
              obtain ⟨b', o', Yy, cy, ey, hby, hJy, hYy⟩ := (HX.out.up HBw.out) n y hy
              rw [HE.out] at ey
              cases ey
              have HJY := Lib.hid hJy.range
              have HYG := Lib.hid hy
              have HCY := Lib.hid (HCK.out y (List.mem_of_getElem? hy))
              have hni : (n : Int) < (l.length : Int) := by omega
              have hni0 : (0 : Int) ≤ (n : Int) := by omega
              clear hy hJy hYy hby hn
              by_cases hk2 : keyV ks ag y < keyV ks ag x
              · have dk : decide (keyV ks ag y < keyV ks ag x) = true := decide_eq_true hk2
                have HKK := Lib.hid hk2
                clear hk2 ha
                have HWX := Lib.hid (show ∀ W : World, Calls Tryz.prog 35 #[.agg #[.int .i64 x.id, .int .i64 x.us, .int .i64 x.cl, .int .i64 x.x.a, .int .i64 x.x.b, .int .i64 x.x.c, .bool x.x.p, .bool x.x.q, .bool x.x.r, .bool x.x.tn, .int .i64 x.wa, .int .i64 x.pr, .bool x.he, .slice Yx x.af.length cx, .int .u8 x.st, .int .i64 x.ca]] W fun e w' => e = .returned (.bool true) ∧ Below W.heap.size W w' from fun W => by have := rwaits x Yx cx W; rw [hwb] at this; exact this)
                clear hwb
                have kq0 := cell_regrown xu
                refine wp_region_quiet_below (by kernel_rfl) (by kernel_rfl) ?_
                repeat (go_big_quiet_step (first | fail))
                (refine quiet_load_mid (by rfl) 33 _ rfl _ _ rfl _ HJX.out _ Tryz.underlying33 rfl (by kernel_rfl) ?_; simp only [Act.put, List.setIfInBounds_toArray, List.set_cons_zero, List.set_cons_succ])
                repeat (go_big_quiet_step (first | fail | exact Calls.regrown_of (HWX.out _)))
                (refine quiet_load_row (by rfl) 26 _ rfl _ rfl 26 #[.int .i64 d0, .int .i64 d1, .int .i64 d2, .int .i64 bo, .int .i64 fr, .int .i64 tr, .int .i64 ag, .slice K ks.length kc] KCr.out _ Tryz.underlying26 rfl (by kernel_rfl) ?_; simp only [Act.put, List.setIfInBounds_toArray, List.set_cons_zero, List.set_cons_succ])
                repeat (go_big_quiet_step (first | fail))
                (refine quiet_load_mid (by rfl) 33 _ rfl _ _ rfl _ HJX.out _ Tryz.underlying33 rfl (by kernel_rfl) ?_; simp only [Act.put, List.setIfInBounds_toArray, List.set_cons_zero, List.set_cons_succ])
                repeat (go_big_quiet_step (first | fail | exact Calls.regrown_of (HOF.out x Yx cx HCX.out _ (HK.out.up (below_up HBw.out (below_regrown _ _ _))))))
                (refine quiet_load_row (by rfl) 26 _ rfl _ rfl 26 #[.int .i64 d0, .int .i64 d1, .int .i64 d2, .int .i64 bo, .int .i64 fr, .int .i64 tr, .int .i64 ag, .slice K ks.length kc] KCr.out _ Tryz.underlying26 rfl (by kernel_rfl) ?_; simp only [Act.put, List.setIfInBounds_toArray, List.set_cons_zero, List.set_cons_succ])
                repeat (go_big_quiet_step (first | fail))
                (refine quiet_load_mid (by rfl) 33 _ rfl _ _ rfl _ HJY.out _ Tryz.underlying33 rfl (by kernel_rfl) ?_; simp only [Act.put, List.setIfInBounds_toArray, List.set_cons_zero, List.set_cons_succ])
                repeat (go_big_quiet_step (first | fail | exact Calls.regrown_of (HOF.out y Yy cy HCY.out _ (HK.out.up (below_up HBw.out (below_regrown _ _ _))))))
                refine wpQuiet_nil ?_
                intro _ hw'
                obtain ⟨⟨dq, osq⟩, hw''⟩ := hw'
                subst hw''
                have hBq := below_regrown wr dq osq
                clear kq0
                generalize grow (redrawn wr dq) osq = wq at *
                have HBe := Lib.hid (HBi.out.trans (hBq.mono HBi.out.size))
                have HBS := Lib.hid (HBst.out.better HYG.out HG.out hc.out HKK.out)
                clear hBq
                go_wp2_with fail
                go_roundw
                case rel => exact ⟨k + 1, _, by omega, by go_num, rfl, HBS.out, HBe.out⟩
                case measure => simp [intOf]; omega
              · have dk : decide (keyV ks ag y < keyV ks ag x) = false := decide_eq_false hk2
                have HKK := Lib.hid hk2
                clear hk2 ha
                have HWX := Lib.hid (show ∀ W : World, Calls Tryz.prog 35 #[.agg #[.int .i64 x.id, .int .i64 x.us, .int .i64 x.cl, .int .i64 x.x.a, .int .i64 x.x.b, .int .i64 x.x.c, .bool x.x.p, .bool x.x.q, .bool x.x.r, .bool x.x.tn, .int .i64 x.wa, .int .i64 x.pr, .bool x.he, .slice Yx x.af.length cx, .int .u8 x.st, .int .i64 x.ca]] W fun e w' => e = .returned (.bool true) ∧ Below W.heap.size W w' from fun W => by have := rwaits x Yx cx W; rw [hwb] at this; exact this)
                clear hwb
                have kq0 := cell_regrown xu
                refine wp_region_quiet_below (by kernel_rfl) (by kernel_rfl) ?_
                repeat (go_big_quiet_step (first | fail))
                (refine quiet_load_mid (by rfl) 33 _ rfl _ _ rfl _ HJX.out _ Tryz.underlying33 rfl (by kernel_rfl) ?_; simp only [Act.put, List.setIfInBounds_toArray, List.set_cons_zero, List.set_cons_succ])
                repeat (go_big_quiet_step (first | fail | exact Calls.regrown_of (HWX.out _)))
                (refine quiet_load_row (by rfl) 26 _ rfl _ rfl 26 #[.int .i64 d0, .int .i64 d1, .int .i64 d2, .int .i64 bo, .int .i64 fr, .int .i64 tr, .int .i64 ag, .slice K ks.length kc] KCr.out _ Tryz.underlying26 rfl (by kernel_rfl) ?_; simp only [Act.put, List.setIfInBounds_toArray, List.set_cons_zero, List.set_cons_succ])
                repeat (go_big_quiet_step (first | fail))
                (refine quiet_load_mid (by rfl) 33 _ rfl _ _ rfl _ HJX.out _ Tryz.underlying33 rfl (by kernel_rfl) ?_; simp only [Act.put, List.setIfInBounds_toArray, List.set_cons_zero, List.set_cons_succ])
                repeat (go_big_quiet_step (first | fail | exact Calls.regrown_of (HOF.out x Yx cx HCX.out _ (HK.out.up (below_up HBw.out (below_regrown _ _ _))))))
                (refine quiet_load_row (by rfl) 26 _ rfl _ rfl 26 #[.int .i64 d0, .int .i64 d1, .int .i64 d2, .int .i64 bo, .int .i64 fr, .int .i64 tr, .int .i64 ag, .slice K ks.length kc] KCr.out _ Tryz.underlying26 rfl (by kernel_rfl) ?_; simp only [Act.put, List.setIfInBounds_toArray, List.set_cons_zero, List.set_cons_succ])
                repeat (go_big_quiet_step (first | fail))
                (refine quiet_load_mid (by rfl) 33 _ rfl _ _ rfl _ HJY.out _ Tryz.underlying33 rfl (by kernel_rfl) ?_; simp only [Act.put, List.setIfInBounds_toArray, List.set_cons_zero, List.set_cons_succ])
                repeat (go_big_quiet_step (first | fail | exact Calls.regrown_of (HOF.out y Yy cy HCY.out _ (HK.out.up (below_up HBw.out (below_regrown _ _ _))))))
                refine wpQuiet_nil ?_
                intro _ hw'
                obtain ⟨⟨dq, osq⟩, hw''⟩ := hw'
                subst hw''
                have hBq := below_regrown wr dq osq
                clear kq0
                generalize grow (redrawn wr dq) osq = wq at *
                have HBe := Lib.hid (HBi.out.trans (hBq.mono HBi.out.size))
                have HBS := Lib.hid (HBst.out.worse HYG.out HG.out HKK.out)
                clear hBq
                go_wp2_with fail
                go_roundw
                case rel => exact ⟨k + 1, _, by omega, by go_num, rfl, HBS.out, HBe.out⟩
                case measure => simp [intOf]; omega
        · have hc := Lib.hid (show cand os x = false by unfold cand; rw [hub]; rfl)
          rw [hub] at xu
          clear hub
          have kq0 := cell_regrown xu
          refine wp_region_quiet_below (by kernel_rfl) (by kernel_rfl) ?_
          repeat (go_big_quiet_step (first | fail))
          refine wpQuiet_nil ?_
          intro _ hw'
          obtain ⟨⟨dq, osq⟩, hw''⟩ := hw'
          subst hw''
          have hBq := below_regrown wr dq osq
          clear kq0
          generalize grow (redrawn wr dq) osq = wq at *
          have HBe := Lib.hid (HBi.out.trans (hBq.mono HBi.out.size))
          have HBS := Lib.hid (HBst.out.skip HG.out hc.out)
          clear hBq
          go_wp2_with fail
          go_roundw
          case rel => exact ⟨k + 1, _, by omega, by go_num, rfl, HBS.out, HBe.out⟩
          case measure => simp [intOf]; omega
      · obtain rfl : k = l.length := by omega
        have HU2 := Lib.hid (HU.out.below HBi.out)
        have HO2 := Lib.hid (ownsRow_below HO.out HBi.out)
        clear HU HO HBi
        by_cases ha : a < 0
        · have HA1 := Lib.hid (show os = orderV ks ag l by
            have h1 : a = -1 := by rcases HBst.out with ⟨e, _⟩ | ⟨n, _, e, _⟩ <;> omega
            have h2 := HBst.out
            rw [h1, HOS.out] at h2
            rw [HOS.out]
            exact sel_done HUP.out h2)
          go_wp2_with fail
          have hmN : m = (orderV ks ag l).length := by
            have := congrArg List.length HOS.out
            have h9 := HN.out
            rw [HA1.out, List.length_take] at this
            omega
          refine bodyPost_ret (v := .slice V m cv) (by simp [results, Tryz.results22, go_sem]) rfl ⟨V, cv, by rw [hmN], ?_, HB0.out.trans (HBw.out.mono HB0.out.size)⟩
          have := HO2.out
          rw [HA1.out, hmN] at this
          exact ints_of_own this
        · obtain ⟨n, y, rfl, hn, hy, hcy⟩ := HBst.out.place ha
          have HNX := Lib.hid (sel_next (m := m) HUP.out (by rw [← HOS.out]; exact HBst.out) hy)
          have HYG := Lib.hid hy
          obtain ⟨b, o, Yy, cy, e, hb, hJ, hY⟩ := (HX.out.up HBw.out) n y hy
          subst e
          have xu : wr.cell? ⟨gU, n, none⟩ = some (.bool (os.contains y.id)) := HU2.out.cell (used_at hy)
          have xf : wr.frozen? ⟨gU, n, none⟩ = false := Blk.frozen HU2.out n
          have hgb : b ≠ gU := by have := HGU.out; have h1 := HX.out; obtain ⟨b', _, _, _, e', hb', _⟩ := h1 n y hy; cases e'; omega
          have HU3 := Lib.hid (HU2.out.set n true (used_set HUP.out hy))
          have HO3 := Lib.hid (show (wr.setCell ⟨gU, n, none⟩ (.bool true)).ownsRow W0.heap.size 3 1 (.slice V m cv) m (os.map (Value.int .i64)) from Go.ownsRow_setCell_other HO2.out (a := ⟨gU, n, none⟩) (own_blk_ne HO2.out HU2.out (by decide)) _)
          have HB3 := Lib.hid (below_set2 HBw.out gU n (.bool true) (by have := HGU.out; omega))
          have yid : (wr.setCell ⟨gU, n, none⟩ (.bool true)).cell? ⟨b, o + n * 16, none⟩ = some (.int .i64 y.id) := by
            rw [World.cell?_of_block (Below.heap_setCell _ _ _ b (by simpa using hgb))]
            exact hJ.1
          have hni : (n : Int) < (l.length : Int) := by omega
          have hni0 : (0 : Int) ≤ (n : Int) := by omega
          have ha' : ¬ (n : Int) < 0 := ha
          obtain ⟨ii, a0, a1, a2, a3⟩ := info_parts int_info2
          have HII := Lib.hid (And.intro a0 (And.intro a1 (And.intro a2 a3)))
          have hmlt : m < N := by
            have := (List.getElem?_eq_some_iff.1 HNX.out).1
            have h9 := HN.out
            omega
          clear hy hcy hb hJ hY hgb HO2 HU2 a0 a1 a2 a3 ha hn HBst HBw
          go_upto_region 12 with fail
          clear xu xf
          generalize World.setCell _ _ _ = w4 at *
          have hw4 : W0.heap.size ≤ w4.heap.size := HB3.out.size
          have hw5 : W0.heap.size ≤ (w4.alloc (.cells #[.int .i64 y.id] 3)).heap.size := by simp; omega
          go_wp2_with (first | (at_builtin; refine wpList_append_any _ rfl (.tmp 56) (.tmp 62) _ rfl W0.heap.size 3 ii (.int .i64 0) 1 8 Tryz.underlying31 HII.out.1 HII.out.2.1 HII.out.2.2.1 HII.out.2.2.2 rfl (by decide) _ _ _ rfl (ownsRow_below HO3.out (below_alloc (Below.refl _ w4))) _ (some ⟨w4.heap.size, 0, none⟩) 1 1 [.int .i64 y.id] rfl (reads_box2 w4 3 [.int .i64 y.id] (by simp)) (fun u hu => by simp at hu; subst hu; rfl) (by simp only [maxLen]; omega) (by omega) hw5 ?_; intro v7 w7 hown hg hat; obtain ⟨V7, c7, rfl⟩ := own_form3 hown; have H7 := Lib.hid (And.intro hown hg); clear hown hg hat))
          have hT : (orderV ks ag l).take (m + 1) = os ++ [y.id] := by rw [HOS.out]; exact take_snoc2 HNX.out
          have hO7 := H7.out.1
          rw [← List.map_singleton, ← List.map_append, ← hT] at hO7
          have hU7 : UsedAt w7 gU (usedL l ((orderV ks ag l).take (m + 1))) := by
            rw [hT]
            exact Blk.grown ((HU3.out.below (below_alloc (Below.refl _ w4)))) H7.out.2 (fun e => own_blk_ne HO3.out HU3.out (by decide) e.symm)
          have hB7 : Below W0.heap.size W0 w7 := (below_alloc3 hw4 HB3.out _).grown H7.out.2 hw5 (fun k hk => (HO3.out.lt k hk).1)
          exact ⟨⟨m + 1, V7, c7, by omega, rfl, hO7, hU7, hB7⟩, by simp [lenV]; omega⟩
end Go.Proofs.YtfpljpdjohmbaaaGreat.RankRefO
/-! The reference's order. No conditions but those named. -/
namespace Go.Proofs.YtfpljpdjohmbaaaGreat.RankRefP
open Go.Sort (grow)
open Go.RowKit Mem PosMath PartMath TurnMath TurnMap TurnFitsV JobMath JobCheck JobIndex JobFind JobMem JobTable JobTwin JobRSame JobRTwin JobRef2 JobRef3 JobGreat DepsMath RankMath RankKey RankSort RankOrd RankSel SetList QuietRow Lay RankRef RankRefO
set_option linter.unusedVariables false
set_option linter.unusedSimpArgs false

set_option maxRecDepth 100000 in
set_option maxHeartbeats 8000000 in
theorem rOrder_bad (d0 d1 d2 bo fr tr ag : Int) (K : Option Addr) (kc : Nat) (ks : List Cls) (hlk : ks.length ≤ 4611686018427387904) (X : Option Addr) (cap : Nat) (l : List JV) (hl : l.length ≤ 1000) (hla : ∀ j ∈ l, j.af.length ≤ 1000) (hv : tableV d0 d1 d2 bo fr tr ag ks l ≠ 0) (w : World) (hk : ClsAt w w.heap.size K ks) (hX : JobsAt w X l) :
    Calls Tryz.prog 9 #[.agg #[.int .i64 d0, .int .i64 d1, .int .i64 d2, .int .i64 bo, .int .i64 fr, .int .i64 tr, .int .i64 ag, .slice K ks.length kc], .slice X l.length cap] w fun e w' => e = .returned (.tuple #[.slice none 0 0, .int .i64 (tableV d0 d1 d2 bo fr tr ag ks l)]) ∧ Below w.heap.size w w' := by
  have HT := Lib.hid (fun w hk hX => rtable_any d0 d1 d2 bo fr tr ag K kc ks hlk X cap l (by omega) (fun j hj => by have := hla j hj; omega) w hk hX)
  generalize tableV d0 d1 d2 bo fr tr ag ks l = V at *
  have HK := Lib.hid hk
  have HX := Lib.hid hX
  have hv' : (V != 0) = true := by simpa using hv
  clear hk hX hv hla
  go_enter Tryz.func9, Tryz.ntmps9
  go_upto_region 1 with fail
  have kc0 : Blk (w.alloc (.cells #[.int .i64 d0, .int .i64 d1, .int .i64 d2, .int .i64 bo, .int .i64 fr, .int .i64 tr, .int .i64 ag, .slice K ks.length kc] 26)) w.heap.size 26 #[.int .i64 d0, .int .i64 d1, .int .i64 d2, .int .i64 bo, .int .i64 fr, .int .i64 tr, .int .i64 ag, .slice K ks.length kc] := Blk.new w _ _
  have hb0 : Below w.heap.size w (w.alloc (.cells #[.int .i64 d0, .int .i64 d1, .int .i64 d2, .int .i64 bo, .int .i64 fr, .int .i64 tr, .int .i64 ag, .slice K ks.length kc] 26)) := below_alloc (Below.refl _ _)
  generalize (w.alloc (.cells #[.int .i64 d0, .int .i64 d1, .int .i64 d2, .int .i64 bo, .int .i64 fr, .int .i64 tr, .int .i64 ag, .slice K ks.length kc] 26)) = w0 at *
  have HB0 := Lib.hid hb0
  have KC0 := Lib.hid kc0
  clear hb0 kc0
  go_wp2_with (first | (refine wpList_load_row rfl 26 _ rfl _ rfl 26 #[.int .i64 d0, .int .i64 d1, .int .i64 d2, .int .i64 bo, .int .i64 fr, .int .i64 tr, .int .i64 ag, .slice K ks.length kc] (0, 0) _ KC0.out Tryz.underlying26 rfl (by kernel_rfl) ?_))
  refine (HT.out _ (HK.out.up HB0.out) (HX.out.up HB0.out)).mono ?_
  rintro e w1 ⟨rfl, hB1⟩
  have HB1 := Lib.hid (below_up HB0.out hB1)
  have KC1 := Lib.hid (KC0.out.below hB1 KC0.out.lt)
  clear hB1 KC0 HB0 HT
  go_wp2_with fail
  go_ret2
  exact ⟨rfl, HB1.out⟩

set_option maxRecDepth 100000 in
set_option maxHeartbeats 8000000 in
theorem rOrder_ok (d0 d1 d2 bo fr tr ag : Int) (K : Option Addr) (kc : Nat) (ks : List Cls) (hlk : ks.length ≤ 4611686018427387904) (X : Option Addr) (cap : Nat) (l : List JV) (hl : l.length ≤ 1000) (hla : ∀ j ∈ l, j.af.length ≤ 1000) (hv : tableV d0 d1 d2 bo fr tr ag ks l = 0) (w : World) (hk : ClsAt w w.heap.size K ks) (hX : JobsAt w X l) :
    Calls Tryz.prog 9 #[.agg #[.int .i64 d0, .int .i64 d1, .int .i64 d2, .int .i64 bo, .int .i64 fr, .int .i64 tr, .int .i64 ag, .slice K ks.length kc], .slice X l.length cap] w fun e w' => ∃ X' c', e = .returned (.tuple #[.slice X' (orderV ks ag l).length c', .int .i64 0]) ∧ IntsAt w' X' (orderV ks ag l) ∧ Below w.heap.size w w' := by
  obtain ⟨hC, hT⟩ := tableV_of hv
  have HT := Lib.hid (fun w hk hX => rtable_any d0 d1 d2 bo fr tr ag K kc ks hlk X cap l (by omega) (fun j hj => by have := hla j hj; omega) w hk hX)
  rw [hv] at HT
  have HO := Lib.hid (fun w hk hX => rOrdered d0 d1 d2 bo fr tr ag K kc ks hlk X cap l hl hC hT.each hT.rise w hk hX)
  generalize orderV ks ag l = R at *
  have HK := Lib.hid hk
  have HX := Lib.hid hX
  clear hk hX hla hT hC hv
  go_enter Tryz.func9, Tryz.ntmps9
  go_upto_region 1 with fail
  have kc0 : Blk (w.alloc (.cells #[.int .i64 d0, .int .i64 d1, .int .i64 d2, .int .i64 bo, .int .i64 fr, .int .i64 tr, .int .i64 ag, .slice K ks.length kc] 26)) w.heap.size 26 #[.int .i64 d0, .int .i64 d1, .int .i64 d2, .int .i64 bo, .int .i64 fr, .int .i64 tr, .int .i64 ag, .slice K ks.length kc] := Blk.new w _ _
  have hb0 : Below w.heap.size w (w.alloc (.cells #[.int .i64 d0, .int .i64 d1, .int .i64 d2, .int .i64 bo, .int .i64 fr, .int .i64 tr, .int .i64 ag, .slice K ks.length kc] 26)) := below_alloc (Below.refl _ _)
  generalize w.alloc (.cells #[.int .i64 d0, .int .i64 d1, .int .i64 d2, .int .i64 bo, .int .i64 fr, .int .i64 tr, .int .i64 ag, .slice K ks.length kc] 26) = w0 at *
  have HB0 := Lib.hid hb0
  have KC0 := Lib.hid kc0
  clear hb0 kc0
  go_wp2_with (first | (refine wpList_load_row rfl 26 _ rfl _ rfl 26 #[.int .i64 d0, .int .i64 d1, .int .i64 d2, .int .i64 bo, .int .i64 fr, .int .i64 tr, .int .i64 ag, .slice K ks.length kc] (0, 0) _ KC0.out Tryz.underlying26 rfl (by kernel_rfl) ?_))
  refine (HT.out _ (HK.out.up HB0.out) (HX.out.up HB0.out)).mono ?_
  rintro e w1 ⟨rfl, hB1⟩
  have HB1 := Lib.hid (below_up HB0.out hB1)
  have KC1 := Lib.hid (KC0.out.below hB1 KC0.out.lt)
  clear hB1 KC0 HB0 HT
  go_wp2_with (first | (refine wpList_load_row rfl 26 _ rfl _ rfl 26 #[.int .i64 d0, .int .i64 d1, .int .i64 d2, .int .i64 bo, .int .i64 fr, .int .i64 tr, .int .i64 ag, .slice K ks.length kc] (0, 0) _ KC1.out Tryz.underlying26 rfl (by kernel_rfl) ?_))
  refine (HO.out _ (HK.out.up HB1.out) (HX.out.up HB1.out)).mono ?_
  rintro e w2 ⟨X', c', rfl, hI, hB2⟩
  have HB2 := Lib.hid (below_up HB1.out hB2)
  have HI := Lib.hid hI
  clear hB2 hI KC1
  go_wp2_with fail
  go_ret2
  exact ⟨X', c', rfl, HI.out, HB2.out⟩
end Go.Proofs.YtfpljpdjohmbaaaGreat.RankRefP
/-! RankDoes: the walk. No conditions but those named. -/
namespace Go.Proofs.YtfpljpdjohmbaaaGreat.RankDoesW
open Go.Sort (grow)
open Go.RowKit Mem PosMath PartMath TurnMath TurnMap TurnFitsV JobMath JobCheck JobIndex JobFind JobMem JobTable JobTwin JobRSame JobRTwin JobRef2 JobRef3 JobGreat DepsMath RankMath RankKey RankSort RankOrd RankSel SetList QuietRow Lay RankRef RankRefO RankRefP
set_option linter.unusedVariables false
set_option linter.unusedSimpArgs false

/-- The law's boxes. -/
structure DB (w : World) (d0 d1 d2 bo fr tr ag : Int) (K : Option Addr) (kc : Nat) (ks : List Cls) (j : JV) (Yj : Option Addr) (cj : Nat) (W : World) : Prop where
  c : Blk W w.heap.size 26 #[.int .i64 d0, .int .i64 d1, .int .i64 d2, .int .i64 bo, .int .i64 fr, .int .i64 tr, .int .i64 ag, .slice K ks.length kc]
  j : Blk W (w.heap.size + 1) 33 #[.int .i64 j.id, .int .i64 j.us, .int .i64 j.cl, .int .i64 j.x.a, .int .i64 j.x.b, .int .i64 j.x.c, .bool j.x.p, .bool j.x.q, .bool j.x.r, .bool j.x.tn, .int .i64 j.wa, .int .i64 j.pr, .bool j.he, .slice Yj j.af.length cj, .int .u8 j.st, .int .i64 j.ca]
  b : Below w.heap.size w W
theorem DB.up {w : World} {d0 d1 d2 bo fr tr ag : Int} {K : Option Addr} {kc : Nat} {ks : List Cls} {j : JV} {Yj : Option Addr} {cj : Nat} {W W' : World} (h : DB w d0 d1 d2 bo fr tr ag K kc ks j Yj cj W) (hB : Below W.heap.size W W') : DB w d0 d1 d2 bo fr tr ag K kc ks j Yj cj W' :=
  ⟨h.c.below hB h.c.lt, h.j.below hB h.j.lt, below_up h.b hB⟩
set_option maxRecDepth 100000 in
set_option maxHeartbeats 20000000 in
theorem doesLaw (w : World) (d0 d1 d2 bo fr tr ag : Int) (K : Option Addr) (kc : Nat) (ks : List Cls) (hkc : ks.length ≤ kc) (hkm : kc ≤ maxLen) (hk : ClsAt w w.heap.size K ks) (X : Option Addr) (cX : Nat) (l : List JV) (hlc : l.length ≤ cX) (hlm : cX ≤ maxLen) (hX : JobsAt w X l) (hla : ∀ j ∈ l, JWf j ∧ j.af.length ≤ maxLen) (j : JV) (Yj : Option Addr) (cj : Nat) (hjc : j.af.length ≤ cj) (hjm : cj ≤ maxLen) (hYj : IntsAt w Yj j.af) (hjw : JWf j) :
    Calls Tryz.prog 3 #[.agg #[.int .i64 d0, .int .i64 d1, .int .i64 d2, .int .i64 bo, .int .i64 fr, .int .i64 tr, .int .i64 ag, .slice K ks.length kc], .slice X l.length cX, .agg #[.int .i64 j.id, .int .i64 j.us, .int .i64 j.cl, .int .i64 j.x.a, .int .i64 j.x.b, .int .i64 j.x.c, .bool j.x.p, .bool j.x.q, .bool j.x.r, .bool j.x.tn, .int .i64 j.wa, .int .i64 j.pr, .bool j.he, .slice Yj j.af.length cj, .int .u8 j.st, .int .i64 j.ca]] w fun e w' => e = .returned (.bool true) ∧ Below w.heap.size w w' := by
  have hlk : ks.length ≤ 9223372036854775807 := by simp only [maxLen] at hkm; omega
  have hl : l.length ≤ 9223372036854775807 := by simp only [maxLen] at hlm; omega
  have hjl : j.af.length ≤ 9223372036854775807 := by simp only [maxLen] at hjm; omega
  have HG1 := Lib.hid (fun w h => great_big X cX l hl (fun j hj => by have := (hla j hj).2; unfold maxLen at this; omega) w h)
  have HLA := Lib.hid (fun j hj => (hla j hj).1.2.2.2.1)
  have HK := Lib.hid hk
  have HX := Lib.hid hX
  have HY := Lib.hid hYj
  clear hk hX hYj hla hkc hkm hlc hlm hjc hjm hjw
  go_enter Tryz.func3, Tryz.ntmps3
  go_upto_region 1 with fail
  have K0 := Lib.hid (show DB w d0 d1 d2 bo fr tr ag K kc ks j Yj cj ((w.alloc (.cells #[.int .i64 d0, .int .i64 d1, .int .i64 d2, .int .i64 bo, .int .i64 fr, .int .i64 tr, .int .i64 ag, .slice K ks.length kc] 26)).alloc (.cells #[.int .i64 j.id, .int .i64 j.us, .int .i64 j.cl, .int .i64 j.x.a, .int .i64 j.x.b, .int .i64 j.x.c, .bool j.x.p, .bool j.x.q, .bool j.x.r, .bool j.x.tn, .int .i64 j.wa, .int .i64 j.pr, .bool j.he, .slice Yj j.af.length cj, .int .u8 j.st, .int .i64 j.ca] 33)) from ⟨(Blk.new w _ _).alloc _, blk1 w _ _, below_alloc (below_alloc (Below.refl _ _))⟩)
  generalize (w.alloc (.cells #[.int .i64 d0, .int .i64 d1, .int .i64 d2, .int .i64 bo, .int .i64 fr, .int .i64 tr, .int .i64 ag, .slice K ks.length kc] 26)).alloc (.cells #[.int .i64 j.id, .int .i64 j.us, .int .i64 j.cl, .int .i64 j.x.a, .int .i64 j.x.b, .int .i64 j.x.c, .bool j.x.p, .bool j.x.q, .bool j.x.r, .bool j.x.tn, .int .i64 j.wa, .int .i64 j.pr, .bool j.he, .slice Yj j.af.length cj, .int .u8 j.st, .int .i64 j.ca] 33) = w0 at *
  have x7 : w0.cell? ⟨w.heap.size, 7, none⟩ = some (.slice K ks.length kc) := K0.out.c.cell 7
  by_cases h0 : (100 : Int) < (ks.length : Int)
  · go_wp2_with fail
    go_ret
    exact ⟨rfl, K0.out.b⟩
  go_wp2_with fail
  refine (HG1.out _ (HX.out.up K0.out.b)).mono ?_
  rintro e w1 ⟨rfl, hB⟩
  have K1 := Lib.hid (K0.out.up hB)
  clear hB K0 x7 HG1
  rcases hg : greatB l with _ | _
  rotate_left
  · go_wp2_with fail
    go_ret
    exact ⟨rfl, K1.out.b⟩
  obtain ⟨hl1, hl2⟩ := great_not hg
  have x13 : w1.cell? ⟨w.heap.size + 1, 13, none⟩ = some (.slice Yj j.af.length cj) := K1.out.j.cell 13
  by_cases h2 : (100 : Int) < (j.af.length : Int)
  · go_wp2_with fail
    go_ret
    exact ⟨rfl, K1.out.b⟩
  have hl3 : ∀ j ∈ l, j.af.length ≤ 1000 := fun j hj => by have := hl2 j hj; omega
  have HTW := Lib.hid (fun w h => rtwin X cX l (by omega) hl3 w h)
  have HSM := Lib.hid (show ∀ (X2 : Option Addr) (c2 : Nat) (W : World), JobsAt W X2 l → JobsAt W X l → Calls Tryz.prog 11 #[.slice X2 l.length c2, .slice X l.length cX] W fun e w' => e = .returned (.bool true) ∧ Below W.heap.size W w' from fun X2 c2 W h1 h2 => by
    have := rSame X2 X c2 cX l l (by omega) (by omega) (fun j hj => ⟨HLA.out j hj, hl3 j hj⟩) (fun j hj => ⟨HLA.out j hj, hl3 j hj⟩) W h1 h2
    rw [decide_eq_true (rfl : l = l)] at this
    exact this)
  have HKP := Lib.hid (fun w hk hY => rKey_any d0 d1 d2 bo fr tr ag K kc ks j Yj cj (by omega) (by omega) w hk hY)
  have HKR := Lib.hid (fun w hk hY => rKeyR d0 d1 d2 bo fr tr ag K kc ks j Yj cj (by omega) (by omega) w hk hY)
  obtain ⟨R, c, hR, hOP, hOR⟩ : ∃ (R : List Int) (T : Int), R.length ≤ 9223372036854775807 ∧ (∀ (X2 : Option Addr) (c2 : Nat) (W : World), ClsAt W W.heap.size K ks → JobsAt W X2 l → Calls Tryz.prog 8 #[.agg #[.int .i64 d0, .int .i64 d1, .int .i64 d2, .int .i64 bo, .int .i64 fr, .int .i64 tr, .int .i64 ag, .slice K ks.length kc], .slice X2 l.length c2] W fun e w' => ∃ X' c', e = .returned (.tuple #[.slice X' R.length c', .int .i64 T]) ∧ IntsAt w' X' R ∧ Below W.heap.size W w') ∧
      (∀ (W : World), ClsAt W W.heap.size K ks → JobsAt W X l → Calls Tryz.prog 9 #[.agg #[.int .i64 d0, .int .i64 d1, .int .i64 d2, .int .i64 bo, .int .i64 fr, .int .i64 tr, .int .i64 ag, .slice K ks.length kc], .slice X l.length cX] W fun e w' => ∃ X' c', e = .returned (.tuple #[.slice X' R.length c', .int .i64 T]) ∧ IntsAt w' X' R ∧ Below W.heap.size W w') := by
    by_cases hv : tableV d0 d1 d2 bo fr tr ag ks l = 0
    · refine ⟨orderV ks ag l, 0, ?_, fun X2 c2 W h1 h2 => order_ok d0 d1 d2 bo fr tr ag K kc ks (by omega) X2 c2 l (by omega) hl3 hv W h1 h2, fun W h1 h2 => rOrder_ok d0 d1 d2 bo fr tr ag K kc ks (by omega) X cX l (by omega) hl3 hv W h1 h2⟩
      rw [order_len]
      exact Nat.le_trans (List.length_filter_le _ _) hl
    · refine ⟨[], tableV d0 d1 d2 bo fr tr ag ks l, Nat.zero_le _, fun X2 c2 W h1 h2 => (order_bad d0 d1 d2 bo fr tr ag K kc ks (by omega) X2 c2 l (by omega) hl3 hv W h1 h2).mono ?_, fun W h1 h2 => (rOrder_bad d0 d1 d2 bo fr tr ag K kc ks (by omega) X cX l (by omega) hl3 hv W h1 h2).mono ?_⟩
      · rintro e w' ⟨rfl, hB⟩
        exact ⟨none, 0, rfl, IntsAt.nil, hB⟩
      · rintro e w' ⟨rfl, hB⟩
        exact ⟨none, 0, rfl, IntsAt.nil, hB⟩
  have HOP := Lib.hid hOP
  have HOR := Lib.hid hOR
  generalize (if CheckV d0 d1 d2 bo fr tr ag ks j = 0 then keyV ks ag j else 0) = KV at *
  generalize CheckV d0 d1 d2 bo fr tr ag ks j = CV at *
  clear hOP hOR hg hl1 hl2 hl3 HLA h0
  go_wp2_with fail
  refine (HTW.out w1 (HX.out.up K1.out.b)).mono ?_
  rintro e w2 ⟨X2, c2, rfl, hO, hB⟩
  have K2 := Lib.hid (K1.out.up hB)
  have O2 := Lib.hid (JobsOwn.jobs hO)
  clear hB hO K1 HTW x13
  go_wp2_with (first | (refine wpList_load_row rfl 26 _ rfl _ rfl 26 #[.int .i64 d0, .int .i64 d1, .int .i64 d2, .int .i64 bo, .int .i64 fr, .int .i64 tr, .int .i64 ag, .slice K ks.length kc] (0, 0) _ K2.out.c Tryz.underlying26 rfl (by kernel_rfl) ?_) | (refine wpList_load_row rfl 33 _ rfl _ rfl 33 #[.int .i64 j.id, .int .i64 j.us, .int .i64 j.cl, .int .i64 j.x.a, .int .i64 j.x.b, .int .i64 j.x.c, .bool j.x.p, .bool j.x.q, .bool j.x.r, .bool j.x.tn, .int .i64 j.wa, .int .i64 j.pr, .bool j.he, .slice Yj j.af.length cj, .int .u8 j.st, .int .i64 j.ca] (0, 0) _ K2.out.j Tryz.underlying33 rfl (by kernel_rfl) ?_))
  refine (HKP.out w2 (HK.out.up K2.out.b) (HY.out.up K2.out.b)).mono ?_
  rintro e w3 ⟨rfl, hB⟩
  have K3 := Lib.hid (K2.out.up hB)
  have O3 := Lib.hid (O2.out.up hB)
  clear hB K2 O2 HKP
  go_wp2_with (first | (refine wpList_load_row rfl 26 _ rfl _ rfl 26 #[.int .i64 d0, .int .i64 d1, .int .i64 d2, .int .i64 bo, .int .i64 fr, .int .i64 tr, .int .i64 ag, .slice K ks.length kc] (0, 0) _ K3.out.c Tryz.underlying26 rfl (by kernel_rfl) ?_) | (refine wpList_load_row rfl 33 _ rfl _ rfl 33 #[.int .i64 j.id, .int .i64 j.us, .int .i64 j.cl, .int .i64 j.x.a, .int .i64 j.x.b, .int .i64 j.x.c, .bool j.x.p, .bool j.x.q, .bool j.x.r, .bool j.x.tn, .int .i64 j.wa, .int .i64 j.pr, .bool j.he, .slice Yj j.af.length cj, .int .u8 j.st, .int .i64 j.ca] (0, 0) _ K3.out.j Tryz.underlying33 rfl (by kernel_rfl) ?_))
  refine (HKR.out w3 (HK.out.up K3.out.b) (HY.out.up K3.out.b)).mono ?_
  rintro e w4 ⟨rfl, hB⟩
  have K4 := Lib.hid (K3.out.up hB)
  have O4 := Lib.hid (O3.out.up hB)
  clear hB K3 O3 HKR
  go_wp2_with (first | (refine wpList_load_row rfl 26 _ rfl _ rfl 26 #[.int .i64 d0, .int .i64 d1, .int .i64 d2, .int .i64 bo, .int .i64 fr, .int .i64 tr, .int .i64 ag, .slice K ks.length kc] (0, 0) _ K4.out.c Tryz.underlying26 rfl (by kernel_rfl) ?_))
  refine (HOP.out X2 c2 w4 (HK.out.up K4.out.b) O4.out).mono ?_
  rintro e w5 ⟨X5, c5, rfl, hI5, hB⟩
  have K5 := Lib.hid (K4.out.up hB)
  have O5 := Lib.hid (And.intro (O4.out.up hB) hI5)
  clear hB K4 O4 HOP hI5
  go_wp2_with (first | (refine wpList_load_row rfl 26 _ rfl _ rfl 26 #[.int .i64 d0, .int .i64 d1, .int .i64 d2, .int .i64 bo, .int .i64 fr, .int .i64 tr, .int .i64 ag, .slice K ks.length kc] (0, 0) _ K5.out.c Tryz.underlying26 rfl (by kernel_rfl) ?_))
  refine (HOR.out w5 (HK.out.up K5.out.b) (HX.out.up K5.out.b)).mono ?_
  rintro e w6 ⟨X6, c6, rfl, hI6, hB⟩
  have K6 := Lib.hid (K5.out.up hB)
  have O6 := Lib.hid (And.intro (O5.out.1.up hB) (And.intro (O5.out.2.up hB) hI6))
  clear hB K5 O5 HOR hI6
  go_wp2_with fail
  refine (rInts X5 X6 c5 c6 R R (by omega) (by omega) w6 O6.out.2.1 O6.out.2.2).mono ?_
  rw [decide_eq_true (rfl : R = R)]
  rintro e w7 ⟨rfl, hB⟩
  have K7 := Lib.hid (K6.out.up hB)
  have O7 := Lib.hid (O6.out.1.up hB)
  clear hB K6 O6
  go_wp2_with fail
  refine (HSM.out X2 c2 w7 O7.out (HX.out.up K7.out.b)).mono ?_
  rintro e w8 ⟨rfl, hB⟩
  have HB8 := Lib.hid (below_up K7.out.b hB)
  clear hB K7 O7
  go_wp2_with fail
  go_ret
  exact ⟨rfl, HB8.out⟩
end Go.Proofs.YtfpljpdjohmbaaaGreat.RankDoesW
/-! How an argument that is a slice of structs of four integers is opened: cells of ints at their places, nil let in. -/
namespace Go.Proofs.YtfpljpdjohmbaaaGreat.Lay
open Go.ChangeShapes Go.WideShapes Go.ChangeAt Go.RowKit Go.Joins Go.Deep Mem
set_option linter.unusedVariables false

section
variable {H : Type} {enc : TypeId × Value → H} {P : Program} {w : World} {base : Nat} {spare : Nat → Bool} {held : Bool}
/- (This theorem began as the guide's lines for copying: extra-structs.md.) -/
theorem open_slice_fields {t e : TypeId} {fs : Array Field} {fuel : Nat} {cs : List Value} {x : DataW H × List MemPlace} (ht : P.underlying t = some (.slice e)) (he : P.underlying e = some (.struct fs))
    (hone : oneCellFields P fs = true) (hC : P.cellsOf e = fs.size) (h : DataW.trod enc P w base spare held fuel t cs = some x) :
    cs = [.slice none 0 0] ∨
    ∃ (a : Addr) (len cap m : Nat), cs = [.slice (some a) len cap] ∧ len ≤ cap ∧ cap ≤ maxLen ∧ m = (if spare a.block then cap else len) ∧
      ∀ i, i < m → ∃ (n : Nat), ∀ (j : Nat) (f : Field), fs[j]? = some f → ∃ (v : Value) (y : DataW H × List MemPlace), w.cell? (a.add (i * fs.size + j)) = some v ∧ DataW.trod enc P w base spare held n f.type [v] = some y := by
  rcases open_slice ht h with ⟨h0, _⟩ | ⟨a, len, cap, m, n, D, Pl, hcs, hb, hl, hm, hmm, hx, hi⟩
  · exact .inl h0
  · refine .inr ⟨a, len, cap, m, hcs, hl, hm, hmm, fun i him => ?_⟩
    obtain ⟨cs', hc, ht'⟩ := hi i him
    rw [hC] at hc
    obtain ⟨ys, n', hn', hy, hlen, hyl, hf⟩ := DataW.trod_struct he ht'
    obtain ⟨_, hcl, hat⟩ := World.cells?_some hc
    refine ⟨n', fun j f hj => ?_⟩
    obtain ⟨ho, hk⟩ := hone_of hone j f hj
    have hjl : j < fs.size := (Array.getElem?_eq_some_iff.1 hj).1
    have hcell := hat j hjl
    have hv : cs'[j]? = some (cs'[j]'(by omega)) := List.getElem?_eq_getElem (by omega)
    have h1 := hf j f hj
    rw [ho, hk] at h1
    have hone' : (cs'.drop j).take 1 = [cs'[j]'(by omega)] := by
      rw [List.drop_eq_getElem_cons (by omega)]
      rfl
    rw [hone'] at h1
    have hys : ys[j]? = some (ys[j]'(by omega)) := List.getElem?_eq_getElem (by omega)
    refine ⟨_, _, ?_, h1.trans hys⟩
    rw [← Go.Deep.add_add, hcell, hv]
/-- Four integers an element: what each place of the list holds. -/
theorem open_fours {t e : TypeId} {f0 f1 f2 f3 : Field} {k : IntKind} {fuel : Nat} {cs : List Value} {x : DataW H × List MemPlace} (ht : P.underlying t = some (.slice e)) (he : P.underlying e = some (.struct #[f0, f1, f2, f3]))
    (h0 : P.underlying f0.type = some (.int k)) (h1 : P.underlying f1.type = some (.int k)) (h2 : P.underlying f2.type = some (.int k)) (h3 : P.underlying f3.type = some (.int k))
    (hone : oneCellFields P #[f0, f1, f2, f3] = true) (hC : P.cellsOf e = 4) (h : DataW.trod enc P w base (fun _ => true) held fuel t cs = some x) :
    ∃ (X : Option Addr) (c : Nat) (ks : List (Int × Int × Int × Int)), cs = [.slice X ks.length c] ∧ ks.length ≤ c ∧ c ≤ maxLen ∧
      ∀ (i : Nat) (q : Int × Int × Int × Int), ks[i]? = some q → ∃ b o, X = some ⟨b, o, none⟩ ∧ b < w.heap.size ∧
        w.cell? ⟨b, o + i * 4, none⟩ = some (.int k q.1) ∧ w.cell? ⟨b, o + i * 4 + 1, none⟩ = some (.int k q.2.1) ∧ w.cell? ⟨b, o + i * 4 + 2, none⟩ = some (.int k q.2.2.1) ∧ w.cell? ⟨b, o + i * 4 + 3, none⟩ = some (.int k q.2.2.2) := by
  rcases open_slice_fields ht he hone hC h with rfl | ⟨⟨b, o, s⟩, len, cap, m, rfl, hl, hm, hmm, hi⟩
  · exact ⟨none, 0, [], rfl, by simp, by simp [maxLen], fun i q hq => by simp at hq⟩
  · have hmc : m = cap := by rw [hmm]; rfl
    have hs0 : 0 < len → s = none := fun hl0 => by
      obtain ⟨n, hf⟩ := hi 0 (by omega)
      obtain ⟨v0, y0, c0, r0⟩ := hf 0 f0 rfl
      have c0' : w.cell? ((⟨b, o, s⟩ : Addr).add 0) = some v0 := by simpa using c0
      simpa [Addr.add] using World.cell?_spot c0'
    have hel : ∀ i, ∃ q : Int × Int × Int × Int, i < len → b < w.heap.size ∧ s = none ∧ w.cell? ⟨b, o + i * 4, none⟩ = some (.int k q.1) ∧ w.cell? ⟨b, o + i * 4 + 1, none⟩ = some (.int k q.2.1) ∧ w.cell? ⟨b, o + i * 4 + 2, none⟩ = some (.int k q.2.2.1) ∧ w.cell? ⟨b, o + i * 4 + 3, none⟩ = some (.int k q.2.2.2) := by
      intro i
      by_cases hlt : i < len
      · obtain ⟨n, hf⟩ := hi i (by omega)
        obtain ⟨v0, y0, c0, r0⟩ := hf 0 f0 rfl
        obtain ⟨v1, y1, c1, r1⟩ := hf 1 f1 rfl
        obtain ⟨v2, y2, c2, r2⟩ := hf 2 f2 rfl
        obtain ⟨v3, y3, c3, r3⟩ := hf 3 f3 rfl
        obtain ⟨a0, e0, _, _⟩ := DataW.trod_int h0 r0
        obtain ⟨a1, e1, _, _⟩ := DataW.trod_int h1 r1
        obtain ⟨a2, e2, _, _⟩ := DataW.trod_int h2 r2
        obtain ⟨a3, e3, _, _⟩ := DataW.trod_int h3 r3
        simp at e0 e1 e2 e3
        subst e0 e1 e2 e3
        have hs : s = none := hs0 (by omega)
        subst hs
        have hblk := block_of_cell c0
        rw [block_of_add] at hblk
        simp only [show (#[f0, f1, f2, f3] : Array Field).size = 4 from rfl] at c0 c1 c2 c3
        rw [add_flat] at c0 c1 c2 c3
        exact ⟨(a0, a1, a2, a3), fun _ => ⟨hblk, rfl, by simpa using c0, by simpa [Nat.add_assoc] using c1, by simpa [Nat.add_assoc] using c2, by simpa [Nat.add_assoc] using c3⟩⟩
      · exact ⟨(0, 0, 0, 0), fun h => absurd h hlt⟩
    refine ⟨some ⟨b, o, s⟩, cap, (List.range len).map (fun i => (hel i).choose), by simp, by simpa using hl, hm, fun i q hq => ?_⟩
    have hlt : i < len := by
      have := (List.getElem?_eq_some_iff.1 hq).1
      simpa using this
    have hq' : q = (hel i).choose := by simpa [hlt] using hq.symm
    obtain ⟨g1, g2, g3⟩ := (hel i).choose_spec hlt
    subst g2
    rw [hq']
    exact ⟨b, o, rfl, g1, g3⟩
end
end Go.Proofs.YtfpljpdjohmbaaaGreat.Lay
/-! How an argument that is a config is opened. No conditions but the types'. -/
namespace Go.Proofs.YtfpljpdjohmbaaaGreat.Lay
open Go.ChangeShapes Go.WideShapes Go.ChangeAt Go.RowKit Go.Joins Go.Deep Mem PartMath
set_option linter.unusedVariables false

theorem open_cfg {H : Type} {enc : TypeId × Value → H} {P : Program} {W : World} {r : Reach} {b0 : Nat} {t e tc : TypeId} {f0 f1 f2 f3 f4 f5 g0 g1 g2 g3 : Field} {v : Value} {d : DataW H} {p : List MemPlace} {held : Bool}
    (hs : P.underlying t = some (.struct #[f0, f1, f2, f3, f4, f5])) (hC : P.cellsOf t = 8)
    (h0 : P.underlying f0.type = some (.array 3 e)) (he : P.underlying e = some (.int .i64)) (hce : P.cellsOf e = 1) (hc0 : P.cellsOf f0.type = 3)
    (h1 : P.underlying f1.type = some (.int .i64)) (h2 : P.underlying f2.type = some (.int .i64)) (h3 : P.underlying f3.type = some (.int .i64)) (h4 : P.underlying f4.type = some (.int .i64))
    (hc1 : P.cellsOf f1.type = 1) (hc2 : P.cellsOf f2.type = 1) (hc3 : P.cellsOf f3.type = 1) (hc4 : P.cellsOf f4.type = 1) (hc5 : P.cellsOf f5.type = 1)
    (o0 : f0.offset = 0) (o1 : f1.offset = 3) (o2 : f2.offset = 4) (o3 : f3.offset = 5) (o4 : f4.offset = 6) (o5 : f5.offset = 7)
    (h5 : P.underlying f5.type = some (.slice tc)) (htc : P.underlying tc = some (.struct #[g0, g1, g2, g3]))
    (k0 : P.underlying g0.type = some (.int .i64)) (k1 : P.underlying g1.type = some (.int .i64)) (k2 : P.underlying g2.type = some (.int .i64)) (k3 : P.underlying g3.type = some (.int .i64))
    (hone : oneCellFields P #[g0, g1, g2, g3] = true) (hCc : P.cellsOf tc = 4)
    (hv : Value.okWide P W r b0 t v) (h : DataW.Trod enc P W 0 (fun _ => true) held t v d p) :
    ∃ (a b c bo fr tr ag : Int) (X : Option Addr) (cp : Nat) (ks : List Cls), v = .agg #[.int .i64 a, .int .i64 b, .int .i64 c, .int .i64 bo, .int .i64 fr, .int .i64 tr, .int .i64 ag, .slice X ks.length cp] ∧ ks.length ≤ cp ∧ cp ≤ maxLen ∧ ClsAt W W.heap.size X ks ∧
      (Lit.int .i64 a).wf = true ∧ (Lit.int .i64 b).wf = true ∧ (Lit.int .i64 c).wf = true ∧ (Lit.int .i64 bo).wf = true ∧ (Lit.int .i64 fr).wf = true ∧ (Lit.int .i64 tr).wf = true ∧ (Lit.int .i64 ag).wf = true := by
  obtain ⟨cs, rfl, hsz⟩ := okWide_struct hs hv
  obtain ⟨l⟩ := cs
  match l, hsz.trans hC with
  | [c0, c1, c2, c3, c4, c5, c6, c7], _ =>
    obtain ⟨fuel, hf⟩ := h
    obtain ⟨xs, n, _, hx, _, hlen, hg⟩ := DataW.trod_struct hs hf
    have q0 := hg 0 f0 rfl
    have q1 := hg 1 f1 rfl
    have q2 := hg 2 f2 rfl
    have q3 := hg 3 f3 rfl
    have q4 := hg 4 f4 rfl
    have q5 := hg 5 f5 rfl
    match xs, hlen with
    | [y0, y1, y2, y3, y4, y5], _ =>
      rw [o0, hc0] at q0
      rw [o1, hc1] at q1
      rw [o2, hc2] at q2
      rw [o3, hc3] at q3
      rw [o4, hc4] at q4
      rw [o5, hc5] at q5
      simp [Value.cells] at q0 q1 q2 q3 q4 q5
      obtain ⟨z0, z1, z2, m, _, r0, r1, r2⟩ := trod_array3 h0 hce q0
      obtain ⟨a, e0, _, wa⟩ := DataW.trod_int he r0
      obtain ⟨b, e1, _, wb⟩ := DataW.trod_int he r1
      obtain ⟨c, e2, _, wc⟩ := DataW.trod_int he r2
      obtain ⟨bo, e3, _, w3⟩ := DataW.trod_int h1 q1
      obtain ⟨fr, e4, _, w4⟩ := DataW.trod_int h2 q2
      obtain ⟨tr, e5, _, w5⟩ := DataW.trod_int h3 q3
      obtain ⟨ag, e6, _, w6⟩ := DataW.trod_int h4 q4
      obtain ⟨X, cp, ks, e7, hl, hm, hk⟩ := open_fours h5 htc k0 k1 k2 k3 hone hCc q5
      simp at e0 e1 e2 e3 e4 e5 e6 e7
      subst e0 e1 e2 e3 e4 e5 e6 e7
      exact ⟨a, b, c, bo, fr, tr, ag, X, cp, ks, rfl, hl, hm, hk, wa, wb, wc, w3, w4, w5, w6⟩
end Go.Proofs.YtfpljpdjohmbaaaGreat.Lay
