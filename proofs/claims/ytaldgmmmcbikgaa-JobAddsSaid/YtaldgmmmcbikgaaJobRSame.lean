/- The reference's SameOne, Same and Great. -/
import Derived.BigRegion
import Derived.BigQuiet
import Derived.Lib.QuietBelow
import Derived.Deep.QuietTactic
import Derived.Test.YtaldgmmmcbikgaaJobSame
import Derived.Test.YtaldgmmmcbikgaaQuietRow
namespace Go.Proofs.Ytaldgmmmcbikgaa.JobRSame
open Go.Sort (grow)
open Go.RowKit Mem PosMath PartMath TurnMath TurnWalks TurnMap JobMath JobMem JobSame QuietRow
set_option linter.unusedVariables false
set_option linter.unusedSimpArgs false

set_option maxRecDepth 100000 in
set_option maxHeartbeats 4000000 in
theorem rs_len (x y : JV) (Y Z : Option Addr) (c d : Nat) (hx : WWf x.x) (hy : WWf y.x) (hl : x.af.length ≤ 1000) (hm : y.af.length ≤ 1000) (hn : x.af.length ≠ y.af.length) (w : World) (hY : IntsAt w Y x.af) (hZ : IntsAt w Z y.af) :
    Calls Try.prog 40 #[.agg #[.int .i64 x.id, .int .i64 x.us, .int .i64 x.cl, .int .i64 x.x.a, .int .i64 x.x.b, .int .i64 x.x.c, .bool x.x.p, .bool x.x.q, .bool x.x.r, .bool x.x.tn, .int .i64 x.wa, .int .i64 x.pr, .bool x.he, .slice Y x.af.length c, .int .u8 x.st, .int .i64 x.ca], .agg #[.int .i64 y.id, .int .i64 y.us, .int .i64 y.cl, .int .i64 y.x.a, .int .i64 y.x.b, .int .i64 y.x.c, .bool y.x.p, .bool y.x.q, .bool y.x.r, .bool y.x.tn, .int .i64 y.wa, .int .i64 y.pr, .bool y.he, .slice Z y.af.length d, .int .u8 y.st, .int .i64 y.ca]] w fun e w' => e = .returned (.bool false) ∧ Below w.heap.size w w' := by
  have hn' : ((x.af.length : Int) != (y.af.length : Int)) = true := by simp; omega
  clear hn hY hZ
  go_enter Try.func40, Try.ntmps40
  go_wp2_with fail
  go_ret
  exact ⟨rfl, below_alloc (below_alloc (Below.refl _ _))⟩
set_option maxRecDepth 100000 in
set_option maxHeartbeats 4000000 in
theorem rs_0 (x y : JV) (Y Z : Option Addr) (c d : Nat) (hx : WWf x.x) (hy : WWf y.x) (hl : x.af.length ≤ 1000) (hm : y.af.length ≤ 1000) (hn : x.af.length = y.af.length)  (h0 : ¬ x.id = y.id) (w : World) (hY : IntsAt w Y x.af) (hZ : IntsAt w Z y.af) :
    Calls Try.prog 40 #[.agg #[.int .i64 x.id, .int .i64 x.us, .int .i64 x.cl, .int .i64 x.x.a, .int .i64 x.x.b, .int .i64 x.x.c, .bool x.x.p, .bool x.x.q, .bool x.x.r, .bool x.x.tn, .int .i64 x.wa, .int .i64 x.pr, .bool x.he, .slice Y x.af.length c, .int .u8 x.st, .int .i64 x.ca], .agg #[.int .i64 y.id, .int .i64 y.us, .int .i64 y.cl, .int .i64 y.x.a, .int .i64 y.x.b, .int .i64 y.x.c, .bool y.x.p, .bool y.x.q, .bool y.x.r, .bool y.x.tn, .int .i64 y.wa, .int .i64 y.pr, .bool y.he, .slice Z y.af.length d, .int .u8 y.st, .int .i64 y.ca]] w fun e w' => e = .returned (.bool false) ∧ Below w.heap.size w w' := by
  have hn' : ((x.af.length : Int) != (y.af.length : Int)) = false := by simp [hn]
  have e0 : (x.id != y.id) = true := by simpa using h0
  clear hn hY hZ hx hy h0
  go_enter Try.func40, Try.ntmps40
  go_wp2_with fail
  go_ret
  exact ⟨rfl, below_alloc (below_alloc (Below.refl _ _))⟩
set_option maxRecDepth 100000 in
set_option maxHeartbeats 4000000 in
theorem rs_1 (x y : JV) (Y Z : Option Addr) (c d : Nat) (hx : WWf x.x) (hy : WWf y.x) (hl : x.af.length ≤ 1000) (hm : y.af.length ≤ 1000) (hn : x.af.length = y.af.length) (h0 : x.id = y.id) (h1 : ¬ x.us = y.us) (w : World) (hY : IntsAt w Y x.af) (hZ : IntsAt w Z y.af) :
    Calls Try.prog 40 #[.agg #[.int .i64 x.id, .int .i64 x.us, .int .i64 x.cl, .int .i64 x.x.a, .int .i64 x.x.b, .int .i64 x.x.c, .bool x.x.p, .bool x.x.q, .bool x.x.r, .bool x.x.tn, .int .i64 x.wa, .int .i64 x.pr, .bool x.he, .slice Y x.af.length c, .int .u8 x.st, .int .i64 x.ca], .agg #[.int .i64 y.id, .int .i64 y.us, .int .i64 y.cl, .int .i64 y.x.a, .int .i64 y.x.b, .int .i64 y.x.c, .bool y.x.p, .bool y.x.q, .bool y.x.r, .bool y.x.tn, .int .i64 y.wa, .int .i64 y.pr, .bool y.he, .slice Z y.af.length d, .int .u8 y.st, .int .i64 y.ca]] w fun e w' => e = .returned (.bool false) ∧ Below w.heap.size w w' := by
  have hn' : ((x.af.length : Int) != (y.af.length : Int)) = false := by simp [hn]
  have e0 : (x.id != y.id) = false := by simpa using h0
  have e1 : (x.us != y.us) = true := by simpa using h1
  clear hn hY hZ hx hy h0 h1
  go_enter Try.func40, Try.ntmps40
  go_wp2_with fail
  go_ret
  exact ⟨rfl, below_alloc (below_alloc (Below.refl _ _))⟩
set_option maxRecDepth 100000 in
set_option maxHeartbeats 4000000 in
theorem rs_2 (x y : JV) (Y Z : Option Addr) (c d : Nat) (hx : WWf x.x) (hy : WWf y.x) (hl : x.af.length ≤ 1000) (hm : y.af.length ≤ 1000) (hn : x.af.length = y.af.length) (h0 : x.id = y.id) (h1 : x.us = y.us) (h2 : ¬ x.cl = y.cl) (w : World) (hY : IntsAt w Y x.af) (hZ : IntsAt w Z y.af) :
    Calls Try.prog 40 #[.agg #[.int .i64 x.id, .int .i64 x.us, .int .i64 x.cl, .int .i64 x.x.a, .int .i64 x.x.b, .int .i64 x.x.c, .bool x.x.p, .bool x.x.q, .bool x.x.r, .bool x.x.tn, .int .i64 x.wa, .int .i64 x.pr, .bool x.he, .slice Y x.af.length c, .int .u8 x.st, .int .i64 x.ca], .agg #[.int .i64 y.id, .int .i64 y.us, .int .i64 y.cl, .int .i64 y.x.a, .int .i64 y.x.b, .int .i64 y.x.c, .bool y.x.p, .bool y.x.q, .bool y.x.r, .bool y.x.tn, .int .i64 y.wa, .int .i64 y.pr, .bool y.he, .slice Z y.af.length d, .int .u8 y.st, .int .i64 y.ca]] w fun e w' => e = .returned (.bool false) ∧ Below w.heap.size w w' := by
  have hn' : ((x.af.length : Int) != (y.af.length : Int)) = false := by simp [hn]
  have e0 : (x.id != y.id) = false := by simpa using h0
  have e1 : (x.us != y.us) = false := by simpa using h1
  have e2 : (x.cl != y.cl) = true := by simpa using h2
  clear hn hY hZ hx hy h0 h1 h2
  go_enter Try.func40, Try.ntmps40
  go_wp2_with fail
  go_ret
  exact ⟨rfl, below_alloc (below_alloc (Below.refl _ _))⟩
set_option maxRecDepth 100000 in
set_option maxHeartbeats 4000000 in
theorem rs_3 (x y : JV) (Y Z : Option Addr) (c d : Nat) (hx : WWf x.x) (hy : WWf y.x) (hl : x.af.length ≤ 1000) (hm : y.af.length ≤ 1000) (hn : x.af.length = y.af.length) (h0 : x.id = y.id) (h1 : x.us = y.us) (h2 : x.cl = y.cl) (h3 : ¬ x.x = y.x) (w : World) (hY : IntsAt w Y x.af) (hZ : IntsAt w Z y.af) :
    Calls Try.prog 40 #[.agg #[.int .i64 x.id, .int .i64 x.us, .int .i64 x.cl, .int .i64 x.x.a, .int .i64 x.x.b, .int .i64 x.x.c, .bool x.x.p, .bool x.x.q, .bool x.x.r, .bool x.x.tn, .int .i64 x.wa, .int .i64 x.pr, .bool x.he, .slice Y x.af.length c, .int .u8 x.st, .int .i64 x.ca], .agg #[.int .i64 y.id, .int .i64 y.us, .int .i64 y.cl, .int .i64 y.x.a, .int .i64 y.x.b, .int .i64 y.x.c, .bool y.x.p, .bool y.x.q, .bool y.x.r, .bool y.x.tn, .int .i64 y.wa, .int .i64 y.pr, .bool y.he, .slice Z y.af.length d, .int .u8 y.st, .int .i64 y.ca]] w fun e w' => e = .returned (.bool false) ∧ Below w.heap.size w w' := by
  have hn' : ((x.af.length : Int) != (y.af.length : Int)) = false := by simp [hn]
  have e0 : (x.id != y.id) = false := by simpa using h0
  have e1 : (x.us != y.us) = false := by simpa using h1
  have e2 : (x.cl != y.cl) = false := by simpa using h2
  have e3 : ∀ w, (Op.equalIn 10000 30 (.agg #[.int .i64 x.x.a, .int .i64 x.x.b, .int .i64 x.x.c, .bool x.x.p, .bool x.x.q, .bool x.x.r, .bool x.x.tn]) (.agg #[.int .i64 y.x.a, .int .i64 y.x.b, .int .i64 y.x.c, .bool y.x.p, .bool y.x.q, .bool y.x.r, .bool y.x.tn])).run Try.prog w = .ok false w := fun w => by
    have := eq_wants hx hy w
    rw [decide_eq_false h3] at this
    exact this
  clear hn hY hZ hx hy h0 h1 h2 h3
  go_enter Try.func40, Try.ntmps40
  go_wp2_with fail
  go_ret
  exact ⟨rfl, below_alloc (below_alloc (Below.refl _ _))⟩
set_option maxRecDepth 100000 in
set_option maxHeartbeats 4000000 in
theorem rs_4 (x y : JV) (Y Z : Option Addr) (c d : Nat) (hx : WWf x.x) (hy : WWf y.x) (hl : x.af.length ≤ 1000) (hm : y.af.length ≤ 1000) (hn : x.af.length = y.af.length) (h0 : x.id = y.id) (h1 : x.us = y.us) (h2 : x.cl = y.cl) (h3 : x.x = y.x) (h4 : ¬ x.wa = y.wa) (w : World) (hY : IntsAt w Y x.af) (hZ : IntsAt w Z y.af) :
    Calls Try.prog 40 #[.agg #[.int .i64 x.id, .int .i64 x.us, .int .i64 x.cl, .int .i64 x.x.a, .int .i64 x.x.b, .int .i64 x.x.c, .bool x.x.p, .bool x.x.q, .bool x.x.r, .bool x.x.tn, .int .i64 x.wa, .int .i64 x.pr, .bool x.he, .slice Y x.af.length c, .int .u8 x.st, .int .i64 x.ca], .agg #[.int .i64 y.id, .int .i64 y.us, .int .i64 y.cl, .int .i64 y.x.a, .int .i64 y.x.b, .int .i64 y.x.c, .bool y.x.p, .bool y.x.q, .bool y.x.r, .bool y.x.tn, .int .i64 y.wa, .int .i64 y.pr, .bool y.he, .slice Z y.af.length d, .int .u8 y.st, .int .i64 y.ca]] w fun e w' => e = .returned (.bool false) ∧ Below w.heap.size w w' := by
  have hn' : ((x.af.length : Int) != (y.af.length : Int)) = false := by simp [hn]
  have e0 : (x.id != y.id) = false := by simpa using h0
  have e1 : (x.us != y.us) = false := by simpa using h1
  have e2 : (x.cl != y.cl) = false := by simpa using h2
  have e3 : ∀ w, (Op.equalIn 10000 30 (.agg #[.int .i64 x.x.a, .int .i64 x.x.b, .int .i64 x.x.c, .bool x.x.p, .bool x.x.q, .bool x.x.r, .bool x.x.tn]) (.agg #[.int .i64 y.x.a, .int .i64 y.x.b, .int .i64 y.x.c, .bool y.x.p, .bool y.x.q, .bool y.x.r, .bool y.x.tn])).run Try.prog w = .ok true w := fun w => by
    have := eq_wants hx hy w
    rw [decide_eq_true h3] at this
    exact this
  have e4 : (x.wa != y.wa) = true := by simpa using h4
  clear hn hY hZ hx hy h0 h1 h2 h3 h4
  go_enter Try.func40, Try.ntmps40
  go_wp2_with fail
  go_ret
  exact ⟨rfl, below_alloc (below_alloc (Below.refl _ _))⟩
set_option maxRecDepth 100000 in
set_option maxHeartbeats 4000000 in
theorem rs_5 (x y : JV) (Y Z : Option Addr) (c d : Nat) (hx : WWf x.x) (hy : WWf y.x) (hl : x.af.length ≤ 1000) (hm : y.af.length ≤ 1000) (hn : x.af.length = y.af.length) (h0 : x.id = y.id) (h1 : x.us = y.us) (h2 : x.cl = y.cl) (h3 : x.x = y.x) (h4 : x.wa = y.wa) (h5 : ¬ x.pr = y.pr) (w : World) (hY : IntsAt w Y x.af) (hZ : IntsAt w Z y.af) :
    Calls Try.prog 40 #[.agg #[.int .i64 x.id, .int .i64 x.us, .int .i64 x.cl, .int .i64 x.x.a, .int .i64 x.x.b, .int .i64 x.x.c, .bool x.x.p, .bool x.x.q, .bool x.x.r, .bool x.x.tn, .int .i64 x.wa, .int .i64 x.pr, .bool x.he, .slice Y x.af.length c, .int .u8 x.st, .int .i64 x.ca], .agg #[.int .i64 y.id, .int .i64 y.us, .int .i64 y.cl, .int .i64 y.x.a, .int .i64 y.x.b, .int .i64 y.x.c, .bool y.x.p, .bool y.x.q, .bool y.x.r, .bool y.x.tn, .int .i64 y.wa, .int .i64 y.pr, .bool y.he, .slice Z y.af.length d, .int .u8 y.st, .int .i64 y.ca]] w fun e w' => e = .returned (.bool false) ∧ Below w.heap.size w w' := by
  have hn' : ((x.af.length : Int) != (y.af.length : Int)) = false := by simp [hn]
  have e0 : (x.id != y.id) = false := by simpa using h0
  have e1 : (x.us != y.us) = false := by simpa using h1
  have e2 : (x.cl != y.cl) = false := by simpa using h2
  have e3 : ∀ w, (Op.equalIn 10000 30 (.agg #[.int .i64 x.x.a, .int .i64 x.x.b, .int .i64 x.x.c, .bool x.x.p, .bool x.x.q, .bool x.x.r, .bool x.x.tn]) (.agg #[.int .i64 y.x.a, .int .i64 y.x.b, .int .i64 y.x.c, .bool y.x.p, .bool y.x.q, .bool y.x.r, .bool y.x.tn])).run Try.prog w = .ok true w := fun w => by
    have := eq_wants hx hy w
    rw [decide_eq_true h3] at this
    exact this
  have e4 : (x.wa != y.wa) = false := by simpa using h4
  have e5 : (x.pr != y.pr) = true := by simpa using h5
  clear hn hY hZ hx hy h0 h1 h2 h3 h4 h5
  go_enter Try.func40, Try.ntmps40
  go_wp2_with fail
  go_ret
  exact ⟨rfl, below_alloc (below_alloc (Below.refl _ _))⟩
set_option maxRecDepth 100000 in
set_option maxHeartbeats 4000000 in
theorem rs_6 (x y : JV) (Y Z : Option Addr) (c d : Nat) (hx : WWf x.x) (hy : WWf y.x) (hl : x.af.length ≤ 1000) (hm : y.af.length ≤ 1000) (hn : x.af.length = y.af.length) (h0 : x.id = y.id) (h1 : x.us = y.us) (h2 : x.cl = y.cl) (h3 : x.x = y.x) (h4 : x.wa = y.wa) (h5 : x.pr = y.pr) (h6 : ¬ x.he = y.he) (w : World) (hY : IntsAt w Y x.af) (hZ : IntsAt w Z y.af) :
    Calls Try.prog 40 #[.agg #[.int .i64 x.id, .int .i64 x.us, .int .i64 x.cl, .int .i64 x.x.a, .int .i64 x.x.b, .int .i64 x.x.c, .bool x.x.p, .bool x.x.q, .bool x.x.r, .bool x.x.tn, .int .i64 x.wa, .int .i64 x.pr, .bool x.he, .slice Y x.af.length c, .int .u8 x.st, .int .i64 x.ca], .agg #[.int .i64 y.id, .int .i64 y.us, .int .i64 y.cl, .int .i64 y.x.a, .int .i64 y.x.b, .int .i64 y.x.c, .bool y.x.p, .bool y.x.q, .bool y.x.r, .bool y.x.tn, .int .i64 y.wa, .int .i64 y.pr, .bool y.he, .slice Z y.af.length d, .int .u8 y.st, .int .i64 y.ca]] w fun e w' => e = .returned (.bool false) ∧ Below w.heap.size w w' := by
  have hn' : ((x.af.length : Int) != (y.af.length : Int)) = false := by simp [hn]
  have e0 : (x.id != y.id) = false := by simpa using h0
  have e1 : (x.us != y.us) = false := by simpa using h1
  have e2 : (x.cl != y.cl) = false := by simpa using h2
  have e3 : ∀ w, (Op.equalIn 10000 30 (.agg #[.int .i64 x.x.a, .int .i64 x.x.b, .int .i64 x.x.c, .bool x.x.p, .bool x.x.q, .bool x.x.r, .bool x.x.tn]) (.agg #[.int .i64 y.x.a, .int .i64 y.x.b, .int .i64 y.x.c, .bool y.x.p, .bool y.x.q, .bool y.x.r, .bool y.x.tn])).run Try.prog w = .ok true w := fun w => by
    have := eq_wants hx hy w
    rw [decide_eq_true h3] at this
    exact this
  have e4 : (x.wa != y.wa) = false := by simpa using h4
  have e5 : (x.pr != y.pr) = false := by simpa using h5
  have e6 : (!(x.he == y.he)) = true := by simpa using h6
  clear hn hY hZ hx hy h0 h1 h2 h3 h4 h5 h6
  go_enter Try.func40, Try.ntmps40
  go_wp2_with fail
  go_ret
  exact ⟨rfl, below_alloc (below_alloc (Below.refl _ _))⟩
set_option maxRecDepth 100000 in
set_option maxHeartbeats 4000000 in
theorem rs_7 (x y : JV) (Y Z : Option Addr) (c d : Nat) (hx : WWf x.x) (hy : WWf y.x) (hl : x.af.length ≤ 1000) (hm : y.af.length ≤ 1000) (hn : x.af.length = y.af.length) (h0 : x.id = y.id) (h1 : x.us = y.us) (h2 : x.cl = y.cl) (h3 : x.x = y.x) (h4 : x.wa = y.wa) (h5 : x.pr = y.pr) (h6 : x.he = y.he) (h7 : ¬ x.st = y.st) (w : World) (hY : IntsAt w Y x.af) (hZ : IntsAt w Z y.af) :
    Calls Try.prog 40 #[.agg #[.int .i64 x.id, .int .i64 x.us, .int .i64 x.cl, .int .i64 x.x.a, .int .i64 x.x.b, .int .i64 x.x.c, .bool x.x.p, .bool x.x.q, .bool x.x.r, .bool x.x.tn, .int .i64 x.wa, .int .i64 x.pr, .bool x.he, .slice Y x.af.length c, .int .u8 x.st, .int .i64 x.ca], .agg #[.int .i64 y.id, .int .i64 y.us, .int .i64 y.cl, .int .i64 y.x.a, .int .i64 y.x.b, .int .i64 y.x.c, .bool y.x.p, .bool y.x.q, .bool y.x.r, .bool y.x.tn, .int .i64 y.wa, .int .i64 y.pr, .bool y.he, .slice Z y.af.length d, .int .u8 y.st, .int .i64 y.ca]] w fun e w' => e = .returned (.bool false) ∧ Below w.heap.size w w' := by
  have hn' : ((x.af.length : Int) != (y.af.length : Int)) = false := by simp [hn]
  have e0 : (x.id != y.id) = false := by simpa using h0
  have e1 : (x.us != y.us) = false := by simpa using h1
  have e2 : (x.cl != y.cl) = false := by simpa using h2
  have e3 : ∀ w, (Op.equalIn 10000 30 (.agg #[.int .i64 x.x.a, .int .i64 x.x.b, .int .i64 x.x.c, .bool x.x.p, .bool x.x.q, .bool x.x.r, .bool x.x.tn]) (.agg #[.int .i64 y.x.a, .int .i64 y.x.b, .int .i64 y.x.c, .bool y.x.p, .bool y.x.q, .bool y.x.r, .bool y.x.tn])).run Try.prog w = .ok true w := fun w => by
    have := eq_wants hx hy w
    rw [decide_eq_true h3] at this
    exact this
  have e4 : (x.wa != y.wa) = false := by simpa using h4
  have e5 : (x.pr != y.pr) = false := by simpa using h5
  have e6 : (!(x.he == y.he)) = false := by simpa using h6
  have e7 : (x.st != y.st) = true := by simpa using h7
  clear hn hY hZ hx hy h0 h1 h2 h3 h4 h5 h6 h7
  go_enter Try.func40, Try.ntmps40
  go_wp2_with fail
  go_ret
  exact ⟨rfl, below_alloc (below_alloc (Below.refl _ _))⟩
set_option maxRecDepth 100000 in
set_option maxHeartbeats 4000000 in
theorem rs_8 (x y : JV) (Y Z : Option Addr) (c d : Nat) (hx : WWf x.x) (hy : WWf y.x) (hl : x.af.length ≤ 1000) (hm : y.af.length ≤ 1000) (hn : x.af.length = y.af.length) (h0 : x.id = y.id) (h1 : x.us = y.us) (h2 : x.cl = y.cl) (h3 : x.x = y.x) (h4 : x.wa = y.wa) (h5 : x.pr = y.pr) (h6 : x.he = y.he) (h7 : x.st = y.st) (h8 : ¬ x.ca = y.ca) (w : World) (hY : IntsAt w Y x.af) (hZ : IntsAt w Z y.af) :
    Calls Try.prog 40 #[.agg #[.int .i64 x.id, .int .i64 x.us, .int .i64 x.cl, .int .i64 x.x.a, .int .i64 x.x.b, .int .i64 x.x.c, .bool x.x.p, .bool x.x.q, .bool x.x.r, .bool x.x.tn, .int .i64 x.wa, .int .i64 x.pr, .bool x.he, .slice Y x.af.length c, .int .u8 x.st, .int .i64 x.ca], .agg #[.int .i64 y.id, .int .i64 y.us, .int .i64 y.cl, .int .i64 y.x.a, .int .i64 y.x.b, .int .i64 y.x.c, .bool y.x.p, .bool y.x.q, .bool y.x.r, .bool y.x.tn, .int .i64 y.wa, .int .i64 y.pr, .bool y.he, .slice Z y.af.length d, .int .u8 y.st, .int .i64 y.ca]] w fun e w' => e = .returned (.bool false) ∧ Below w.heap.size w w' := by
  have hn' : ((x.af.length : Int) != (y.af.length : Int)) = false := by simp [hn]
  have e0 : (x.id != y.id) = false := by simpa using h0
  have e1 : (x.us != y.us) = false := by simpa using h1
  have e2 : (x.cl != y.cl) = false := by simpa using h2
  have e3 : ∀ w, (Op.equalIn 10000 30 (.agg #[.int .i64 x.x.a, .int .i64 x.x.b, .int .i64 x.x.c, .bool x.x.p, .bool x.x.q, .bool x.x.r, .bool x.x.tn]) (.agg #[.int .i64 y.x.a, .int .i64 y.x.b, .int .i64 y.x.c, .bool y.x.p, .bool y.x.q, .bool y.x.r, .bool y.x.tn])).run Try.prog w = .ok true w := fun w => by
    have := eq_wants hx hy w
    rw [decide_eq_true h3] at this
    exact this
  have e4 : (x.wa != y.wa) = false := by simpa using h4
  have e5 : (x.pr != y.pr) = false := by simpa using h5
  have e6 : (!(x.he == y.he)) = false := by simpa using h6
  have e7 : (x.st != y.st) = false := by simpa using h7
  have e8 : (x.ca != y.ca) = true := by simpa using h8
  clear hn hY hZ hx hy h0 h1 h2 h3 h4 h5 h6 h7 h8
  go_enter Try.func40, Try.ntmps40
  go_wp2_with fail
  go_ret
  exact ⟨rfl, below_alloc (below_alloc (Below.refl _ _))⟩
set_option maxRecDepth 100000 in
set_option maxHeartbeats 4000000 in
theorem rs_all (x y : JV) (Y Z : Option Addr) (c d : Nat) (hx : WWf x.x) (hy : WWf y.x) (hl : x.af.length ≤ 1000) (hm : y.af.length ≤ 1000) (hn : x.af.length = y.af.length) (h0 : x.id = y.id) (h1 : x.us = y.us) (h2 : x.cl = y.cl) (h3 : x.x = y.x) (h4 : x.wa = y.wa) (h5 : x.pr = y.pr) (h6 : x.he = y.he) (h7 : x.st = y.st) (h8 : x.ca = y.ca) (w : World) (hY : IntsAt w Y x.af) (hZ : IntsAt w Z y.af) :
    Calls Try.prog 40 #[.agg #[.int .i64 x.id, .int .i64 x.us, .int .i64 x.cl, .int .i64 x.x.a, .int .i64 x.x.b, .int .i64 x.x.c, .bool x.x.p, .bool x.x.q, .bool x.x.r, .bool x.x.tn, .int .i64 x.wa, .int .i64 x.pr, .bool x.he, .slice Y x.af.length c, .int .u8 x.st, .int .i64 x.ca], .agg #[.int .i64 y.id, .int .i64 y.us, .int .i64 y.cl, .int .i64 y.x.a, .int .i64 y.x.b, .int .i64 y.x.c, .bool y.x.p, .bool y.x.q, .bool y.x.r, .bool y.x.tn, .int .i64 y.wa, .int .i64 y.pr, .bool y.he, .slice Z y.af.length d, .int .u8 y.st, .int .i64 y.ca]] w fun e w' => e = .returned (.bool (decide (x.af = y.af))) ∧ Below w.heap.size w w' := by
  obtain ⟨V, hV⟩ : ∃ V, V = decide (x.af = y.af) := ⟨_, rfl⟩
  rw [← hV]
  have HV := Lib.hid hV
  have HN := Lib.hid hn
  have HY := Lib.hid hY
  have HZ := Lib.hid hZ
  have hn' : ((x.af.length : Int) != (y.af.length : Int)) = false := by simp [hn]
  have hle : (x.af.length : Int) ≤ (y.af.length : Int) := by omega
  have e0 : (x.id != y.id) = false := by simpa using h0
  have e1 : (x.us != y.us) = false := by simpa using h1
  have e2 : (x.cl != y.cl) = false := by simpa using h2
  have e3 : ∀ w, (Op.equalIn 10000 30 (.agg #[.int .i64 x.x.a, .int .i64 x.x.b, .int .i64 x.x.c, .bool x.x.p, .bool x.x.q, .bool x.x.r, .bool x.x.tn]) (.agg #[.int .i64 y.x.a, .int .i64 y.x.b, .int .i64 y.x.c, .bool y.x.p, .bool y.x.q, .bool y.x.r, .bool y.x.tn])).run Try.prog w = .ok true w := fun w => by
    have := eq_wants hx hy w
    rw [decide_eq_true h3] at this
    exact this
  have e4 : (x.wa != y.wa) = false := by simpa using h4
  have e5 : (x.pr != y.pr) = false := by simpa using h5
  have e6 : (!(x.he == y.he)) = false := by simpa using h6
  have e7 : (x.st != y.st) = false := by simpa using h7
  have e8 : (x.ca != y.ca) = false := by simpa using h8
  clear hV hn hY hZ hx hy h0 h1 h2 h3 h4 h5 h6 h7 h8
  go_enter Try.func40, Try.ntmps40
  go_wp2_with fail
  clear e0 e1 e2 e3 e4 e5 e6 e7 e8 hn'
  have kx0 : Blk ((w.alloc (.cells #[.int .i64 x.id, .int .i64 x.us, .int .i64 x.cl, .int .i64 x.x.a, .int .i64 x.x.b, .int .i64 x.x.c, .bool x.x.p, .bool x.x.q, .bool x.x.r, .bool x.x.tn, .int .i64 x.wa, .int .i64 x.pr, .bool x.he, .slice Y x.af.length c, .int .u8 x.st, .int .i64 x.ca] 33)).alloc (.cells #[.int .i64 y.id, .int .i64 y.us, .int .i64 y.cl, .int .i64 y.x.a, .int .i64 y.x.b, .int .i64 y.x.c, .bool y.x.p, .bool y.x.q, .bool y.x.r, .bool y.x.tn, .int .i64 y.wa, .int .i64 y.pr, .bool y.he, .slice Z y.af.length d, .int .u8 y.st, .int .i64 y.ca] 33)) w.heap.size 33 #[.int .i64 x.id, .int .i64 x.us, .int .i64 x.cl, .int .i64 x.x.a, .int .i64 x.x.b, .int .i64 x.x.c, .bool x.x.p, .bool x.x.q, .bool x.x.r, .bool x.x.tn, .int .i64 x.wa, .int .i64 x.pr, .bool x.he, .slice Y x.af.length c, .int .u8 x.st, .int .i64 x.ca] := (Blk.new w _ _).alloc _
  have ky0 : Blk ((w.alloc (.cells #[.int .i64 x.id, .int .i64 x.us, .int .i64 x.cl, .int .i64 x.x.a, .int .i64 x.x.b, .int .i64 x.x.c, .bool x.x.p, .bool x.x.q, .bool x.x.r, .bool x.x.tn, .int .i64 x.wa, .int .i64 x.pr, .bool x.he, .slice Y x.af.length c, .int .u8 x.st, .int .i64 x.ca] 33)).alloc (.cells #[.int .i64 y.id, .int .i64 y.us, .int .i64 y.cl, .int .i64 y.x.a, .int .i64 y.x.b, .int .i64 y.x.c, .bool y.x.p, .bool y.x.q, .bool y.x.r, .bool y.x.tn, .int .i64 y.wa, .int .i64 y.pr, .bool y.he, .slice Z y.af.length d, .int .u8 y.st, .int .i64 y.ca] 33)) (w.heap.size + 1) 33 #[.int .i64 y.id, .int .i64 y.us, .int .i64 y.cl, .int .i64 y.x.a, .int .i64 y.x.b, .int .i64 y.x.c, .bool y.x.p, .bool y.x.q, .bool y.x.r, .bool y.x.tn, .int .i64 y.wa, .int .i64 y.pr, .bool y.he, .slice Z y.af.length d, .int .u8 y.st, .int .i64 y.ca] := blk1 w _ _
  have hb0 : Below w.heap.size w ((w.alloc (.cells #[.int .i64 x.id, .int .i64 x.us, .int .i64 x.cl, .int .i64 x.x.a, .int .i64 x.x.b, .int .i64 x.x.c, .bool x.x.p, .bool x.x.q, .bool x.x.r, .bool x.x.tn, .int .i64 x.wa, .int .i64 x.pr, .bool x.he, .slice Y x.af.length c, .int .u8 x.st, .int .i64 x.ca] 33)).alloc (.cells #[.int .i64 y.id, .int .i64 y.us, .int .i64 y.cl, .int .i64 y.x.a, .int .i64 y.x.b, .int .i64 y.x.c, .bool y.x.p, .bool y.x.q, .bool y.x.r, .bool y.x.tn, .int .i64 y.wa, .int .i64 y.pr, .bool y.he, .slice Z y.af.length d, .int .u8 y.st, .int .i64 y.ca] 33)) := below_alloc (below_alloc (Below.refl _ _))
  generalize ((w.alloc (.cells #[.int .i64 x.id, .int .i64 x.us, .int .i64 x.cl, .int .i64 x.x.a, .int .i64 x.x.b, .int .i64 x.x.c, .bool x.x.p, .bool x.x.q, .bool x.x.r, .bool x.x.tn, .int .i64 x.wa, .int .i64 x.pr, .bool x.he, .slice Y x.af.length c, .int .u8 x.st, .int .i64 x.ca] 33)).alloc (.cells #[.int .i64 y.id, .int .i64 y.us, .int .i64 y.cl, .int .i64 y.x.a, .int .i64 y.x.b, .int .i64 y.x.c, .bool y.x.p, .bool y.x.q, .bool y.x.r, .bool y.x.tn, .int .i64 y.wa, .int .i64 y.pr, .bool y.he, .slice Z y.af.length d, .int .u8 y.st, .int .i64 y.ca] 33)) = w0 at *
  have H0 := Lib.hid (And.intro hb0 (And.intro kx0 ky0))
  clear hb0 kx0 ky0
  go_loopw [5] (fun i wr => ∃ k : Nat, k ≤ x.af.length ∧ i = .int .i64 k ∧ Hid (∀ (j : Nat) (a b : Int), j < k → x.af[j]? = some a → y.af[j]? = some b → a = b) ∧ Hid (Below w.heap.size w wr ∧ Blk wr w.heap.size 33 #[.int .i64 x.id, .int .i64 x.us, .int .i64 x.cl, .int .i64 x.x.a, .int .i64 x.x.b, .int .i64 x.x.c, .bool x.x.p, .bool x.x.q, .bool x.x.r, .bool x.x.tn, .int .i64 x.wa, .int .i64 x.pr, .bool x.he, .slice Y x.af.length c, .int .u8 x.st, .int .i64 x.ca] ∧ Blk wr (w.heap.size + 1) 33 #[.int .i64 y.id, .int .i64 y.us, .int .i64 y.cl, .int .i64 y.x.a, .int .i64 y.x.b, .int .i64 y.x.c, .bool y.x.p, .bool y.x.q, .bool y.x.r, .bool y.x.tn, .int .i64 y.wa, .int .i64 y.pr, .bool y.he, .slice Z y.af.length d, .int .u8 y.st, .int .i64 y.ca]))
    (fun i _ => x.af.length - (intOf i).toNat)
  case atStart => exact ⟨0, Nat.zero_le _, rfl, (fun j a b h => by omega), H0.out⟩
  case round =>
    obtain ⟨k, hk, rfl, hP, hB⟩ := hrel
    clear H0
    have x13 : wr.cell? ⟨w.heap.size, 13, none⟩ = some (.slice Y x.af.length c) := hB.out.2.1.cell 13
    have y13 : wr.cell? ⟨w.heap.size + 1, 13, none⟩ = some (.slice Z y.af.length d) := hB.out.2.2.cell 13
    by_cases hlt : k < x.af.length
    · have hg : x.af[k]? = some x.af[k] := List.getElem?_eq_getElem hlt
      generalize x.af[k] = u at hg
      have hkm : k < y.af.length := by have := HN.out; omega
      have hg2 : y.af[k]? = some y.af[k] := List.getElem?_eq_getElem hkm
      generalize y.af[k] = v at hg2
      have hki : (k : Int) < (x.af.length : Int) := by omega
      have hki2 : (k : Int) < (y.af.length : Int) := by omega
      have hki0 : (0 : Int) ≤ (k : Int) := by omega
      obtain ⟨b, o, rfl, hb, a0⟩ := HY.out.up hB.out.1 k u hg
      obtain ⟨b', o', rfl, hb', c0⟩ := HZ.out.up hB.out.1 k v hg2
      have HG := Lib.hid (And.intro hg hg2)
      clear hg hg2
      by_cases he : u = v
      · have he' : (u != v) = false := by simp [he]
        have HE := Lib.hid he
        clear he
        go_wp2_with fail
        go_quiet (fail)
        go_wp2_with fail
        go_roundw
        case rel => exact ⟨k + 1, by omega, by go_num, (fun j p q hj hu hv => by
            rcases Nat.lt_or_ge j k with h | h
            · exact hP.out j p q h hu hv
            · obtain rfl : j = k := by omega
              rw [HG.out.1] at hu; rw [HG.out.2] at hv; cases hu; cases hv; exact HE.out), below_drewN hB.out.1 _, hB.out.2.1.drewN _, hB.out.2.2.drewN _⟩
        case measure => simp [intOf]; omega
      · have he' : (u != v) = true := by simp [he]
        have ev : V = false := by rw [HV.out]; exact decide_eq_false (list_ne HG.out.1 HG.out.2 he)
        have EV := Lib.hid ev
        clear he ev
        go_wp2_with fail
        go_quiet (fail)
        go_wp2_with fail
        go_ret
        rw [EV.out]
        exact ⟨rfl, below_drewN hB.out.1 _⟩
    · obtain rfl : k = x.af.length := by omega
      have ev : V = true := by rw [HV.out]; exact decide_eq_true (list_eq HN.out hP.out)
      have EV := Lib.hid ev
      clear ev
      go_wp2_with fail
      go_ret
      rw [EV.out]
      exact ⟨rfl, hB.out.1⟩
theorem rsameOne (x y : JV) (Y Z : Option Addr) (c d : Nat) (hx : WWf x.x) (hy : WWf y.x) (hl : x.af.length ≤ 1000) (hm : y.af.length ≤ 1000) (w : World) (hY : IntsAt w Y x.af) (hZ : IntsAt w Z y.af) :
    Calls Try.prog 40 #[.agg (x.arr Y c), .agg (y.arr Z d)] w fun e w' => e = .returned (.bool (decide (x = y))) ∧ Below w.heap.size w w' := by
  by_cases hn : x.af.length = y.af.length
  rotate_left
  · rw [decide_eq_false fun e => hn (by rw [e])]
    exact rs_len x y Y Z c d hx hy hl hm hn w hY hZ
  by_cases h0 : x.id = y.id
  rotate_left
  · rw [decide_eq_false fun e => h0 (by rw [e])]
    exact rs_0 x y Y Z c d hx hy hl hm hn h0 w hY hZ
  by_cases h1 : x.us = y.us
  rotate_left
  · rw [decide_eq_false fun e => h1 (by rw [e])]
    exact rs_1 x y Y Z c d hx hy hl hm hn h0 h1 w hY hZ
  by_cases h2 : x.cl = y.cl
  rotate_left
  · rw [decide_eq_false fun e => h2 (by rw [e])]
    exact rs_2 x y Y Z c d hx hy hl hm hn h0 h1 h2 w hY hZ
  by_cases h3 : x.x = y.x
  rotate_left
  · rw [decide_eq_false fun e => h3 (by rw [e])]
    exact rs_3 x y Y Z c d hx hy hl hm hn h0 h1 h2 h3 w hY hZ
  by_cases h4 : x.wa = y.wa
  rotate_left
  · rw [decide_eq_false fun e => h4 (by rw [e])]
    exact rs_4 x y Y Z c d hx hy hl hm hn h0 h1 h2 h3 h4 w hY hZ
  by_cases h5 : x.pr = y.pr
  rotate_left
  · rw [decide_eq_false fun e => h5 (by rw [e])]
    exact rs_5 x y Y Z c d hx hy hl hm hn h0 h1 h2 h3 h4 h5 w hY hZ
  by_cases h6 : x.he = y.he
  rotate_left
  · rw [decide_eq_false fun e => h6 (by rw [e])]
    exact rs_6 x y Y Z c d hx hy hl hm hn h0 h1 h2 h3 h4 h5 h6 w hY hZ
  by_cases h7 : x.st = y.st
  rotate_left
  · rw [decide_eq_false fun e => h7 (by rw [e])]
    exact rs_7 x y Y Z c d hx hy hl hm hn h0 h1 h2 h3 h4 h5 h6 h7 w hY hZ
  by_cases h8 : x.ca = y.ca
  rotate_left
  · rw [decide_eq_false fun e => h8 (by rw [e])]
    exact rs_8 x y Y Z c d hx hy hl hm hn h0 h1 h2 h3 h4 h5 h6 h7 h8 w hY hZ
  have e : decide (x = y) = decide (x.af = y.af) := by
    rw [Bool.eq_iff_iff, decide_eq_true_eq, decide_eq_true_eq, jv_eq]
    simp only [h0, h1, h2, h3, h4, h5, h6, h7, h8, true_and]
  rw [e]
  exact rs_all x y Y Z c d hx hy hl hm hn h0 h1 h2 h3 h4 h5 h6 h7 h8 w hY hZ
set_option maxRecDepth 100000 in
set_option maxHeartbeats 8000000 in
theorem rSame (X Y : Option Addr) (c d : Nat) (l m : List JV) (hl : l.length ≤ 1000) (hm : m.length ≤ 1000) (hla : ∀ j ∈ l, WWf j.x ∧ j.af.length ≤ 1000) (hma : ∀ j ∈ m, WWf j.x ∧ j.af.length ≤ 1000) (w : World) (hX : JobsAt w X l) (hY : JobsAt w Y m) :
    Calls Try.prog 18 #[.slice X l.length c, .slice Y m.length d] w fun e w' => e = .returned (.bool (decide (l = m))) ∧ Below w.heap.size w w' := by
  obtain ⟨V, hV⟩ : ∃ V, V = decide (l = m) := ⟨_, rfl⟩
  rw [← hV]
  have HV := Lib.hid hV
  have HX := Lib.hid hX
  have HY := Lib.hid hY
  have HA := Lib.hid (And.intro hla hma)
  clear hV hX hY hla hma
  by_cases hn : l.length = m.length
  · have hn' : ((l.length : Int) != (m.length : Int)) = false := by simp [hn]
    have HN := Lib.hid hn
    clear hn
    go_enter Try.func18, Try.ntmps18
    go_wp2_with fail
    clear hn'
    go_loopw [5] (fun i wr => ∃ k : Nat, k ≤ l.length ∧ i = .int .i64 k ∧ Hid (∀ (j : Nat) (x y : JV), j < k → l[j]? = some x → m[j]? = some y → x = y) ∧ Hid (Below w.heap.size w wr))
      (fun i _ => l.length - (intOf i).toNat)
    case atStart => exact ⟨0, Nat.zero_le _, rfl, (fun j x y h => by omega), Below.refl _ _⟩
    case round =>
      obtain ⟨k, hk, rfl, hP, hB⟩ := hrel
      by_cases hlt : k < l.length
      · have hg : l[k]? = some l[k] := List.getElem?_eq_getElem hlt
        generalize l[k] = x at hg
        have hkm : k < m.length := by have := HN.out; omega
        have hg2 : m[k]? = some m[k] := List.getElem?_eq_getElem hkm
        generalize m[k] = y at hg2
        have hki : (k : Int) < (l.length : Int) := by omega
        have hki2 : (k : Int) < (m.length : Int) := by omega
        have hki0 : (0 : Int) ≤ (k : Int) := by omega
        obtain ⟨b, o, Yx, cx, rfl, hb, hJ, hI⟩ := HX.out.up hB.out k x hg
        obtain ⟨b', o', Yy, cy, rfl, hb', hJ', hI'⟩ := HY.out.up hB.out k y hg2
        have HJX := Lib.hid hJ.range
        have HJY := Lib.hid hJ'.range
        have HI := Lib.hid (And.intro hI hI')
        have HG := Lib.hid (And.intro hg hg2)
        have hxo := HA.out.1 x (List.mem_of_getElem? hg)
        have hyo := HA.out.2 y (List.mem_of_getElem? hg2)
        have HS := Lib.hid (fun w hY hZ => rsameOne x y Yx Yy cx cy hxo.1 hyo.1 hxo.2 hyo.2 w hY hZ)
        unfold JV.arr at HS
        clear hg hg2 hI hI' hxo hyo hJ hJ'
        go_wp2_with fail
        by_cases he : x = y
        · have he' : decide (x = y) = true := decide_eq_true he
          have HE := Lib.hid he
          rw [he'] at HS
          clear he he'
          refine wp_region_quiet_below (by kernel_rfl) (by kernel_rfl) ?_
          repeat (first | (refine quiet_load_mid (by rfl) 33 _ rfl _ _ rfl _ HJX.out _ Try.underlying33 rfl (by kernel_rfl) ?_; simp only [Act.put, List.setIfInBounds_toArray, List.set_cons_zero, List.set_cons_succ]) | (refine quiet_load_mid (by rfl) 33 _ rfl _ _ rfl _ HJY.out _ Try.underlying33 rfl (by kernel_rfl) ?_; simp only [Act.put, List.setIfInBounds_toArray, List.set_cons_zero, List.set_cons_succ]) | go_big_quiet_step (first | fail | exact Calls.regrown_of (HS.out _ (HI.out.1.up (below_regrown _ _ _)) (HI.out.2.up (below_regrown _ _ _)))))
          refine wpQuiet_nil ?_
          intro _ hw'
          obtain ⟨⟨dq, osq⟩, hw''⟩ := hw'
          subst hw''
          have hBq := below_regrown wr dq osq
          generalize grow (redrawn wr dq) osq = w2 at *
          have HB2 := Lib.hid (below_up hB.out hBq)
          clear hBq HS HJX HJY
          go_wp2_with fail
          go_roundw
          case rel => exact ⟨k + 1, by omega, by go_num, (fun j u v hj hu hv => by
              rcases Nat.lt_or_ge j k with h | h
              · exact hP.out j u v h hu hv
              · obtain rfl : j = k := by omega
                rw [HG.out.1] at hu; rw [HG.out.2] at hv; cases hu; cases hv; exact HE.out), HB2.out⟩
          case measure => simp [intOf]; omega
        · have he' : decide (x = y) = false := decide_eq_false he
          have ev : V = false := by rw [HV.out]; exact decide_eq_false (list_ne HG.out.1 HG.out.2 he)
          have EV := Lib.hid ev
          rw [he'] at HS
          clear he ev he'
          refine wp_region_quiet_below (by kernel_rfl) (by kernel_rfl) ?_
          repeat (first | (refine quiet_load_mid (by rfl) 33 _ rfl _ _ rfl _ HJX.out _ Try.underlying33 rfl (by kernel_rfl) ?_; simp only [Act.put, List.setIfInBounds_toArray, List.set_cons_zero, List.set_cons_succ]) | (refine quiet_load_mid (by rfl) 33 _ rfl _ _ rfl _ HJY.out _ Try.underlying33 rfl (by kernel_rfl) ?_; simp only [Act.put, List.setIfInBounds_toArray, List.set_cons_zero, List.set_cons_succ]) | go_big_quiet_step (first | fail | exact Calls.regrown_of (HS.out _ (HI.out.1.up (below_regrown _ _ _)) (HI.out.2.up (below_regrown _ _ _)))))
          refine wpQuiet_nil ?_
          intro _ hw'
          obtain ⟨⟨dq, osq⟩, hw''⟩ := hw'
          subst hw''
          have hBq := below_regrown wr dq osq
          generalize grow (redrawn wr dq) osq = w2 at *
          have HB2 := Lib.hid (below_up hB.out hBq)
          clear hBq HS HJX HJY
          go_wp2_with fail
          go_ret
          rw [EV.out]
          exact ⟨rfl, HB2.out⟩
      · obtain rfl : k = l.length := by omega
        have ev : V = true := by rw [HV.out]; exact decide_eq_true (list_eq HN.out hP.out)
        have EV := Lib.hid ev
        clear ev
        go_wp2_with fail
        go_ret
        rw [EV.out]
        exact ⟨rfl, hB.out⟩
  · have hn' : ((l.length : Int) != (m.length : Int)) = true := by simp; omega
    have ev : V = false := by rw [HV.out]; exact decide_eq_false fun e => hn (by rw [e])
    have EV := Lib.hid ev
    clear hn ev
    go_enter Try.func18, Try.ntmps18
    go_wp2_with fail
    go_ret
    rw [EV.out]
    exact ⟨rfl, Below.refl _ _⟩
/-- Jobs are more than statements go through. -/
def greatB (l : List JV) : Bool := (l.take 100).any (fun j => decide (100 < j.af.length)) || decide (100 < l.length)
theorem great_not {l : List JV} (h : greatB l = false) : l.length ≤ 100 ∧ ∀ j ∈ l, j.af.length ≤ 100 := by
  unfold greatB at h
  rw [Bool.or_eq_false_iff] at h
  have h2 : l.length ≤ 100 := by simpa using h.2
  refine ⟨h2, fun j hj => ?_⟩
  rw [List.take_of_length_le h2, List.any_eq_false] at h
  simpa using h.1 j hj
theorem great_any (X : Option Addr) (cap : Nat) (l : List JV) (hl : l.length ≤ 4611686018427387904) (hla : ∀ j ∈ l, j.af.length ≤ 4611686018427387904) (w : World) (hX : JobsAt w X l) :
    Calls Try.prog 8 #[.slice X l.length cap] w fun e w' => e = .returned (.bool (greatB l)) ∧ Below w.heap.size w w' := by
  obtain ⟨V, hV⟩ : ∃ V, V = greatB l := ⟨_, rfl⟩
  rw [← hV]
  have HV := Lib.hid hV
  have HX := Lib.hid hX
  have HLA := Lib.hid hla
  clear hV hX hla
  have hfin : (∀ (i : Nat) (x : JV), i < 100 → l[i]? = some x → x.af.length ≤ 100) → V = decide (100 < l.length) := fun hP => by
    rw [HV.out]
    unfold greatB
    rw [show (l.take 100).any (fun j => decide (100 < j.af.length)) = false from by
      rw [List.any_eq_false]
      intro x hx
      obtain ⟨i, hi, e⟩ := List.mem_iff_getElem.1 hx
      have hi' : i < 100 ∧ i < l.length := by simp at hi; omega
      have := hP i x hi'.1 (by rw [← e, List.getElem_take]; exact List.getElem?_eq_getElem hi'.2)
      simpa using this]
    rfl
  have HF := Lib.hid hfin
  clear hfin
  go_enter Try.func8, Try.ntmps8
  go_wp2_with fail
  go_loopw [3] (fun i wr => ∃ k : Nat, k ≤ l.length ∧ k ≤ 100 ∧ i = .int .i64 k ∧ Hid (∀ (i : Nat) (x : JV), i < k → l[i]? = some x → x.af.length ≤ 100) ∧ Hid (Below w.heap.size w wr))
    (fun i _ => l.length - (intOf i).toNat)
  case atStart => exact ⟨0, Nat.zero_le _, by omega, rfl, (fun i x h => by omega), Below.refl _ _⟩
  case round =>
    obtain ⟨k, hk, hk2, rfl, hP, hB⟩ := hrel
    by_cases hlt : k < l.length
    · have hki : (k : Int) < (l.length : Int) := by omega
      have hki0 : (0 : Int) ≤ (k : Int) := by omega
      by_cases h100 : k < 100
      · have hk3 : (k : Int) < 100 := by omega
        have hg : l[k]? = some l[k] := List.getElem?_eq_getElem hlt
        generalize l[k] = x at hg
        have haf := HLA.out x (List.mem_of_getElem? hg)
        obtain ⟨b, o, Y, c, rfl, hb, hJ, _⟩ := HX.out.up hB.out k x hg
        have y13 : wr.cell? ⟨b, o + k * 16 + 13, none⟩ = some (.slice Y x.af.length c) := hJ.2.2.2.2.2.2.2.2.2.2.2.2.2.1
        have HG := Lib.hid hg
        clear hg hJ
        by_cases hm : x.af.length ≤ 100
        · have hm' : ¬ (100 : Int) < (x.af.length : Int) := by omega
          go_wp2_with fail
          go_roundw
          case rel => exact ⟨k + 1, by omega, by omega, by go_num, (fun i z hi hz => by
              rcases Nat.lt_or_ge i k with h | h
              · exact hP.out i z h hz
              · obtain rfl : i = k := by omega
                rw [HG.out] at hz; cases hz; exact hm), hB.out⟩
          case measure => simp [intOf]; omega
        · have hm' : (100 : Int) < (x.af.length : Int) := by omega
          have ev : V = true := by
            rw [HV.out]
            unfold greatB
            rw [show (l.take 100).any (fun j => decide (100 < j.af.length)) = true from List.any_eq_true.2 ⟨x, by
              have : (l.take 100)[k]? = some x := by rw [List.getElem?_take_of_lt h100]; exact HG.out
              exact List.mem_of_getElem? this, decide_eq_true (by omega)⟩]
            rfl
          have EV := Lib.hid ev
          clear ev
          go_wp2_with fail
          go_ret
          rw [EV.out]
          exact ⟨rfl, hB.out⟩
      · have hk3 : ¬ (k : Int) < 100 := by omega
        have hl1 : (100 : Int) < (l.length : Int) := by omega
        have EV := Lib.hid (HF.out fun i x hi hx => hP.out i x (by omega) hx)
        go_wp2_with fail
        go_ret
        rw [EV.out, decide_eq_true (by omega)]
        exact ⟨rfl, hB.out⟩
    · have hki : ¬ (k : Int) < (l.length : Int) := by omega
      have hl1 : ¬ (100 : Int) < (l.length : Int) := by omega
      have EV := Lib.hid (HF.out fun i x hi hx => hP.out i x (by have := (List.getElem?_eq_some_iff.1 hx).1; omega) hx)
      go_wp2_with fail
      go_ret
      rw [EV.out, decide_eq_false (by omega)]
      exact ⟨rfl, hB.out⟩
end Go.Proofs.Ytaldgmmmcbikgaa.JobRSame
