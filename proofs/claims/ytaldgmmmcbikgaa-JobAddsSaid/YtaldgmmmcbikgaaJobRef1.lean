/- The reference's plain and after. -/
import Derived.BigRegion
import Derived.BigQuiet
import Derived.Lib.QuietBelow
import Derived.Deep.QuietTactic
import Derived.Deep.DeepCutAuto
import Derived.Test.YtaldgmmmcbikgaaJobAfter
namespace Go.Proofs.Ytaldgmmmcbikgaa.JobRef1
open Go.Sort (grow)
open Go.RowKit Mem PosMath PartMath TurnMath JobMath JobIndex JobAfter
set_option linter.unusedVariables false
set_option linter.unusedSimpArgs false

set_option maxRecDepth 100000 in
set_option maxHeartbeats 2000000 in
theorem rp_0 (d0 d1 d2 bo fr tr ag : Int) (K : Option Addr) (kc : Nat) (ks : List Cls) (j : JV) (Y : Option Addr) (cj : Nat) (hl : ks.length ≤ 4611686018427387904)  (h0 : j.id < 1) (w : World) :
    Calls Try.prog 56 #[.agg #[.int .i64 d0, .int .i64 d1, .int .i64 d2, .int .i64 bo, .int .i64 fr, .int .i64 tr, .int .i64 ag, .slice K ks.length kc], .agg #[.int .i64 j.id, .int .i64 j.us, .int .i64 j.cl, .int .i64 j.x.a, .int .i64 j.x.b, .int .i64 j.x.c, .bool j.x.p, .bool j.x.q, .bool j.x.r, .bool j.x.tn, .int .i64 j.wa, .int .i64 j.pr, .bool j.he, .slice Y j.af.length cj, .int .u8 j.st, .int .i64 j.ca]] w fun e w' => e = .returned (.bool false) ∧ Below w.heap.size w w' := by
  go_enter Try.func56, Try.ntmps56
  go_wp2_with fail
  go_ret
  exact ⟨rfl, (below_alloc (below_alloc (Below.refl _ _)))⟩
set_option maxRecDepth 100000 in
set_option maxHeartbeats 2000000 in
theorem rp_1 (d0 d1 d2 bo fr tr ag : Int) (K : Option Addr) (kc : Nat) (ks : List Cls) (j : JV) (Y : Option Addr) (cj : Nat) (hl : ks.length ≤ 4611686018427387904) (h0 : ¬ j.id < 1) (h1 : 2147483647 < j.id) (w : World) :
    Calls Try.prog 56 #[.agg #[.int .i64 d0, .int .i64 d1, .int .i64 d2, .int .i64 bo, .int .i64 fr, .int .i64 tr, .int .i64 ag, .slice K ks.length kc], .agg #[.int .i64 j.id, .int .i64 j.us, .int .i64 j.cl, .int .i64 j.x.a, .int .i64 j.x.b, .int .i64 j.x.c, .bool j.x.p, .bool j.x.q, .bool j.x.r, .bool j.x.tn, .int .i64 j.wa, .int .i64 j.pr, .bool j.he, .slice Y j.af.length cj, .int .u8 j.st, .int .i64 j.ca]] w fun e w' => e = .returned (.bool false) ∧ Below w.heap.size w w' := by
  go_enter Try.func56, Try.ntmps56
  go_wp2_with fail
  go_ret
  exact ⟨rfl, (below_alloc (below_alloc (Below.refl _ _)))⟩
set_option maxRecDepth 100000 in
set_option maxHeartbeats 2000000 in
theorem rp_2 (d0 d1 d2 bo fr tr ag : Int) (K : Option Addr) (kc : Nat) (ks : List Cls) (j : JV) (Y : Option Addr) (cj : Nat) (hl : ks.length ≤ 4611686018427387904) (h0 : ¬ j.id < 1) (h1 : ¬ 2147483647 < j.id) (h2 : j.us < 1) (w : World) :
    Calls Try.prog 56 #[.agg #[.int .i64 d0, .int .i64 d1, .int .i64 d2, .int .i64 bo, .int .i64 fr, .int .i64 tr, .int .i64 ag, .slice K ks.length kc], .agg #[.int .i64 j.id, .int .i64 j.us, .int .i64 j.cl, .int .i64 j.x.a, .int .i64 j.x.b, .int .i64 j.x.c, .bool j.x.p, .bool j.x.q, .bool j.x.r, .bool j.x.tn, .int .i64 j.wa, .int .i64 j.pr, .bool j.he, .slice Y j.af.length cj, .int .u8 j.st, .int .i64 j.ca]] w fun e w' => e = .returned (.bool false) ∧ Below w.heap.size w w' := by
  go_enter Try.func56, Try.ntmps56
  go_wp2_with fail
  go_ret
  exact ⟨rfl, (below_alloc (below_alloc (Below.refl _ _)))⟩
set_option maxRecDepth 100000 in
set_option maxHeartbeats 2000000 in
theorem rp_3 (d0 d1 d2 bo fr tr ag : Int) (K : Option Addr) (kc : Nat) (ks : List Cls) (j : JV) (Y : Option Addr) (cj : Nat) (hl : ks.length ≤ 4611686018427387904) (h0 : ¬ j.id < 1) (h1 : ¬ 2147483647 < j.id) (h2 : ¬ j.us < 1) (h3 : 255 < j.us) (w : World) :
    Calls Try.prog 56 #[.agg #[.int .i64 d0, .int .i64 d1, .int .i64 d2, .int .i64 bo, .int .i64 fr, .int .i64 tr, .int .i64 ag, .slice K ks.length kc], .agg #[.int .i64 j.id, .int .i64 j.us, .int .i64 j.cl, .int .i64 j.x.a, .int .i64 j.x.b, .int .i64 j.x.c, .bool j.x.p, .bool j.x.q, .bool j.x.r, .bool j.x.tn, .int .i64 j.wa, .int .i64 j.pr, .bool j.he, .slice Y j.af.length cj, .int .u8 j.st, .int .i64 j.ca]] w fun e w' => e = .returned (.bool false) ∧ Below w.heap.size w w' := by
  go_enter Try.func56, Try.ntmps56
  go_wp2_with fail
  go_ret
  exact ⟨rfl, (below_alloc (below_alloc (Below.refl _ _)))⟩
set_option maxRecDepth 100000 in
set_option maxHeartbeats 2000000 in
theorem rp_4 (d0 d1 d2 bo fr tr ag : Int) (K : Option Addr) (kc : Nat) (ks : List Cls) (j : JV) (Y : Option Addr) (cj : Nat) (hl : ks.length ≤ 4611686018427387904) (h0 : ¬ j.id < 1) (h1 : ¬ 2147483647 < j.id) (h2 : ¬ j.us < 1) (h3 : ¬ 255 < j.us) (h4 : j.cl < 0) (w : World) :
    Calls Try.prog 56 #[.agg #[.int .i64 d0, .int .i64 d1, .int .i64 d2, .int .i64 bo, .int .i64 fr, .int .i64 tr, .int .i64 ag, .slice K ks.length kc], .agg #[.int .i64 j.id, .int .i64 j.us, .int .i64 j.cl, .int .i64 j.x.a, .int .i64 j.x.b, .int .i64 j.x.c, .bool j.x.p, .bool j.x.q, .bool j.x.r, .bool j.x.tn, .int .i64 j.wa, .int .i64 j.pr, .bool j.he, .slice Y j.af.length cj, .int .u8 j.st, .int .i64 j.ca]] w fun e w' => e = .returned (.bool false) ∧ Below w.heap.size w w' := by
  go_enter Try.func56, Try.ntmps56
  go_wp2_with fail
  go_ret
  exact ⟨rfl, (below_alloc (below_alloc (Below.refl _ _)))⟩
set_option maxRecDepth 100000 in
set_option maxHeartbeats 2000000 in
theorem rp_5 (d0 d1 d2 bo fr tr ag : Int) (K : Option Addr) (kc : Nat) (ks : List Cls) (j : JV) (Y : Option Addr) (cj : Nat) (hl : ks.length ≤ 4611686018427387904) (h0 : ¬ j.id < 1) (h1 : ¬ 2147483647 < j.id) (h2 : ¬ j.us < 1) (h3 : ¬ 255 < j.us) (h4 : ¬ j.cl < 0) (h5 : (ks.length : Int) ≤ j.cl) (w : World) :
    Calls Try.prog 56 #[.agg #[.int .i64 d0, .int .i64 d1, .int .i64 d2, .int .i64 bo, .int .i64 fr, .int .i64 tr, .int .i64 ag, .slice K ks.length kc], .agg #[.int .i64 j.id, .int .i64 j.us, .int .i64 j.cl, .int .i64 j.x.a, .int .i64 j.x.b, .int .i64 j.x.c, .bool j.x.p, .bool j.x.q, .bool j.x.r, .bool j.x.tn, .int .i64 j.wa, .int .i64 j.pr, .bool j.he, .slice Y j.af.length cj, .int .u8 j.st, .int .i64 j.ca]] w fun e w' => e = .returned (.bool false) ∧ Below w.heap.size w w' := by
  go_enter Try.func56, Try.ntmps56
  go_wp2_with fail
  go_ret
  exact ⟨rfl, (below_alloc (below_alloc (Below.refl _ _)))⟩
set_option maxRecDepth 100000 in
set_option maxHeartbeats 2000000 in
theorem rp_6 (d0 d1 d2 bo fr tr ag : Int) (K : Option Addr) (kc : Nat) (ks : List Cls) (j : JV) (Y : Option Addr) (cj : Nat) (hl : ks.length ≤ 4611686018427387904) (h0 : ¬ j.id < 1) (h1 : ¬ 2147483647 < j.id) (h2 : ¬ j.us < 1) (h3 : ¬ 255 < j.us) (h4 : ¬ j.cl < 0) (h5 : ¬ (ks.length : Int) ≤ j.cl) (h6 : j.wa < 1) (w : World) :
    Calls Try.prog 56 #[.agg #[.int .i64 d0, .int .i64 d1, .int .i64 d2, .int .i64 bo, .int .i64 fr, .int .i64 tr, .int .i64 ag, .slice K ks.length kc], .agg #[.int .i64 j.id, .int .i64 j.us, .int .i64 j.cl, .int .i64 j.x.a, .int .i64 j.x.b, .int .i64 j.x.c, .bool j.x.p, .bool j.x.q, .bool j.x.r, .bool j.x.tn, .int .i64 j.wa, .int .i64 j.pr, .bool j.he, .slice Y j.af.length cj, .int .u8 j.st, .int .i64 j.ca]] w fun e w' => e = .returned (.bool false) ∧ Below w.heap.size w w' := by
  go_enter Try.func56, Try.ntmps56
  go_wp2_with fail
  go_ret
  exact ⟨rfl, (below_alloc (below_alloc (Below.refl _ _)))⟩
set_option maxRecDepth 100000 in
set_option maxHeartbeats 2000000 in
theorem rp_7 (d0 d1 d2 bo fr tr ag : Int) (K : Option Addr) (kc : Nat) (ks : List Cls) (j : JV) (Y : Option Addr) (cj : Nat) (hl : ks.length ≤ 4611686018427387904) (h0 : ¬ j.id < 1) (h1 : ¬ 2147483647 < j.id) (h2 : ¬ j.us < 1) (h3 : ¬ 255 < j.us) (h4 : ¬ j.cl < 0) (h5 : ¬ (ks.length : Int) ≤ j.cl) (h6 : ¬ j.wa < 1) (h7 : 1048576 < j.wa) (w : World) :
    Calls Try.prog 56 #[.agg #[.int .i64 d0, .int .i64 d1, .int .i64 d2, .int .i64 bo, .int .i64 fr, .int .i64 tr, .int .i64 ag, .slice K ks.length kc], .agg #[.int .i64 j.id, .int .i64 j.us, .int .i64 j.cl, .int .i64 j.x.a, .int .i64 j.x.b, .int .i64 j.x.c, .bool j.x.p, .bool j.x.q, .bool j.x.r, .bool j.x.tn, .int .i64 j.wa, .int .i64 j.pr, .bool j.he, .slice Y j.af.length cj, .int .u8 j.st, .int .i64 j.ca]] w fun e w' => e = .returned (.bool false) ∧ Below w.heap.size w w' := by
  go_enter Try.func56, Try.ntmps56
  go_wp2_with fail
  go_ret
  exact ⟨rfl, (below_alloc (below_alloc (Below.refl _ _)))⟩
set_option maxRecDepth 100000 in
set_option maxHeartbeats 2000000 in
theorem rp_8 (d0 d1 d2 bo fr tr ag : Int) (K : Option Addr) (kc : Nat) (ks : List Cls) (j : JV) (Y : Option Addr) (cj : Nat) (hl : ks.length ≤ 4611686018427387904) (h0 : ¬ j.id < 1) (h1 : ¬ 2147483647 < j.id) (h2 : ¬ j.us < 1) (h3 : ¬ 255 < j.us) (h4 : ¬ j.cl < 0) (h5 : ¬ (ks.length : Int) ≤ j.cl) (h6 : ¬ j.wa < 1) (h7 : ¬ 1048576 < j.wa) (h8 : j.pr < -1000) (w : World) :
    Calls Try.prog 56 #[.agg #[.int .i64 d0, .int .i64 d1, .int .i64 d2, .int .i64 bo, .int .i64 fr, .int .i64 tr, .int .i64 ag, .slice K ks.length kc], .agg #[.int .i64 j.id, .int .i64 j.us, .int .i64 j.cl, .int .i64 j.x.a, .int .i64 j.x.b, .int .i64 j.x.c, .bool j.x.p, .bool j.x.q, .bool j.x.r, .bool j.x.tn, .int .i64 j.wa, .int .i64 j.pr, .bool j.he, .slice Y j.af.length cj, .int .u8 j.st, .int .i64 j.ca]] w fun e w' => e = .returned (.bool false) ∧ Below w.heap.size w w' := by
  go_enter Try.func56, Try.ntmps56
  go_wp2_with fail
  go_ret
  exact ⟨rfl, (below_alloc (below_alloc (Below.refl _ _)))⟩
set_option maxRecDepth 100000 in
set_option maxHeartbeats 2000000 in
theorem rp_9 (d0 d1 d2 bo fr tr ag : Int) (K : Option Addr) (kc : Nat) (ks : List Cls) (j : JV) (Y : Option Addr) (cj : Nat) (hl : ks.length ≤ 4611686018427387904) (h0 : ¬ j.id < 1) (h1 : ¬ 2147483647 < j.id) (h2 : ¬ j.us < 1) (h3 : ¬ 255 < j.us) (h4 : ¬ j.cl < 0) (h5 : ¬ (ks.length : Int) ≤ j.cl) (h6 : ¬ j.wa < 1) (h7 : ¬ 1048576 < j.wa) (h8 : ¬ j.pr < -1000) (h9 : 1000 < j.pr) (w : World) :
    Calls Try.prog 56 #[.agg #[.int .i64 d0, .int .i64 d1, .int .i64 d2, .int .i64 bo, .int .i64 fr, .int .i64 tr, .int .i64 ag, .slice K ks.length kc], .agg #[.int .i64 j.id, .int .i64 j.us, .int .i64 j.cl, .int .i64 j.x.a, .int .i64 j.x.b, .int .i64 j.x.c, .bool j.x.p, .bool j.x.q, .bool j.x.r, .bool j.x.tn, .int .i64 j.wa, .int .i64 j.pr, .bool j.he, .slice Y j.af.length cj, .int .u8 j.st, .int .i64 j.ca]] w fun e w' => e = .returned (.bool false) ∧ Below w.heap.size w w' := by
  go_enter Try.func56, Try.ntmps56
  go_wp2_with fail
  go_ret
  exact ⟨rfl, (below_alloc (below_alloc (Below.refl _ _)))⟩
set_option maxRecDepth 100000 in
set_option maxHeartbeats 2000000 in
theorem rp_10 (d0 d1 d2 bo fr tr ag : Int) (K : Option Addr) (kc : Nat) (ks : List Cls) (j : JV) (Y : Option Addr) (cj : Nat) (hl : ks.length ≤ 4611686018427387904) (h0 : ¬ j.id < 1) (h1 : ¬ 2147483647 < j.id) (h2 : ¬ j.us < 1) (h3 : ¬ 255 < j.us) (h4 : ¬ j.cl < 0) (h5 : ¬ (ks.length : Int) ≤ j.cl) (h6 : ¬ j.wa < 1) (h7 : ¬ 1048576 < j.wa) (h8 : ¬ j.pr < -1000) (h9 : ¬ 1000 < j.pr) (h10 : j.ca < 0) (w : World) :
    Calls Try.prog 56 #[.agg #[.int .i64 d0, .int .i64 d1, .int .i64 d2, .int .i64 bo, .int .i64 fr, .int .i64 tr, .int .i64 ag, .slice K ks.length kc], .agg #[.int .i64 j.id, .int .i64 j.us, .int .i64 j.cl, .int .i64 j.x.a, .int .i64 j.x.b, .int .i64 j.x.c, .bool j.x.p, .bool j.x.q, .bool j.x.r, .bool j.x.tn, .int .i64 j.wa, .int .i64 j.pr, .bool j.he, .slice Y j.af.length cj, .int .u8 j.st, .int .i64 j.ca]] w fun e w' => e = .returned (.bool false) ∧ Below w.heap.size w w' := by
  go_enter Try.func56, Try.ntmps56
  go_wp2_with fail
  go_ret
  exact ⟨rfl, (below_alloc (below_alloc (Below.refl _ _)))⟩
set_option maxRecDepth 100000 in
set_option maxHeartbeats 2000000 in
theorem rp_11 (d0 d1 d2 bo fr tr ag : Int) (K : Option Addr) (kc : Nat) (ks : List Cls) (j : JV) (Y : Option Addr) (cj : Nat) (hl : ks.length ≤ 4611686018427387904) (h0 : ¬ j.id < 1) (h1 : ¬ 2147483647 < j.id) (h2 : ¬ j.us < 1) (h3 : ¬ 255 < j.us) (h4 : ¬ j.cl < 0) (h5 : ¬ (ks.length : Int) ≤ j.cl) (h6 : ¬ j.wa < 1) (h7 : ¬ 1048576 < j.wa) (h8 : ¬ j.pr < -1000) (h9 : ¬ 1000 < j.pr) (h10 : ¬ j.ca < 0) (h11 : 1099511627776 < j.ca) (w : World) :
    Calls Try.prog 56 #[.agg #[.int .i64 d0, .int .i64 d1, .int .i64 d2, .int .i64 bo, .int .i64 fr, .int .i64 tr, .int .i64 ag, .slice K ks.length kc], .agg #[.int .i64 j.id, .int .i64 j.us, .int .i64 j.cl, .int .i64 j.x.a, .int .i64 j.x.b, .int .i64 j.x.c, .bool j.x.p, .bool j.x.q, .bool j.x.r, .bool j.x.tn, .int .i64 j.wa, .int .i64 j.pr, .bool j.he, .slice Y j.af.length cj, .int .u8 j.st, .int .i64 j.ca]] w fun e w' => e = .returned (.bool false) ∧ Below w.heap.size w w' := by
  go_enter Try.func56, Try.ntmps56
  go_wp2_with fail
  go_ret
  exact ⟨rfl, (below_alloc (below_alloc (Below.refl _ _)))⟩
set_option maxRecDepth 100000 in
set_option maxHeartbeats 2000000 in
theorem rp_lo (d0 d1 d2 bo fr tr ag : Int) (K : Option Addr) (kc : Nat) (ks : List Cls) (j : JV) (Y : Option Addr) (cj : Nat) (hl : ks.length ≤ 4611686018427387904) (h0 : ¬ j.id < 1) (h1 : ¬ 2147483647 < j.id) (h2 : ¬ j.us < 1) (h3 : ¬ 255 < j.us) (h4 : ¬ j.cl < 0) (h5 : ¬ (ks.length : Int) ≤ j.cl) (h6 : ¬ j.wa < 1) (h7 : ¬ 1048576 < j.wa) (h8 : ¬ j.pr < -1000) (h9 : ¬ 1000 < j.pr) (h10 : ¬ j.ca < 0) (h11 : ¬ 1099511627776 < j.ca) (t0 : ¬ 1 ≤ j.st) (w : World) :
    Calls Try.prog 56 #[.agg #[.int .i64 d0, .int .i64 d1, .int .i64 d2, .int .i64 bo, .int .i64 fr, .int .i64 tr, .int .i64 ag, .slice K ks.length kc], .agg #[.int .i64 j.id, .int .i64 j.us, .int .i64 j.cl, .int .i64 j.x.a, .int .i64 j.x.b, .int .i64 j.x.c, .bool j.x.p, .bool j.x.q, .bool j.x.r, .bool j.x.tn, .int .i64 j.wa, .int .i64 j.pr, .bool j.he, .slice Y j.af.length cj, .int .u8 j.st, .int .i64 j.ca]] w fun e w' => e = .returned (.bool false) ∧ Below w.heap.size w w' := by
  go_enter Try.func56, Try.ntmps56
  go_wp2_with fail
  go_ret
  exact ⟨rfl, (below_alloc (below_alloc (Below.refl _ _)))⟩
set_option maxRecDepth 100000 in
set_option maxHeartbeats 2000000 in
theorem rp_hi (d0 d1 d2 bo fr tr ag : Int) (K : Option Addr) (kc : Nat) (ks : List Cls) (j : JV) (Y : Option Addr) (cj : Nat) (hl : ks.length ≤ 4611686018427387904) (h0 : ¬ j.id < 1) (h1 : ¬ 2147483647 < j.id) (h2 : ¬ j.us < 1) (h3 : ¬ 255 < j.us) (h4 : ¬ j.cl < 0) (h5 : ¬ (ks.length : Int) ≤ j.cl) (h6 : ¬ j.wa < 1) (h7 : ¬ 1048576 < j.wa) (h8 : ¬ j.pr < -1000) (h9 : ¬ 1000 < j.pr) (h10 : ¬ j.ca < 0) (h11 : ¬ 1099511627776 < j.ca) (t0 : 1 ≤ j.st) (t1 : ¬ j.st ≤ 6) (w : World) :
    Calls Try.prog 56 #[.agg #[.int .i64 d0, .int .i64 d1, .int .i64 d2, .int .i64 bo, .int .i64 fr, .int .i64 tr, .int .i64 ag, .slice K ks.length kc], .agg #[.int .i64 j.id, .int .i64 j.us, .int .i64 j.cl, .int .i64 j.x.a, .int .i64 j.x.b, .int .i64 j.x.c, .bool j.x.p, .bool j.x.q, .bool j.x.r, .bool j.x.tn, .int .i64 j.wa, .int .i64 j.pr, .bool j.he, .slice Y j.af.length cj, .int .u8 j.st, .int .i64 j.ca]] w fun e w' => e = .returned (.bool false) ∧ Below w.heap.size w w' := by
  go_enter Try.func56, Try.ntmps56
  go_wp2_with fail
  go_ret
  exact ⟨rfl, (below_alloc (below_alloc (Below.refl _ _)))⟩
set_option maxRecDepth 100000 in
set_option maxHeartbeats 2000000 in
theorem rp_free (d0 d1 d2 bo fr tr ag : Int) (K : Option Addr) (kc : Nat) (ks : List Cls) (j : JV) (Y : Option Addr) (cj : Nat) (hl : ks.length ≤ 4611686018427387904) (h0 : ¬ j.id < 1) (h1 : ¬ 2147483647 < j.id) (h2 : ¬ j.us < 1) (h3 : ¬ 255 < j.us) (h4 : ¬ j.cl < 0) (h5 : ¬ (ks.length : Int) ≤ j.cl) (h6 : ¬ j.wa < 1) (h7 : ¬ 1048576 < j.wa) (h8 : ¬ j.pr < -1000) (h9 : ¬ 1000 < j.pr) (h10 : ¬ j.ca < 0) (h11 : ¬ 1099511627776 < j.ca) (t0 : 1 ≤ j.st) (t1 : j.st ≤ 6) (t2 : j.he = false) (w : World) :
    Calls Try.prog 56 #[.agg #[.int .i64 d0, .int .i64 d1, .int .i64 d2, .int .i64 bo, .int .i64 fr, .int .i64 tr, .int .i64 ag, .slice K ks.length kc], .agg #[.int .i64 j.id, .int .i64 j.us, .int .i64 j.cl, .int .i64 j.x.a, .int .i64 j.x.b, .int .i64 j.x.c, .bool j.x.p, .bool j.x.q, .bool j.x.r, .bool j.x.tn, .int .i64 j.wa, .int .i64 j.pr, .bool j.he, .slice Y j.af.length cj, .int .u8 j.st, .int .i64 j.ca]] w fun e w' => e = .returned (.bool true) ∧ Below w.heap.size w w' := by
  rw [t2]
  go_enter Try.func56, Try.ntmps56
  go_wp2_with fail
  go_ret
  exact ⟨rfl, (below_alloc (below_alloc (Below.refl _ _)))⟩
set_option maxRecDepth 100000 in
set_option maxHeartbeats 2000000 in
theorem rp_waits (d0 d1 d2 bo fr tr ag : Int) (K : Option Addr) (kc : Nat) (ks : List Cls) (j : JV) (Y : Option Addr) (cj : Nat) (hl : ks.length ≤ 4611686018427387904) (h0 : ¬ j.id < 1) (h1 : ¬ 2147483647 < j.id) (h2 : ¬ j.us < 1) (h3 : ¬ 255 < j.us) (h4 : ¬ j.cl < 0) (h5 : ¬ (ks.length : Int) ≤ j.cl) (h6 : ¬ j.wa < 1) (h7 : ¬ 1048576 < j.wa) (h8 : ¬ j.pr < -1000) (h9 : ¬ 1000 < j.pr) (h10 : ¬ j.ca < 0) (h11 : ¬ 1099511627776 < j.ca) (t0 : 1 ≤ j.st) (t1 : j.st ≤ 6) (t2 : j.he = true) (t3 : j.st = 1) (w : World) :
    Calls Try.prog 56 #[.agg #[.int .i64 d0, .int .i64 d1, .int .i64 d2, .int .i64 bo, .int .i64 fr, .int .i64 tr, .int .i64 ag, .slice K ks.length kc], .agg #[.int .i64 j.id, .int .i64 j.us, .int .i64 j.cl, .int .i64 j.x.a, .int .i64 j.x.b, .int .i64 j.x.c, .bool j.x.p, .bool j.x.q, .bool j.x.r, .bool j.x.tn, .int .i64 j.wa, .int .i64 j.pr, .bool j.he, .slice Y j.af.length cj, .int .u8 j.st, .int .i64 j.ca]] w fun e w' => e = .returned (.bool true) ∧ Below w.heap.size w w' := by
  rw [t2]
  go_enter Try.func56, Try.ntmps56
  go_wp2_with fail
  go_ret
  exact ⟨rfl, (below_alloc (below_alloc (Below.refl _ _)))⟩
set_option maxRecDepth 100000 in
set_option maxHeartbeats 2000000 in
theorem rp_held (d0 d1 d2 bo fr tr ag : Int) (K : Option Addr) (kc : Nat) (ks : List Cls) (j : JV) (Y : Option Addr) (cj : Nat) (hl : ks.length ≤ 4611686018427387904) (h0 : ¬ j.id < 1) (h1 : ¬ 2147483647 < j.id) (h2 : ¬ j.us < 1) (h3 : ¬ 255 < j.us) (h4 : ¬ j.cl < 0) (h5 : ¬ (ks.length : Int) ≤ j.cl) (h6 : ¬ j.wa < 1) (h7 : ¬ 1048576 < j.wa) (h8 : ¬ j.pr < -1000) (h9 : ¬ 1000 < j.pr) (h10 : ¬ j.ca < 0) (h11 : ¬ 1099511627776 < j.ca) (t0 : 1 ≤ j.st) (t1 : j.st ≤ 6) (t2 : j.he = true) (t3 : ¬ j.st = 1) (w : World) :
    Calls Try.prog 56 #[.agg #[.int .i64 d0, .int .i64 d1, .int .i64 d2, .int .i64 bo, .int .i64 fr, .int .i64 tr, .int .i64 ag, .slice K ks.length kc], .agg #[.int .i64 j.id, .int .i64 j.us, .int .i64 j.cl, .int .i64 j.x.a, .int .i64 j.x.b, .int .i64 j.x.c, .bool j.x.p, .bool j.x.q, .bool j.x.r, .bool j.x.tn, .int .i64 j.wa, .int .i64 j.pr, .bool j.he, .slice Y j.af.length cj, .int .u8 j.st, .int .i64 j.ca]] w fun e w' => e = .returned (.bool false) ∧ Below w.heap.size w w' := by
  rw [t2]
  have t4 : (j.st == 1) = false := by simpa using t3
  go_enter Try.func56, Try.ntmps56
  go_wp2_with fail
  go_ret
  exact ⟨rfl, (below_alloc (below_alloc (Below.refl _ _)))⟩
set_option maxRecDepth 100000 in
set_option maxHeartbeats 1000000 in
theorem rplain (d0 d1 d2 bo fr tr ag : Int) (K : Option Addr) (kc : Nat) (ks : List Cls) (j : JV) (Y : Option Addr) (cj : Nat) (hl : ks.length ≤ 4611686018427387904) (r : Bool) (h : plainB ks.length j = r) (w : World) :
    Calls Try.prog 56 #[.agg #[.int .i64 d0, .int .i64 d1, .int .i64 d2, .int .i64 bo, .int .i64 fr, .int .i64 tr, .int .i64 ag, .slice K ks.length kc], .agg #[.int .i64 j.id, .int .i64 j.us, .int .i64 j.cl, .int .i64 j.x.a, .int .i64 j.x.b, .int .i64 j.x.c, .bool j.x.p, .bool j.x.q, .bool j.x.r, .bool j.x.tn, .int .i64 j.wa, .int .i64 j.pr, .bool j.he, .slice Y j.af.length cj, .int .u8 j.st, .int .i64 j.ca]] w fun e w' => e = .returned (.bool r) ∧ Below w.heap.size w w' := by
  by_cases h0 : j.id < 1
  · have e : inB j.id 1 2147483647 = false := decide_eq_false (by omega)
    have er : r = false := by rw [← h]; unfold plainB; simp [e]
    subst er
    exact rp_0 d0 d1 d2 bo fr tr ag K kc ks j Y cj hl h0 w
  by_cases h1 : 2147483647 < j.id
  · have e : inB j.id 1 2147483647 = false := decide_eq_false (by omega)
    have er : r = false := by rw [← h]; unfold plainB; simp [e]
    subst er
    exact rp_1 d0 d1 d2 bo fr tr ag K kc ks j Y cj hl h0 h1 w
  by_cases h2 : j.us < 1
  · have e : inB j.us 1 255 = false := decide_eq_false (by omega)
    have er : r = false := by rw [← h]; unfold plainB; simp [e]
    subst er
    exact rp_2 d0 d1 d2 bo fr tr ag K kc ks j Y cj hl h0 h1 h2 w
  by_cases h3 : 255 < j.us
  · have e : inB j.us 1 255 = false := decide_eq_false (by omega)
    have er : r = false := by rw [← h]; unfold plainB; simp [e]
    subst er
    exact rp_3 d0 d1 d2 bo fr tr ag K kc ks j Y cj hl h0 h1 h2 h3 w
  by_cases h4 : j.cl < 0
  · have e : inB j.cl 0 ((ks.length : Int) - 1) = false := decide_eq_false (by omega)
    have er : r = false := by rw [← h]; unfold plainB; simp [e]
    subst er
    exact rp_4 d0 d1 d2 bo fr tr ag K kc ks j Y cj hl h0 h1 h2 h3 h4 w
  by_cases h5 : (ks.length : Int) ≤ j.cl
  · have e : inB j.cl 0 ((ks.length : Int) - 1) = false := decide_eq_false (by omega)
    have er : r = false := by rw [← h]; unfold plainB; simp [e]
    subst er
    exact rp_5 d0 d1 d2 bo fr tr ag K kc ks j Y cj hl h0 h1 h2 h3 h4 h5 w
  by_cases h6 : j.wa < 1
  · have e : inB j.wa 1 1048576 = false := decide_eq_false (by omega)
    have er : r = false := by rw [← h]; unfold plainB; simp [e]
    subst er
    exact rp_6 d0 d1 d2 bo fr tr ag K kc ks j Y cj hl h0 h1 h2 h3 h4 h5 h6 w
  by_cases h7 : 1048576 < j.wa
  · have e : inB j.wa 1 1048576 = false := decide_eq_false (by omega)
    have er : r = false := by rw [← h]; unfold plainB; simp [e]
    subst er
    exact rp_7 d0 d1 d2 bo fr tr ag K kc ks j Y cj hl h0 h1 h2 h3 h4 h5 h6 h7 w
  by_cases h8 : j.pr < -1000
  · have e : inB j.pr (-1000) 1000 = false := decide_eq_false (by omega)
    have er : r = false := by rw [← h]; unfold plainB; simp [e]
    subst er
    exact rp_8 d0 d1 d2 bo fr tr ag K kc ks j Y cj hl h0 h1 h2 h3 h4 h5 h6 h7 h8 w
  by_cases h9 : 1000 < j.pr
  · have e : inB j.pr (-1000) 1000 = false := decide_eq_false (by omega)
    have er : r = false := by rw [← h]; unfold plainB; simp [e]
    subst er
    exact rp_9 d0 d1 d2 bo fr tr ag K kc ks j Y cj hl h0 h1 h2 h3 h4 h5 h6 h7 h8 h9 w
  by_cases h10 : j.ca < 0
  · have e : inB j.ca 0 1099511627776 = false := decide_eq_false (by omega)
    have er : r = false := by rw [← h]; unfold plainB; simp [e]
    subst er
    exact rp_10 d0 d1 d2 bo fr tr ag K kc ks j Y cj hl h0 h1 h2 h3 h4 h5 h6 h7 h8 h9 h10 w
  by_cases h11 : 1099511627776 < j.ca
  · have e : inB j.ca 0 1099511627776 = false := decide_eq_false (by omega)
    have er : r = false := by rw [← h]; unfold plainB; simp [e]
    subst er
    exact rp_11 d0 d1 d2 bo fr tr ag K kc ks j Y cj hl h0 h1 h2 h3 h4 h5 h6 h7 h8 h9 h10 h11 w
  have e0 : inB j.id 1 2147483647 = true := decide_eq_true (by omega)
  have e1 : inB j.us 1 255 = true := decide_eq_true (by omega)
  have e2 : inB j.cl 0 ((ks.length : Int) - 1) = true := decide_eq_true (by omega)
  have e3 : inB j.wa 1 1048576 = true := decide_eq_true (by omega)
  have e4 : inB j.pr (-1000) 1000 = true := decide_eq_true (by omega)
  have e5 : inB j.ca 0 1099511627776 = true := decide_eq_true (by omega)
  by_cases t0 : 1 ≤ j.st
  · by_cases t1 : j.st ≤ 6
    · rcases (show j.he = false ∨ j.he = true by cases j.he <;> simp) with t2 | t2
      · skip
        have er : r = true := by rw [← h]; unfold plainB; simp [e0, e1, e2, e3, e4, e5, t0, t1, t2]
        subst er
        exact rp_free d0 d1 d2 bo fr tr ag K kc ks j Y cj hl h0 h1 h2 h3 h4 h5 h6 h7 h8 h9 h10 h11 t0 t1 t2 w
      · by_cases t3 : j.st = 1
        · skip
          have er : r = true := by rw [← h]; unfold plainB; simp [e0, e1, e2, e3, e4, e5, t0, t1, t2, t3]
          subst er
          exact rp_waits d0 d1 d2 bo fr tr ag K kc ks j Y cj hl h0 h1 h2 h3 h4 h5 h6 h7 h8 h9 h10 h11 t0 t1 t2 t3 w
        · skip
          have er : r = false := by rw [← h]; unfold plainB; simp [e0, e1, e2, e3, e4, e5, t0, t1, t2, t3]
          subst er
          exact rp_held d0 d1 d2 bo fr tr ag K kc ks j Y cj hl h0 h1 h2 h3 h4 h5 h6 h7 h8 h9 h10 h11 t0 t1 t2 t3 w
    · skip
      have er : r = false := by rw [← h]; unfold plainB; simp [e0, e1, e2, e3, e4, e5, t0, t1]
      subst er
      exact rp_hi d0 d1 d2 bo fr tr ag K kc ks j Y cj hl h0 h1 h2 h3 h4 h5 h6 h7 h8 h9 h10 h11 t0 t1 w
  · skip
    have er : r = false := by rw [← h]; unfold plainB; simp [e0, e1, e2, e3, e4, e5, t0]
    subst er
    exact rp_lo d0 d1 d2 bo fr tr ag K kc ks j Y cj hl h0 h1 h2 h3 h4 h5 h6 h7 h8 h9 h10 h11 t0 w
theorem rafter_many (j : JV) (Y : Option Addr) (cj : Nat) (h : (4 : Int) < (j.af.length : Int)) (hl : j.af.length ≤ 4611686018427387904) (w : World) :
    Calls Try.prog 57 #[.agg #[.int .i64 j.id, .int .i64 j.us, .int .i64 j.cl, .int .i64 j.x.a, .int .i64 j.x.b, .int .i64 j.x.c, .bool j.x.p, .bool j.x.q, .bool j.x.r, .bool j.x.tn, .int .i64 j.wa, .int .i64 j.pr, .bool j.he, .slice Y j.af.length cj, .int .u8 j.st, .int .i64 j.ca]] w fun e w' => e = .returned (.bool false) ∧ Below w.heap.size w w' := by
  go_enter Try.func57, Try.ntmps57
  go_wp2_with fail
  go_ret
  exact ⟨rfl, below_alloc (Below.refl _ _)⟩
set_option maxRecDepth 100000 in
set_option maxHeartbeats 4000000 in
theorem rafter_few (j : JV) (Y : Option Addr) (cj : Nat) (h : j.af.length ≤ 4) (w : World) (hY : IntsAt w Y j.af) :
    Calls Try.prog 57 #[.agg #[.int .i64 j.id, .int .i64 j.us, .int .i64 j.cl, .int .i64 j.x.a, .int .i64 j.x.b, .int .i64 j.x.c, .bool j.x.p, .bool j.x.q, .bool j.x.r, .bool j.x.tn, .int .i64 j.wa, .int .i64 j.pr, .bool j.he, .slice Y j.af.length cj, .int .u8 j.st, .int .i64 j.ca]] w fun e w' => e = .returned (.bool (risB j.id 0 j.af)) ∧ Below w.heap.size w w' := by
  obtain ⟨V, hV⟩ : ∃ V, V = risB j.id 0 j.af := ⟨_, rfl⟩
  rw [← hV]
  have HV := Lib.hid hV
  have HY := Lib.hid hY
  clear hV hY
  go_enter Try.func57, Try.ntmps57
  go_upto_region 1 with fail
  have kj0 : Blk (w.alloc (.cells #[.int .i64 j.id, .int .i64 j.us, .int .i64 j.cl, .int .i64 j.x.a, .int .i64 j.x.b, .int .i64 j.x.c, .bool j.x.p, .bool j.x.q, .bool j.x.r, .bool j.x.tn, .int .i64 j.wa, .int .i64 j.pr, .bool j.he, .slice Y j.af.length cj, .int .u8 j.st, .int .i64 j.ca] 33)) w.heap.size 33 #[.int .i64 j.id, .int .i64 j.us, .int .i64 j.cl, .int .i64 j.x.a, .int .i64 j.x.b, .int .i64 j.x.c, .bool j.x.p, .bool j.x.q, .bool j.x.r, .bool j.x.tn, .int .i64 j.wa, .int .i64 j.pr, .bool j.he, .slice Y j.af.length cj, .int .u8 j.st, .int .i64 j.ca] := Blk.new w _ _
  have hb0 : Below w.heap.size w (w.alloc (.cells #[.int .i64 j.id, .int .i64 j.us, .int .i64 j.cl, .int .i64 j.x.a, .int .i64 j.x.b, .int .i64 j.x.c, .bool j.x.p, .bool j.x.q, .bool j.x.r, .bool j.x.tn, .int .i64 j.wa, .int .i64 j.pr, .bool j.he, .slice Y j.af.length cj, .int .u8 j.st, .int .i64 j.ca] 33)) := below_alloc (Below.refl _ _)
  generalize w.alloc (.cells #[.int .i64 j.id, .int .i64 j.us, .int .i64 j.cl, .int .i64 j.x.a, .int .i64 j.x.b, .int .i64 j.x.c, .bool j.x.p, .bool j.x.q, .bool j.x.r, .bool j.x.tn, .int .i64 j.wa, .int .i64 j.pr, .bool j.he, .slice Y j.af.length cj, .int .u8 j.st, .int .i64 j.ca] 33) = w0 at *
  have HB0 := Lib.hid hb0
  have KJ0 := Lib.hid kj0
  have x13 : w0.cell? ⟨w.heap.size, 13, none⟩ = some (.slice Y j.af.length cj) := kj0.cell 13
  have hni : ¬ (4 : Int) < (j.af.length : Int) := by omega
  clear hb0 kj0
  go_wp2_with fail
  clear x13 hni
  go_loopw [3] (fun i wr => ∃ k : Nat, k ≤ j.af.length ∧ i = .int .i64 k ∧ Hid (∀ (i : Nat) (v : Int), i < k → j.af[i]? = some v → 1 ≤ v ∧ v < j.id ∧ lastAt 0 j.af i < v) ∧ Hid (Below w.heap.size w wr) ∧ Hid (Blk wr w.heap.size 33 #[.int .i64 j.id, .int .i64 j.us, .int .i64 j.cl, .int .i64 j.x.a, .int .i64 j.x.b, .int .i64 j.x.c, .bool j.x.p, .bool j.x.q, .bool j.x.r, .bool j.x.tn, .int .i64 j.wa, .int .i64 j.pr, .bool j.he, .slice Y j.af.length cj, .int .u8 j.st, .int .i64 j.ca]))
    (fun i _ => j.af.length - (intOf i).toNat)
  case atStart => exact ⟨0, Nat.zero_le _, rfl, (fun i v h => by omega), HB0.out, KJ0.out⟩
  case round =>
    obtain ⟨k, hk, rfl, hP, hB, hJ⟩ := hrel
    clear HB0 KJ0
    have x13 : wr.cell? ⟨w.heap.size, 13, none⟩ = some (.slice Y j.af.length cj) := hJ.out.cell 13
    have x0 : wr.cell? ⟨w.heap.size, 0, none⟩ = some (.int .i64 j.id) := hJ.out.cell 0
    by_cases hlt : k < j.af.length
    · have hg : j.af[k]? = some j.af[k] := List.getElem?_eq_getElem hlt
      generalize j.af[k] = v at hg
      have hki : (k : Int) < (j.af.length : Int) := by omega
      have hki0 : (0 : Int) ≤ (k : Int) := by omega
      obtain ⟨b, o, rfl, hb, y0⟩ := HY.out.up hB.out k v hg
      have HG := Lib.hid hg
      have hn : ∀ {q : Prop}, (¬ (lastAt 0 j.af k < v ∧ v < j.id)) → V = false := fun {q} hn => by
        rw [HV.out]
        cases hr : risB j.id 0 j.af
        · rfl
        · exact absurd (ris_iff.1 hr k v HG.out) hn
      have HN := Lib.hid (hn (q := True))
      have hlast : (k = 0 ∧ lastAt 0 j.af k = 0) ∨ ∃ m u, k = m + 1 ∧ j.af[m]? = some u ∧ lastAt 0 j.af k = u ∧ 1 ≤ u := by
        cases k with
        | zero => exact .inl ⟨rfl, rfl⟩
        | succ m =>
          have hm : j.af[m]? = some (j.af[m]'(by omega)) := List.getElem?_eq_getElem (by omega)
          refine .inr ⟨m, _, rfl, hm, ?_, (hP.out m _ (by omega) hm).1⟩
          simp [lastAt, List.getD_eq_getElem?_getD, hm]
      clear hg hn
      by_cases h1 : v < 1
      · have HE := Lib.hid (HN.out (by rcases hlast with ⟨_, e⟩ | ⟨m, u, _, _, e, _⟩ <;> omega))
        clear hlast
        go_wp2_with fail
        have kq0 := cell_regrown x13
        have kq1 := cell_regrown x0
        have kq2 := cell_regrown y0
        refine wp_region_quiet_below (by kernel_rfl) (by kernel_rfl) ?_
        repeat (go_big_quiet_step (first | fail))
        refine wpQuiet_nil ?_
        intro _ hw'
        obtain ⟨⟨dq, osq⟩, hw''⟩ := hw'
        subst hw''
        have hBq := below_regrown wr dq osq
        clear kq0 kq1 kq2
        generalize grow (redrawn wr dq) osq = wq at *
        have HBq := Lib.hid hBq
        clear hBq x13 x0 y0
        go_wp2_with fail
        go_ret
        rw [HE.out]
        exact ⟨rfl, below_up hB.out HBq.out⟩
      · have dd1 : decide (v < 1) = false := decide_eq_false h1
        by_cases h2 : j.id ≤ v
        · have dd2 : decide (j.id ≤ v) = true := decide_eq_true h2
          have HE := Lib.hid (HN.out (by omega))
          clear hlast
          go_wp2_with fail
          have kq0 := cell_regrown x13
          have kq1 := cell_regrown x0
          have kq2 := cell_regrown y0
          refine wp_region_quiet_below (by kernel_rfl) (by kernel_rfl) ?_
          repeat (go_big_quiet_step (first | fail))
          refine wpQuiet_nil ?_
          intro _ hw'
          obtain ⟨⟨dq, osq⟩, hw''⟩ := hw'
          subst hw''
          have hBq := below_regrown wr dq osq
          clear kq0 kq1 kq2
          generalize grow (redrawn wr dq) osq = wq at *
          have HBq := Lib.hid hBq
          clear hBq x13 x0 y0
          go_wp2_with fail
          go_ret
          rw [HE.out]
          exact ⟨rfl, below_up hB.out HBq.out⟩
        · have dd2 : decide (j.id ≤ v) = false := decide_eq_false h2
          rcases hlast with ⟨rfl, e0⟩ | ⟨m, u, rfl, hm, e0, hu⟩
          · have HE := Lib.hid e0
            have y0' : wr.cell? ⟨b, o, none⟩ = some (.int .i64 v) := y0
            have hk0' : (0 : Int) < (j.af.length : Int) := by omega
            clear e0 y0
            go_wp2_with fail
            have kq0 := cell_regrown x13
            have kq1 := cell_regrown x0
            have kq2 := cell_regrown y0'
            refine wp_region_quiet_below (by kernel_rfl) (by kernel_rfl) ?_
            repeat (go_big_quiet_step (first | fail))
            refine wpQuiet_nil ?_
            intro _ hw'
            obtain ⟨⟨dq, osq⟩, hw''⟩ := hw'
            subst hw''
            have hBq := below_regrown wr dq osq
            clear kq0 kq1 kq2
            generalize grow (redrawn wr dq) osq = wq at *
            have HBq := Lib.hid hBq
            clear hBq x13 x0 y0'
            go_wp2_with fail
            go_roundw
            case rel => exact ⟨1, by omega, by go_num, (fun i z hi hz => by
                obtain rfl : i = 0 := by omega
                rw [HG.out] at hz; cases hz
                exact ⟨by omega, by omega, by rw [HE.out]; omega⟩), below_up hB.out HBq.out, hJ.out.below HBq.out hJ.out.lt⟩
            case measure => simp [intOf]; omega
          · obtain ⟨b', o', e1, hb', z0⟩ := HY.out.up hB.out m u hm
            have e2 : b' = b ∧ o' = o := by
              simp at e1
              exact ⟨e1.1.symm, e1.2.symm⟩
            rw [e2.1, e2.2] at z0
            have HE := Lib.hid e0
            have f1 : IntKind.i64.wrap ((m : Int) + 1 - 1) = (m : Int) := by rw [show (m : Int) + 1 - 1 = m by omega]; exact IntWalk.i64_in _ (by omega)
            have f2 : IntKind.i64.wrap (m : Int) = (m : Int) := IntWalk.i64_in _ (by omega)
            have hm0 : (0 : Int) ≤ (m : Int) := by omega
            have hm1 : (m : Int) < (j.af.length : Int) := by omega
            have hm2 : (0 : Int) < (m : Int) + 1 := by omega
            have dd3 : decide ((0 : Int) < (m : Int) + 1) = true := decide_eq_true hm2
            clear e0 e1 e2 hb' hm
            by_cases h3 : v ≤ u
            · have dd4 : decide (v ≤ u) = true := decide_eq_true h3
              have HE2 := Lib.hid (HN.out (by rw [HE.out]; omega))
              go_wp2_with fail
              have kq0 := cell_regrown x13
              have kq1 := cell_regrown x0
              have kq2 := cell_regrown y0
              have kq3 := cell_regrown z0
              refine wp_region_quiet_below (by kernel_rfl) (by kernel_rfl) ?_
              repeat (go_big_quiet_step (first | fail))
              refine wpQuiet_nil ?_
              intro _ hw'
              obtain ⟨⟨dq, osq⟩, hw''⟩ := hw'
              subst hw''
              have hBq := below_regrown wr dq osq
              clear kq0 kq1 kq2 kq3
              generalize grow (redrawn wr dq) osq = wq at *
              have HBq := Lib.hid hBq
              clear hBq x13 x0 y0 z0
              go_wp2_with fail
              go_ret
              rw [HE2.out]
              exact ⟨rfl, below_up hB.out HBq.out⟩
            · have dd4 : decide (v ≤ u) = false := decide_eq_false h3
              go_wp2_with fail
              have kq0 := cell_regrown x13
              have kq1 := cell_regrown x0
              have kq2 := cell_regrown y0
              have kq3 := cell_regrown z0
              refine wp_region_quiet_below (by kernel_rfl) (by kernel_rfl) ?_
              repeat (go_big_quiet_step (first | fail))
              refine wpQuiet_nil ?_
              intro _ hw'
              obtain ⟨⟨dq, osq⟩, hw''⟩ := hw'
              subst hw''
              have hBq := below_regrown wr dq osq
              clear kq0 kq1 kq2 kq3
              generalize grow (redrawn wr dq) osq = wq at *
              have HBq := Lib.hid hBq
              clear hBq x13 x0 y0 z0
              go_wp2_with fail
              go_roundw
              case rel => exact ⟨m + 2, by omega, by go_num, (fun i z hi hz => by
                  rcases Nat.lt_or_ge i (m + 1) with h | h
                  · exact hP.out i z h hz
                  · obtain rfl : i = m + 1 := by omega
                    rw [HG.out] at hz; cases hz
                    exact ⟨by omega, by omega, by rw [HE.out]; omega⟩), below_up hB.out HBq.out, hJ.out.below HBq.out hJ.out.lt⟩
              case measure => simp [intOf]; omega
    · obtain rfl : k = j.af.length := by omega
      have ev : V = true := by
        rw [HV.out]
        exact ris_iff.2 fun i v hi => ⟨(hP.out i v (List.getElem?_eq_some_iff.1 hi).1 hi).2.2, (hP.out i v (List.getElem?_eq_some_iff.1 hi).1 hi).2.1⟩
      have EV := Lib.hid ev
      clear ev
      go_wp2_with fail
      go_ret
      rw [EV.out]
      exact ⟨rfl, hB.out⟩
theorem rafter (j : JV) (Y : Option Addr) (cj : Nat) (hl : j.af.length ≤ 4611686018427387904) (r : Bool) (h : afterB j = r) (w : World) (hY : IntsAt w Y j.af) :
    Calls Try.prog 57 #[.agg #[.int .i64 j.id, .int .i64 j.us, .int .i64 j.cl, .int .i64 j.x.a, .int .i64 j.x.b, .int .i64 j.x.c, .bool j.x.p, .bool j.x.q, .bool j.x.r, .bool j.x.tn, .int .i64 j.wa, .int .i64 j.pr, .bool j.he, .slice Y j.af.length cj, .int .u8 j.st, .int .i64 j.ca]] w fun e w' => e = .returned (.bool r) ∧ Below w.heap.size w w' := by
  unfold afterB at h
  by_cases h4 : j.af.length ≤ 4
  · have e : r = risB j.id 0 j.af := by rw [← h, decide_eq_true (by omega)]; rfl
    rw [e]
    exact rafter_few j Y cj h4 w hY
  · have e : r = false := by rw [← h, decide_eq_false (by omega)]; rfl
    rw [e]
    exact rafter_many j Y cj (by omega) hl w
end Go.Proofs.Ytaldgmmmcbikgaa.JobRef1
