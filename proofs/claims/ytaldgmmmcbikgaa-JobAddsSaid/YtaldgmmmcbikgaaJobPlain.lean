/- job.within and job.plain. -/
import Derived.Test.YtaldgmmmcbikgaaJobIndex
import Derived.IntWalk
import Derived.BigQuiet
namespace Go.Proofs.Ytaldgmmmcbikgaa.JobPlain
open Go.RowKit Mem PosMath PartMath TurnMath JobMath
set_option linter.unusedVariables false
set_option linter.unusedSimpArgs false

theorem jwithin (n lo hi : Int) (r : Bool) (h : inB n lo hi = r) (w : World) :
    Calls Try.prog 67 #[.int .i64 n, .int .i64 lo, .int .i64 hi] w fun e w' => e = .returned (.bool r) ∧ w = w' := by
  unfold inB at h
  by_cases h1 : lo ≤ n
  · by_cases h2 : n ≤ hi
    · have e : r = true := by rw [← h]; simp [h1, h2]
      subst e
      clear h
      go_enter Try.func67, Try.ntmps67
      go_wp2
      go_ret
      exact ⟨rfl, rfl⟩
    · have e : r = false := by rw [← h]; simp [h2]
      subst e
      clear h
      go_enter Try.func67, Try.ntmps67
      go_wp2
      go_ret
      exact ⟨rfl, rfl⟩
  · have e : r = false := by rw [← h]; simp [h1]
    subst e
    clear h
    go_enter Try.func67, Try.ntmps67
    go_wp2
    go_ret
    exact ⟨rfl, rfl⟩
set_option maxRecDepth 100000 in
set_option maxHeartbeats 2000000 in
theorem pl00 (d0 d1 d2 bo fr tr ag : Int) (K : Option Addr) (kc : Nat) (ks : List Cls) (j : JV) (Y : Option Addr) (cj : Nat) (hl : ks.length ≤ 4611686018427387904) (h0 : inB j.id 1 2147483647 = false) (h4 : inB j.pr (-1000) 1000 = false) (w : World) :
    Calls Try.prog 49 #[.agg #[.int .i64 d0, .int .i64 d1, .int .i64 d2, .int .i64 bo, .int .i64 fr, .int .i64 tr, .int .i64 ag, .slice K ks.length kc], .agg #[.int .i64 j.id, .int .i64 j.us, .int .i64 j.cl, .int .i64 j.x.a, .int .i64 j.x.b, .int .i64 j.x.c, .bool j.x.p, .bool j.x.q, .bool j.x.r, .bool j.x.tn, .int .i64 j.wa, .int .i64 j.pr, .bool j.he, .slice Y j.af.length cj, .int .u8 j.st, .int .i64 j.ca]] w fun e w' => e = .returned (.bool false) ∧ Below w.heap.size w w' := by
  have H0 := Lib.hid h0
  have H4 := Lib.hid h4
  have e1 : IntKind.i64.wrap ((ks.length : Int) - 1) = (ks.length : Int) - 1 := IntWalk.i64_in _ (by omega)
  clear h0 h4
  go_enter Try.func49, Try.ntmps49
  go_wp2_with fail
  refine (jwithin _ _ _ _ H0.out _).mono ?_
  rintro e w' ⟨rfl, rfl⟩
  go_wp2_with fail
  refine (jwithin _ _ _ _ H4.out _).mono ?_
  rintro e w' ⟨rfl, rfl⟩
  go_wp2_with fail
  go_ret
  exact ⟨rfl, (below_alloc (below_alloc (Below.refl _ _)))⟩
set_option maxRecDepth 100000 in
set_option maxHeartbeats 2000000 in
theorem pl01 (d0 d1 d2 bo fr tr ag : Int) (K : Option Addr) (kc : Nat) (ks : List Cls) (j : JV) (Y : Option Addr) (cj : Nat) (hl : ks.length ≤ 4611686018427387904) (h0 : inB j.id 1 2147483647 = false) (h4 : inB j.pr (-1000) 1000 = true) (h5 : inB j.ca 0 1099511627776 = false) (w : World) :
    Calls Try.prog 49 #[.agg #[.int .i64 d0, .int .i64 d1, .int .i64 d2, .int .i64 bo, .int .i64 fr, .int .i64 tr, .int .i64 ag, .slice K ks.length kc], .agg #[.int .i64 j.id, .int .i64 j.us, .int .i64 j.cl, .int .i64 j.x.a, .int .i64 j.x.b, .int .i64 j.x.c, .bool j.x.p, .bool j.x.q, .bool j.x.r, .bool j.x.tn, .int .i64 j.wa, .int .i64 j.pr, .bool j.he, .slice Y j.af.length cj, .int .u8 j.st, .int .i64 j.ca]] w fun e w' => e = .returned (.bool false) ∧ Below w.heap.size w w' := by
  have H0 := Lib.hid h0
  have H4 := Lib.hid h4
  have H5 := Lib.hid h5
  have e1 : IntKind.i64.wrap ((ks.length : Int) - 1) = (ks.length : Int) - 1 := IntWalk.i64_in _ (by omega)
  clear h0 h4 h5
  go_enter Try.func49, Try.ntmps49
  go_wp2_with fail
  refine (jwithin _ _ _ _ H0.out _).mono ?_
  rintro e w' ⟨rfl, rfl⟩
  go_wp2_with fail
  refine (jwithin _ _ _ _ H4.out _).mono ?_
  rintro e w' ⟨rfl, rfl⟩
  go_wp2_with fail
  refine (jwithin _ _ _ _ H5.out _).mono ?_
  rintro e w' ⟨rfl, rfl⟩
  go_wp2_with fail
  go_ret
  exact ⟨rfl, (below_alloc (below_alloc (Below.refl _ _)))⟩
set_option maxRecDepth 100000 in
set_option maxHeartbeats 2000000 in
theorem pl02 (d0 d1 d2 bo fr tr ag : Int) (K : Option Addr) (kc : Nat) (ks : List Cls) (j : JV) (Y : Option Addr) (cj : Nat) (hl : ks.length ≤ 4611686018427387904) (h0 : inB j.id 1 2147483647 = false) (h4 : inB j.pr (-1000) 1000 = true) (h5 : inB j.ca 0 1099511627776 = true) (w : World) :
    Calls Try.prog 49 #[.agg #[.int .i64 d0, .int .i64 d1, .int .i64 d2, .int .i64 bo, .int .i64 fr, .int .i64 tr, .int .i64 ag, .slice K ks.length kc], .agg #[.int .i64 j.id, .int .i64 j.us, .int .i64 j.cl, .int .i64 j.x.a, .int .i64 j.x.b, .int .i64 j.x.c, .bool j.x.p, .bool j.x.q, .bool j.x.r, .bool j.x.tn, .int .i64 j.wa, .int .i64 j.pr, .bool j.he, .slice Y j.af.length cj, .int .u8 j.st, .int .i64 j.ca]] w fun e w' => e = .returned (.bool false) ∧ Below w.heap.size w w' := by
  have H0 := Lib.hid h0
  have H4 := Lib.hid h4
  have H5 := Lib.hid h5
  have e1 : IntKind.i64.wrap ((ks.length : Int) - 1) = (ks.length : Int) - 1 := IntWalk.i64_in _ (by omega)
  clear h0 h4 h5
  go_enter Try.func49, Try.ntmps49
  go_wp2_with fail
  refine (jwithin _ _ _ _ H0.out _).mono ?_
  rintro e w' ⟨rfl, rfl⟩
  go_wp2_with fail
  refine (jwithin _ _ _ _ H4.out _).mono ?_
  rintro e w' ⟨rfl, rfl⟩
  go_wp2_with fail
  refine (jwithin _ _ _ _ H5.out _).mono ?_
  rintro e w' ⟨rfl, rfl⟩
  go_wp2_with fail
  go_ret
  exact ⟨rfl, (below_alloc (below_alloc (Below.refl _ _)))⟩
set_option maxRecDepth 100000 in
set_option maxHeartbeats 2000000 in
theorem pl10 (d0 d1 d2 bo fr tr ag : Int) (K : Option Addr) (kc : Nat) (ks : List Cls) (j : JV) (Y : Option Addr) (cj : Nat) (hl : ks.length ≤ 4611686018427387904) (h0 : inB j.id 1 2147483647 = true) (h1 : inB j.us 1 255 = false) (h4 : inB j.pr (-1000) 1000 = false) (w : World) :
    Calls Try.prog 49 #[.agg #[.int .i64 d0, .int .i64 d1, .int .i64 d2, .int .i64 bo, .int .i64 fr, .int .i64 tr, .int .i64 ag, .slice K ks.length kc], .agg #[.int .i64 j.id, .int .i64 j.us, .int .i64 j.cl, .int .i64 j.x.a, .int .i64 j.x.b, .int .i64 j.x.c, .bool j.x.p, .bool j.x.q, .bool j.x.r, .bool j.x.tn, .int .i64 j.wa, .int .i64 j.pr, .bool j.he, .slice Y j.af.length cj, .int .u8 j.st, .int .i64 j.ca]] w fun e w' => e = .returned (.bool false) ∧ Below w.heap.size w w' := by
  have H0 := Lib.hid h0
  have H1 := Lib.hid h1
  have H4 := Lib.hid h4
  have e1 : IntKind.i64.wrap ((ks.length : Int) - 1) = (ks.length : Int) - 1 := IntWalk.i64_in _ (by omega)
  clear h0 h1 h4
  go_enter Try.func49, Try.ntmps49
  go_wp2_with fail
  refine (jwithin _ _ _ _ H0.out _).mono ?_
  rintro e w' ⟨rfl, rfl⟩
  go_wp2_with fail
  refine (jwithin _ _ _ _ H1.out _).mono ?_
  rintro e w' ⟨rfl, rfl⟩
  go_wp2_with fail
  refine (jwithin _ _ _ _ H4.out _).mono ?_
  rintro e w' ⟨rfl, rfl⟩
  go_wp2_with fail
  go_ret
  exact ⟨rfl, (below_alloc (below_alloc (Below.refl _ _)))⟩
set_option maxRecDepth 100000 in
set_option maxHeartbeats 2000000 in
theorem pl11 (d0 d1 d2 bo fr tr ag : Int) (K : Option Addr) (kc : Nat) (ks : List Cls) (j : JV) (Y : Option Addr) (cj : Nat) (hl : ks.length ≤ 4611686018427387904) (h0 : inB j.id 1 2147483647 = true) (h1 : inB j.us 1 255 = false) (h4 : inB j.pr (-1000) 1000 = true) (h5 : inB j.ca 0 1099511627776 = false) (w : World) :
    Calls Try.prog 49 #[.agg #[.int .i64 d0, .int .i64 d1, .int .i64 d2, .int .i64 bo, .int .i64 fr, .int .i64 tr, .int .i64 ag, .slice K ks.length kc], .agg #[.int .i64 j.id, .int .i64 j.us, .int .i64 j.cl, .int .i64 j.x.a, .int .i64 j.x.b, .int .i64 j.x.c, .bool j.x.p, .bool j.x.q, .bool j.x.r, .bool j.x.tn, .int .i64 j.wa, .int .i64 j.pr, .bool j.he, .slice Y j.af.length cj, .int .u8 j.st, .int .i64 j.ca]] w fun e w' => e = .returned (.bool false) ∧ Below w.heap.size w w' := by
  have H0 := Lib.hid h0
  have H1 := Lib.hid h1
  have H4 := Lib.hid h4
  have H5 := Lib.hid h5
  have e1 : IntKind.i64.wrap ((ks.length : Int) - 1) = (ks.length : Int) - 1 := IntWalk.i64_in _ (by omega)
  clear h0 h1 h4 h5
  go_enter Try.func49, Try.ntmps49
  go_wp2_with fail
  refine (jwithin _ _ _ _ H0.out _).mono ?_
  rintro e w' ⟨rfl, rfl⟩
  go_wp2_with fail
  refine (jwithin _ _ _ _ H1.out _).mono ?_
  rintro e w' ⟨rfl, rfl⟩
  go_wp2_with fail
  refine (jwithin _ _ _ _ H4.out _).mono ?_
  rintro e w' ⟨rfl, rfl⟩
  go_wp2_with fail
  refine (jwithin _ _ _ _ H5.out _).mono ?_
  rintro e w' ⟨rfl, rfl⟩
  go_wp2_with fail
  go_ret
  exact ⟨rfl, (below_alloc (below_alloc (Below.refl _ _)))⟩
set_option maxRecDepth 100000 in
set_option maxHeartbeats 2000000 in
theorem pl12 (d0 d1 d2 bo fr tr ag : Int) (K : Option Addr) (kc : Nat) (ks : List Cls) (j : JV) (Y : Option Addr) (cj : Nat) (hl : ks.length ≤ 4611686018427387904) (h0 : inB j.id 1 2147483647 = true) (h1 : inB j.us 1 255 = false) (h4 : inB j.pr (-1000) 1000 = true) (h5 : inB j.ca 0 1099511627776 = true) (w : World) :
    Calls Try.prog 49 #[.agg #[.int .i64 d0, .int .i64 d1, .int .i64 d2, .int .i64 bo, .int .i64 fr, .int .i64 tr, .int .i64 ag, .slice K ks.length kc], .agg #[.int .i64 j.id, .int .i64 j.us, .int .i64 j.cl, .int .i64 j.x.a, .int .i64 j.x.b, .int .i64 j.x.c, .bool j.x.p, .bool j.x.q, .bool j.x.r, .bool j.x.tn, .int .i64 j.wa, .int .i64 j.pr, .bool j.he, .slice Y j.af.length cj, .int .u8 j.st, .int .i64 j.ca]] w fun e w' => e = .returned (.bool false) ∧ Below w.heap.size w w' := by
  have H0 := Lib.hid h0
  have H1 := Lib.hid h1
  have H4 := Lib.hid h4
  have H5 := Lib.hid h5
  have e1 : IntKind.i64.wrap ((ks.length : Int) - 1) = (ks.length : Int) - 1 := IntWalk.i64_in _ (by omega)
  clear h0 h1 h4 h5
  go_enter Try.func49, Try.ntmps49
  go_wp2_with fail
  refine (jwithin _ _ _ _ H0.out _).mono ?_
  rintro e w' ⟨rfl, rfl⟩
  go_wp2_with fail
  refine (jwithin _ _ _ _ H1.out _).mono ?_
  rintro e w' ⟨rfl, rfl⟩
  go_wp2_with fail
  refine (jwithin _ _ _ _ H4.out _).mono ?_
  rintro e w' ⟨rfl, rfl⟩
  go_wp2_with fail
  refine (jwithin _ _ _ _ H5.out _).mono ?_
  rintro e w' ⟨rfl, rfl⟩
  go_wp2_with fail
  go_ret
  exact ⟨rfl, (below_alloc (below_alloc (Below.refl _ _)))⟩
set_option maxRecDepth 100000 in
set_option maxHeartbeats 2000000 in
theorem pl20 (d0 d1 d2 bo fr tr ag : Int) (K : Option Addr) (kc : Nat) (ks : List Cls) (j : JV) (Y : Option Addr) (cj : Nat) (hl : ks.length ≤ 4611686018427387904) (h0 : inB j.id 1 2147483647 = true) (h1 : inB j.us 1 255 = true) (h2 : inB j.cl 0 ((ks.length : Int) - 1) = false) (h4 : inB j.pr (-1000) 1000 = false) (w : World) :
    Calls Try.prog 49 #[.agg #[.int .i64 d0, .int .i64 d1, .int .i64 d2, .int .i64 bo, .int .i64 fr, .int .i64 tr, .int .i64 ag, .slice K ks.length kc], .agg #[.int .i64 j.id, .int .i64 j.us, .int .i64 j.cl, .int .i64 j.x.a, .int .i64 j.x.b, .int .i64 j.x.c, .bool j.x.p, .bool j.x.q, .bool j.x.r, .bool j.x.tn, .int .i64 j.wa, .int .i64 j.pr, .bool j.he, .slice Y j.af.length cj, .int .u8 j.st, .int .i64 j.ca]] w fun e w' => e = .returned (.bool false) ∧ Below w.heap.size w w' := by
  have H0 := Lib.hid h0
  have H1 := Lib.hid h1
  have H2 := Lib.hid h2
  have H4 := Lib.hid h4
  have e1 : IntKind.i64.wrap ((ks.length : Int) - 1) = (ks.length : Int) - 1 := IntWalk.i64_in _ (by omega)
  clear h0 h1 h2 h4
  go_enter Try.func49, Try.ntmps49
  go_wp2_with fail
  refine (jwithin _ _ _ _ H0.out _).mono ?_
  rintro e w' ⟨rfl, rfl⟩
  go_wp2_with fail
  refine (jwithin _ _ _ _ H1.out _).mono ?_
  rintro e w' ⟨rfl, rfl⟩
  go_wp2_with fail
  refine (jwithin _ _ _ _ H2.out _).mono ?_
  rintro e w' ⟨rfl, rfl⟩
  go_wp2_with fail
  refine (jwithin _ _ _ _ H4.out _).mono ?_
  rintro e w' ⟨rfl, rfl⟩
  go_wp2_with fail
  go_ret
  exact ⟨rfl, (below_alloc (below_alloc (Below.refl _ _)))⟩
set_option maxRecDepth 100000 in
set_option maxHeartbeats 2000000 in
theorem pl21 (d0 d1 d2 bo fr tr ag : Int) (K : Option Addr) (kc : Nat) (ks : List Cls) (j : JV) (Y : Option Addr) (cj : Nat) (hl : ks.length ≤ 4611686018427387904) (h0 : inB j.id 1 2147483647 = true) (h1 : inB j.us 1 255 = true) (h2 : inB j.cl 0 ((ks.length : Int) - 1) = false) (h4 : inB j.pr (-1000) 1000 = true) (h5 : inB j.ca 0 1099511627776 = false) (w : World) :
    Calls Try.prog 49 #[.agg #[.int .i64 d0, .int .i64 d1, .int .i64 d2, .int .i64 bo, .int .i64 fr, .int .i64 tr, .int .i64 ag, .slice K ks.length kc], .agg #[.int .i64 j.id, .int .i64 j.us, .int .i64 j.cl, .int .i64 j.x.a, .int .i64 j.x.b, .int .i64 j.x.c, .bool j.x.p, .bool j.x.q, .bool j.x.r, .bool j.x.tn, .int .i64 j.wa, .int .i64 j.pr, .bool j.he, .slice Y j.af.length cj, .int .u8 j.st, .int .i64 j.ca]] w fun e w' => e = .returned (.bool false) ∧ Below w.heap.size w w' := by
  have H0 := Lib.hid h0
  have H1 := Lib.hid h1
  have H2 := Lib.hid h2
  have H4 := Lib.hid h4
  have H5 := Lib.hid h5
  have e1 : IntKind.i64.wrap ((ks.length : Int) - 1) = (ks.length : Int) - 1 := IntWalk.i64_in _ (by omega)
  clear h0 h1 h2 h4 h5
  go_enter Try.func49, Try.ntmps49
  go_wp2_with fail
  refine (jwithin _ _ _ _ H0.out _).mono ?_
  rintro e w' ⟨rfl, rfl⟩
  go_wp2_with fail
  refine (jwithin _ _ _ _ H1.out _).mono ?_
  rintro e w' ⟨rfl, rfl⟩
  go_wp2_with fail
  refine (jwithin _ _ _ _ H2.out _).mono ?_
  rintro e w' ⟨rfl, rfl⟩
  go_wp2_with fail
  refine (jwithin _ _ _ _ H4.out _).mono ?_
  rintro e w' ⟨rfl, rfl⟩
  go_wp2_with fail
  refine (jwithin _ _ _ _ H5.out _).mono ?_
  rintro e w' ⟨rfl, rfl⟩
  go_wp2_with fail
  go_ret
  exact ⟨rfl, (below_alloc (below_alloc (Below.refl _ _)))⟩
set_option maxRecDepth 100000 in
set_option maxHeartbeats 2000000 in
theorem pl22 (d0 d1 d2 bo fr tr ag : Int) (K : Option Addr) (kc : Nat) (ks : List Cls) (j : JV) (Y : Option Addr) (cj : Nat) (hl : ks.length ≤ 4611686018427387904) (h0 : inB j.id 1 2147483647 = true) (h1 : inB j.us 1 255 = true) (h2 : inB j.cl 0 ((ks.length : Int) - 1) = false) (h4 : inB j.pr (-1000) 1000 = true) (h5 : inB j.ca 0 1099511627776 = true) (w : World) :
    Calls Try.prog 49 #[.agg #[.int .i64 d0, .int .i64 d1, .int .i64 d2, .int .i64 bo, .int .i64 fr, .int .i64 tr, .int .i64 ag, .slice K ks.length kc], .agg #[.int .i64 j.id, .int .i64 j.us, .int .i64 j.cl, .int .i64 j.x.a, .int .i64 j.x.b, .int .i64 j.x.c, .bool j.x.p, .bool j.x.q, .bool j.x.r, .bool j.x.tn, .int .i64 j.wa, .int .i64 j.pr, .bool j.he, .slice Y j.af.length cj, .int .u8 j.st, .int .i64 j.ca]] w fun e w' => e = .returned (.bool false) ∧ Below w.heap.size w w' := by
  have H0 := Lib.hid h0
  have H1 := Lib.hid h1
  have H2 := Lib.hid h2
  have H4 := Lib.hid h4
  have H5 := Lib.hid h5
  have e1 : IntKind.i64.wrap ((ks.length : Int) - 1) = (ks.length : Int) - 1 := IntWalk.i64_in _ (by omega)
  clear h0 h1 h2 h4 h5
  go_enter Try.func49, Try.ntmps49
  go_wp2_with fail
  refine (jwithin _ _ _ _ H0.out _).mono ?_
  rintro e w' ⟨rfl, rfl⟩
  go_wp2_with fail
  refine (jwithin _ _ _ _ H1.out _).mono ?_
  rintro e w' ⟨rfl, rfl⟩
  go_wp2_with fail
  refine (jwithin _ _ _ _ H2.out _).mono ?_
  rintro e w' ⟨rfl, rfl⟩
  go_wp2_with fail
  refine (jwithin _ _ _ _ H4.out _).mono ?_
  rintro e w' ⟨rfl, rfl⟩
  go_wp2_with fail
  refine (jwithin _ _ _ _ H5.out _).mono ?_
  rintro e w' ⟨rfl, rfl⟩
  go_wp2_with fail
  go_ret
  exact ⟨rfl, (below_alloc (below_alloc (Below.refl _ _)))⟩
set_option maxRecDepth 100000 in
set_option maxHeartbeats 2000000 in
theorem pl30 (d0 d1 d2 bo fr tr ag : Int) (K : Option Addr) (kc : Nat) (ks : List Cls) (j : JV) (Y : Option Addr) (cj : Nat) (hl : ks.length ≤ 4611686018427387904) (h0 : inB j.id 1 2147483647 = true) (h1 : inB j.us 1 255 = true) (h2 : inB j.cl 0 ((ks.length : Int) - 1) = true) (h3 : inB j.wa 1 1048576 = false) (h4 : inB j.pr (-1000) 1000 = false) (w : World) :
    Calls Try.prog 49 #[.agg #[.int .i64 d0, .int .i64 d1, .int .i64 d2, .int .i64 bo, .int .i64 fr, .int .i64 tr, .int .i64 ag, .slice K ks.length kc], .agg #[.int .i64 j.id, .int .i64 j.us, .int .i64 j.cl, .int .i64 j.x.a, .int .i64 j.x.b, .int .i64 j.x.c, .bool j.x.p, .bool j.x.q, .bool j.x.r, .bool j.x.tn, .int .i64 j.wa, .int .i64 j.pr, .bool j.he, .slice Y j.af.length cj, .int .u8 j.st, .int .i64 j.ca]] w fun e w' => e = .returned (.bool false) ∧ Below w.heap.size w w' := by
  have H0 := Lib.hid h0
  have H1 := Lib.hid h1
  have H2 := Lib.hid h2
  have H3 := Lib.hid h3
  have H4 := Lib.hid h4
  have e1 : IntKind.i64.wrap ((ks.length : Int) - 1) = (ks.length : Int) - 1 := IntWalk.i64_in _ (by omega)
  clear h0 h1 h2 h3 h4
  go_enter Try.func49, Try.ntmps49
  go_wp2_with fail
  refine (jwithin _ _ _ _ H0.out _).mono ?_
  rintro e w' ⟨rfl, rfl⟩
  go_wp2_with fail
  refine (jwithin _ _ _ _ H1.out _).mono ?_
  rintro e w' ⟨rfl, rfl⟩
  go_wp2_with fail
  refine (jwithin _ _ _ _ H2.out _).mono ?_
  rintro e w' ⟨rfl, rfl⟩
  go_wp2_with fail
  refine (jwithin _ _ _ _ H3.out _).mono ?_
  rintro e w' ⟨rfl, rfl⟩
  go_wp2_with fail
  refine (jwithin _ _ _ _ H4.out _).mono ?_
  rintro e w' ⟨rfl, rfl⟩
  go_wp2_with fail
  go_ret
  exact ⟨rfl, (below_alloc (below_alloc (Below.refl _ _)))⟩
set_option maxRecDepth 100000 in
set_option maxHeartbeats 2000000 in
theorem pl31 (d0 d1 d2 bo fr tr ag : Int) (K : Option Addr) (kc : Nat) (ks : List Cls) (j : JV) (Y : Option Addr) (cj : Nat) (hl : ks.length ≤ 4611686018427387904) (h0 : inB j.id 1 2147483647 = true) (h1 : inB j.us 1 255 = true) (h2 : inB j.cl 0 ((ks.length : Int) - 1) = true) (h3 : inB j.wa 1 1048576 = false) (h4 : inB j.pr (-1000) 1000 = true) (h5 : inB j.ca 0 1099511627776 = false) (w : World) :
    Calls Try.prog 49 #[.agg #[.int .i64 d0, .int .i64 d1, .int .i64 d2, .int .i64 bo, .int .i64 fr, .int .i64 tr, .int .i64 ag, .slice K ks.length kc], .agg #[.int .i64 j.id, .int .i64 j.us, .int .i64 j.cl, .int .i64 j.x.a, .int .i64 j.x.b, .int .i64 j.x.c, .bool j.x.p, .bool j.x.q, .bool j.x.r, .bool j.x.tn, .int .i64 j.wa, .int .i64 j.pr, .bool j.he, .slice Y j.af.length cj, .int .u8 j.st, .int .i64 j.ca]] w fun e w' => e = .returned (.bool false) ∧ Below w.heap.size w w' := by
  have H0 := Lib.hid h0
  have H1 := Lib.hid h1
  have H2 := Lib.hid h2
  have H3 := Lib.hid h3
  have H4 := Lib.hid h4
  have H5 := Lib.hid h5
  have e1 : IntKind.i64.wrap ((ks.length : Int) - 1) = (ks.length : Int) - 1 := IntWalk.i64_in _ (by omega)
  clear h0 h1 h2 h3 h4 h5
  go_enter Try.func49, Try.ntmps49
  go_wp2_with fail
  refine (jwithin _ _ _ _ H0.out _).mono ?_
  rintro e w' ⟨rfl, rfl⟩
  go_wp2_with fail
  refine (jwithin _ _ _ _ H1.out _).mono ?_
  rintro e w' ⟨rfl, rfl⟩
  go_wp2_with fail
  refine (jwithin _ _ _ _ H2.out _).mono ?_
  rintro e w' ⟨rfl, rfl⟩
  go_wp2_with fail
  refine (jwithin _ _ _ _ H3.out _).mono ?_
  rintro e w' ⟨rfl, rfl⟩
  go_wp2_with fail
  refine (jwithin _ _ _ _ H4.out _).mono ?_
  rintro e w' ⟨rfl, rfl⟩
  go_wp2_with fail
  refine (jwithin _ _ _ _ H5.out _).mono ?_
  rintro e w' ⟨rfl, rfl⟩
  go_wp2_with fail
  go_ret
  exact ⟨rfl, (below_alloc (below_alloc (Below.refl _ _)))⟩
set_option maxRecDepth 100000 in
set_option maxHeartbeats 2000000 in
theorem pl32 (d0 d1 d2 bo fr tr ag : Int) (K : Option Addr) (kc : Nat) (ks : List Cls) (j : JV) (Y : Option Addr) (cj : Nat) (hl : ks.length ≤ 4611686018427387904) (h0 : inB j.id 1 2147483647 = true) (h1 : inB j.us 1 255 = true) (h2 : inB j.cl 0 ((ks.length : Int) - 1) = true) (h3 : inB j.wa 1 1048576 = false) (h4 : inB j.pr (-1000) 1000 = true) (h5 : inB j.ca 0 1099511627776 = true) (w : World) :
    Calls Try.prog 49 #[.agg #[.int .i64 d0, .int .i64 d1, .int .i64 d2, .int .i64 bo, .int .i64 fr, .int .i64 tr, .int .i64 ag, .slice K ks.length kc], .agg #[.int .i64 j.id, .int .i64 j.us, .int .i64 j.cl, .int .i64 j.x.a, .int .i64 j.x.b, .int .i64 j.x.c, .bool j.x.p, .bool j.x.q, .bool j.x.r, .bool j.x.tn, .int .i64 j.wa, .int .i64 j.pr, .bool j.he, .slice Y j.af.length cj, .int .u8 j.st, .int .i64 j.ca]] w fun e w' => e = .returned (.bool false) ∧ Below w.heap.size w w' := by
  have H0 := Lib.hid h0
  have H1 := Lib.hid h1
  have H2 := Lib.hid h2
  have H3 := Lib.hid h3
  have H4 := Lib.hid h4
  have H5 := Lib.hid h5
  have e1 : IntKind.i64.wrap ((ks.length : Int) - 1) = (ks.length : Int) - 1 := IntWalk.i64_in _ (by omega)
  clear h0 h1 h2 h3 h4 h5
  go_enter Try.func49, Try.ntmps49
  go_wp2_with fail
  refine (jwithin _ _ _ _ H0.out _).mono ?_
  rintro e w' ⟨rfl, rfl⟩
  go_wp2_with fail
  refine (jwithin _ _ _ _ H1.out _).mono ?_
  rintro e w' ⟨rfl, rfl⟩
  go_wp2_with fail
  refine (jwithin _ _ _ _ H2.out _).mono ?_
  rintro e w' ⟨rfl, rfl⟩
  go_wp2_with fail
  refine (jwithin _ _ _ _ H3.out _).mono ?_
  rintro e w' ⟨rfl, rfl⟩
  go_wp2_with fail
  refine (jwithin _ _ _ _ H4.out _).mono ?_
  rintro e w' ⟨rfl, rfl⟩
  go_wp2_with fail
  refine (jwithin _ _ _ _ H5.out _).mono ?_
  rintro e w' ⟨rfl, rfl⟩
  go_wp2_with fail
  go_ret
  exact ⟨rfl, (below_alloc (below_alloc (Below.refl _ _)))⟩
set_option maxRecDepth 100000 in
set_option maxHeartbeats 2000000 in
theorem pl40 (d0 d1 d2 bo fr tr ag : Int) (K : Option Addr) (kc : Nat) (ks : List Cls) (j : JV) (Y : Option Addr) (cj : Nat) (hl : ks.length ≤ 4611686018427387904) (h0 : inB j.id 1 2147483647 = true) (h1 : inB j.us 1 255 = true) (h2 : inB j.cl 0 ((ks.length : Int) - 1) = true) (h3 : inB j.wa 1 1048576 = true) (h4 : inB j.pr (-1000) 1000 = false) (w : World) :
    Calls Try.prog 49 #[.agg #[.int .i64 d0, .int .i64 d1, .int .i64 d2, .int .i64 bo, .int .i64 fr, .int .i64 tr, .int .i64 ag, .slice K ks.length kc], .agg #[.int .i64 j.id, .int .i64 j.us, .int .i64 j.cl, .int .i64 j.x.a, .int .i64 j.x.b, .int .i64 j.x.c, .bool j.x.p, .bool j.x.q, .bool j.x.r, .bool j.x.tn, .int .i64 j.wa, .int .i64 j.pr, .bool j.he, .slice Y j.af.length cj, .int .u8 j.st, .int .i64 j.ca]] w fun e w' => e = .returned (.bool false) ∧ Below w.heap.size w w' := by
  have H0 := Lib.hid h0
  have H1 := Lib.hid h1
  have H2 := Lib.hid h2
  have H3 := Lib.hid h3
  have H4 := Lib.hid h4
  have e1 : IntKind.i64.wrap ((ks.length : Int) - 1) = (ks.length : Int) - 1 := IntWalk.i64_in _ (by omega)
  clear h0 h1 h2 h3 h4
  go_enter Try.func49, Try.ntmps49
  go_wp2_with fail
  refine (jwithin _ _ _ _ H0.out _).mono ?_
  rintro e w' ⟨rfl, rfl⟩
  go_wp2_with fail
  refine (jwithin _ _ _ _ H1.out _).mono ?_
  rintro e w' ⟨rfl, rfl⟩
  go_wp2_with fail
  refine (jwithin _ _ _ _ H2.out _).mono ?_
  rintro e w' ⟨rfl, rfl⟩
  go_wp2_with fail
  refine (jwithin _ _ _ _ H3.out _).mono ?_
  rintro e w' ⟨rfl, rfl⟩
  go_wp2_with fail
  refine (jwithin _ _ _ _ H4.out _).mono ?_
  rintro e w' ⟨rfl, rfl⟩
  go_wp2_with fail
  go_ret
  exact ⟨rfl, (below_alloc (below_alloc (Below.refl _ _)))⟩
set_option maxRecDepth 100000 in
set_option maxHeartbeats 2000000 in
theorem pl41 (d0 d1 d2 bo fr tr ag : Int) (K : Option Addr) (kc : Nat) (ks : List Cls) (j : JV) (Y : Option Addr) (cj : Nat) (hl : ks.length ≤ 4611686018427387904) (h0 : inB j.id 1 2147483647 = true) (h1 : inB j.us 1 255 = true) (h2 : inB j.cl 0 ((ks.length : Int) - 1) = true) (h3 : inB j.wa 1 1048576 = true) (h4 : inB j.pr (-1000) 1000 = true) (h5 : inB j.ca 0 1099511627776 = false) (w : World) :
    Calls Try.prog 49 #[.agg #[.int .i64 d0, .int .i64 d1, .int .i64 d2, .int .i64 bo, .int .i64 fr, .int .i64 tr, .int .i64 ag, .slice K ks.length kc], .agg #[.int .i64 j.id, .int .i64 j.us, .int .i64 j.cl, .int .i64 j.x.a, .int .i64 j.x.b, .int .i64 j.x.c, .bool j.x.p, .bool j.x.q, .bool j.x.r, .bool j.x.tn, .int .i64 j.wa, .int .i64 j.pr, .bool j.he, .slice Y j.af.length cj, .int .u8 j.st, .int .i64 j.ca]] w fun e w' => e = .returned (.bool false) ∧ Below w.heap.size w w' := by
  have H0 := Lib.hid h0
  have H1 := Lib.hid h1
  have H2 := Lib.hid h2
  have H3 := Lib.hid h3
  have H4 := Lib.hid h4
  have H5 := Lib.hid h5
  have e1 : IntKind.i64.wrap ((ks.length : Int) - 1) = (ks.length : Int) - 1 := IntWalk.i64_in _ (by omega)
  clear h0 h1 h2 h3 h4 h5
  go_enter Try.func49, Try.ntmps49
  go_wp2_with fail
  refine (jwithin _ _ _ _ H0.out _).mono ?_
  rintro e w' ⟨rfl, rfl⟩
  go_wp2_with fail
  refine (jwithin _ _ _ _ H1.out _).mono ?_
  rintro e w' ⟨rfl, rfl⟩
  go_wp2_with fail
  refine (jwithin _ _ _ _ H2.out _).mono ?_
  rintro e w' ⟨rfl, rfl⟩
  go_wp2_with fail
  refine (jwithin _ _ _ _ H3.out _).mono ?_
  rintro e w' ⟨rfl, rfl⟩
  go_wp2_with fail
  refine (jwithin _ _ _ _ H4.out _).mono ?_
  rintro e w' ⟨rfl, rfl⟩
  go_wp2_with fail
  refine (jwithin _ _ _ _ H5.out _).mono ?_
  rintro e w' ⟨rfl, rfl⟩
  go_wp2_with fail
  go_ret
  exact ⟨rfl, (below_alloc (below_alloc (Below.refl _ _)))⟩
set_option maxRecDepth 100000 in
set_option maxHeartbeats 2000000 in
theorem pl42lo (d0 d1 d2 bo fr tr ag : Int) (K : Option Addr) (kc : Nat) (ks : List Cls) (j : JV) (Y : Option Addr) (cj : Nat) (hl : ks.length ≤ 4611686018427387904) (h0 : inB j.id 1 2147483647 = true) (h1 : inB j.us 1 255 = true) (h2 : inB j.cl 0 ((ks.length : Int) - 1) = true) (h3 : inB j.wa 1 1048576 = true) (h4 : inB j.pr (-1000) 1000 = true) (h5 : inB j.ca 0 1099511627776 = true) (t0 : ¬ 1 ≤ j.st) (w : World) :
    Calls Try.prog 49 #[.agg #[.int .i64 d0, .int .i64 d1, .int .i64 d2, .int .i64 bo, .int .i64 fr, .int .i64 tr, .int .i64 ag, .slice K ks.length kc], .agg #[.int .i64 j.id, .int .i64 j.us, .int .i64 j.cl, .int .i64 j.x.a, .int .i64 j.x.b, .int .i64 j.x.c, .bool j.x.p, .bool j.x.q, .bool j.x.r, .bool j.x.tn, .int .i64 j.wa, .int .i64 j.pr, .bool j.he, .slice Y j.af.length cj, .int .u8 j.st, .int .i64 j.ca]] w fun e w' => e = .returned (.bool false) ∧ Below w.heap.size w w' := by
  have H0 := Lib.hid h0
  have H1 := Lib.hid h1
  have H2 := Lib.hid h2
  have H3 := Lib.hid h3
  have H4 := Lib.hid h4
  have H5 := Lib.hid h5
  have e1 : IntKind.i64.wrap ((ks.length : Int) - 1) = (ks.length : Int) - 1 := IntWalk.i64_in _ (by omega)
  clear h0 h1 h2 h3 h4 h5
  go_enter Try.func49, Try.ntmps49
  go_wp2_with fail
  refine (jwithin _ _ _ _ H0.out _).mono ?_
  rintro e w' ⟨rfl, rfl⟩
  go_wp2_with fail
  refine (jwithin _ _ _ _ H1.out _).mono ?_
  rintro e w' ⟨rfl, rfl⟩
  go_wp2_with fail
  refine (jwithin _ _ _ _ H2.out _).mono ?_
  rintro e w' ⟨rfl, rfl⟩
  go_wp2_with fail
  refine (jwithin _ _ _ _ H3.out _).mono ?_
  rintro e w' ⟨rfl, rfl⟩
  go_wp2_with fail
  refine (jwithin _ _ _ _ H4.out _).mono ?_
  rintro e w' ⟨rfl, rfl⟩
  go_wp2_with fail
  refine (jwithin _ _ _ _ H5.out _).mono ?_
  rintro e w' ⟨rfl, rfl⟩
  go_wp2_with fail
  go_ret
  exact ⟨rfl, (below_alloc (below_alloc (Below.refl _ _)))⟩
set_option maxRecDepth 100000 in
set_option maxHeartbeats 2000000 in
theorem pl42hi (d0 d1 d2 bo fr tr ag : Int) (K : Option Addr) (kc : Nat) (ks : List Cls) (j : JV) (Y : Option Addr) (cj : Nat) (hl : ks.length ≤ 4611686018427387904) (h0 : inB j.id 1 2147483647 = true) (h1 : inB j.us 1 255 = true) (h2 : inB j.cl 0 ((ks.length : Int) - 1) = true) (h3 : inB j.wa 1 1048576 = true) (h4 : inB j.pr (-1000) 1000 = true) (h5 : inB j.ca 0 1099511627776 = true) (t0 : 1 ≤ j.st) (t1 : ¬ j.st ≤ 6) (w : World) :
    Calls Try.prog 49 #[.agg #[.int .i64 d0, .int .i64 d1, .int .i64 d2, .int .i64 bo, .int .i64 fr, .int .i64 tr, .int .i64 ag, .slice K ks.length kc], .agg #[.int .i64 j.id, .int .i64 j.us, .int .i64 j.cl, .int .i64 j.x.a, .int .i64 j.x.b, .int .i64 j.x.c, .bool j.x.p, .bool j.x.q, .bool j.x.r, .bool j.x.tn, .int .i64 j.wa, .int .i64 j.pr, .bool j.he, .slice Y j.af.length cj, .int .u8 j.st, .int .i64 j.ca]] w fun e w' => e = .returned (.bool false) ∧ Below w.heap.size w w' := by
  have H0 := Lib.hid h0
  have H1 := Lib.hid h1
  have H2 := Lib.hid h2
  have H3 := Lib.hid h3
  have H4 := Lib.hid h4
  have H5 := Lib.hid h5
  have e1 : IntKind.i64.wrap ((ks.length : Int) - 1) = (ks.length : Int) - 1 := IntWalk.i64_in _ (by omega)
  clear h0 h1 h2 h3 h4 h5
  go_enter Try.func49, Try.ntmps49
  go_wp2_with fail
  refine (jwithin _ _ _ _ H0.out _).mono ?_
  rintro e w' ⟨rfl, rfl⟩
  go_wp2_with fail
  refine (jwithin _ _ _ _ H1.out _).mono ?_
  rintro e w' ⟨rfl, rfl⟩
  go_wp2_with fail
  refine (jwithin _ _ _ _ H2.out _).mono ?_
  rintro e w' ⟨rfl, rfl⟩
  go_wp2_with fail
  refine (jwithin _ _ _ _ H3.out _).mono ?_
  rintro e w' ⟨rfl, rfl⟩
  go_wp2_with fail
  refine (jwithin _ _ _ _ H4.out _).mono ?_
  rintro e w' ⟨rfl, rfl⟩
  go_wp2_with fail
  refine (jwithin _ _ _ _ H5.out _).mono ?_
  rintro e w' ⟨rfl, rfl⟩
  go_wp2_with fail
  go_ret
  exact ⟨rfl, (below_alloc (below_alloc (Below.refl _ _)))⟩
set_option maxRecDepth 100000 in
set_option maxHeartbeats 2000000 in
theorem pl42free (d0 d1 d2 bo fr tr ag : Int) (K : Option Addr) (kc : Nat) (ks : List Cls) (j : JV) (Y : Option Addr) (cj : Nat) (hl : ks.length ≤ 4611686018427387904) (h0 : inB j.id 1 2147483647 = true) (h1 : inB j.us 1 255 = true) (h2 : inB j.cl 0 ((ks.length : Int) - 1) = true) (h3 : inB j.wa 1 1048576 = true) (h4 : inB j.pr (-1000) 1000 = true) (h5 : inB j.ca 0 1099511627776 = true) (t0 : 1 ≤ j.st) (t1 : j.st ≤ 6) (t2 : j.he = false) (w : World) :
    Calls Try.prog 49 #[.agg #[.int .i64 d0, .int .i64 d1, .int .i64 d2, .int .i64 bo, .int .i64 fr, .int .i64 tr, .int .i64 ag, .slice K ks.length kc], .agg #[.int .i64 j.id, .int .i64 j.us, .int .i64 j.cl, .int .i64 j.x.a, .int .i64 j.x.b, .int .i64 j.x.c, .bool j.x.p, .bool j.x.q, .bool j.x.r, .bool j.x.tn, .int .i64 j.wa, .int .i64 j.pr, .bool j.he, .slice Y j.af.length cj, .int .u8 j.st, .int .i64 j.ca]] w fun e w' => e = .returned (.bool true) ∧ Below w.heap.size w w' := by
  have H0 := Lib.hid h0
  have H1 := Lib.hid h1
  have H2 := Lib.hid h2
  have H3 := Lib.hid h3
  have H4 := Lib.hid h4
  have H5 := Lib.hid h5
  have e1 : IntKind.i64.wrap ((ks.length : Int) - 1) = (ks.length : Int) - 1 := IntWalk.i64_in _ (by omega)
  clear h0 h1 h2 h3 h4 h5
  rw [t2]
  go_enter Try.func49, Try.ntmps49
  go_wp2_with fail
  refine (jwithin _ _ _ _ H0.out _).mono ?_
  rintro e w' ⟨rfl, rfl⟩
  go_wp2_with fail
  refine (jwithin _ _ _ _ H1.out _).mono ?_
  rintro e w' ⟨rfl, rfl⟩
  go_wp2_with fail
  refine (jwithin _ _ _ _ H2.out _).mono ?_
  rintro e w' ⟨rfl, rfl⟩
  go_wp2_with fail
  refine (jwithin _ _ _ _ H3.out _).mono ?_
  rintro e w' ⟨rfl, rfl⟩
  go_wp2_with fail
  refine (jwithin _ _ _ _ H4.out _).mono ?_
  rintro e w' ⟨rfl, rfl⟩
  go_wp2_with fail
  refine (jwithin _ _ _ _ H5.out _).mono ?_
  rintro e w' ⟨rfl, rfl⟩
  go_wp2_with fail
  go_ret
  exact ⟨rfl, (below_alloc (below_alloc (Below.refl _ _)))⟩
set_option maxRecDepth 100000 in
set_option maxHeartbeats 2000000 in
theorem pl42waits (d0 d1 d2 bo fr tr ag : Int) (K : Option Addr) (kc : Nat) (ks : List Cls) (j : JV) (Y : Option Addr) (cj : Nat) (hl : ks.length ≤ 4611686018427387904) (h0 : inB j.id 1 2147483647 = true) (h1 : inB j.us 1 255 = true) (h2 : inB j.cl 0 ((ks.length : Int) - 1) = true) (h3 : inB j.wa 1 1048576 = true) (h4 : inB j.pr (-1000) 1000 = true) (h5 : inB j.ca 0 1099511627776 = true) (t0 : 1 ≤ j.st) (t1 : j.st ≤ 6) (t2 : j.he = true) (t3 : j.st = 1) (w : World) :
    Calls Try.prog 49 #[.agg #[.int .i64 d0, .int .i64 d1, .int .i64 d2, .int .i64 bo, .int .i64 fr, .int .i64 tr, .int .i64 ag, .slice K ks.length kc], .agg #[.int .i64 j.id, .int .i64 j.us, .int .i64 j.cl, .int .i64 j.x.a, .int .i64 j.x.b, .int .i64 j.x.c, .bool j.x.p, .bool j.x.q, .bool j.x.r, .bool j.x.tn, .int .i64 j.wa, .int .i64 j.pr, .bool j.he, .slice Y j.af.length cj, .int .u8 j.st, .int .i64 j.ca]] w fun e w' => e = .returned (.bool true) ∧ Below w.heap.size w w' := by
  have H0 := Lib.hid h0
  have H1 := Lib.hid h1
  have H2 := Lib.hid h2
  have H3 := Lib.hid h3
  have H4 := Lib.hid h4
  have H5 := Lib.hid h5
  have e1 : IntKind.i64.wrap ((ks.length : Int) - 1) = (ks.length : Int) - 1 := IntWalk.i64_in _ (by omega)
  clear h0 h1 h2 h3 h4 h5
  rw [t2]
  go_enter Try.func49, Try.ntmps49
  go_wp2_with fail
  refine (jwithin _ _ _ _ H0.out _).mono ?_
  rintro e w' ⟨rfl, rfl⟩
  go_wp2_with fail
  refine (jwithin _ _ _ _ H1.out _).mono ?_
  rintro e w' ⟨rfl, rfl⟩
  go_wp2_with fail
  refine (jwithin _ _ _ _ H2.out _).mono ?_
  rintro e w' ⟨rfl, rfl⟩
  go_wp2_with fail
  refine (jwithin _ _ _ _ H3.out _).mono ?_
  rintro e w' ⟨rfl, rfl⟩
  go_wp2_with fail
  refine (jwithin _ _ _ _ H4.out _).mono ?_
  rintro e w' ⟨rfl, rfl⟩
  go_wp2_with fail
  refine (jwithin _ _ _ _ H5.out _).mono ?_
  rintro e w' ⟨rfl, rfl⟩
  go_wp2_with fail
  go_ret
  exact ⟨rfl, (below_alloc (below_alloc (Below.refl _ _)))⟩
set_option maxRecDepth 100000 in
set_option maxHeartbeats 2000000 in
theorem pl42held (d0 d1 d2 bo fr tr ag : Int) (K : Option Addr) (kc : Nat) (ks : List Cls) (j : JV) (Y : Option Addr) (cj : Nat) (hl : ks.length ≤ 4611686018427387904) (h0 : inB j.id 1 2147483647 = true) (h1 : inB j.us 1 255 = true) (h2 : inB j.cl 0 ((ks.length : Int) - 1) = true) (h3 : inB j.wa 1 1048576 = true) (h4 : inB j.pr (-1000) 1000 = true) (h5 : inB j.ca 0 1099511627776 = true) (t0 : 1 ≤ j.st) (t1 : j.st ≤ 6) (t2 : j.he = true) (t3 : ¬ j.st = 1) (w : World) :
    Calls Try.prog 49 #[.agg #[.int .i64 d0, .int .i64 d1, .int .i64 d2, .int .i64 bo, .int .i64 fr, .int .i64 tr, .int .i64 ag, .slice K ks.length kc], .agg #[.int .i64 j.id, .int .i64 j.us, .int .i64 j.cl, .int .i64 j.x.a, .int .i64 j.x.b, .int .i64 j.x.c, .bool j.x.p, .bool j.x.q, .bool j.x.r, .bool j.x.tn, .int .i64 j.wa, .int .i64 j.pr, .bool j.he, .slice Y j.af.length cj, .int .u8 j.st, .int .i64 j.ca]] w fun e w' => e = .returned (.bool false) ∧ Below w.heap.size w w' := by
  have H0 := Lib.hid h0
  have H1 := Lib.hid h1
  have H2 := Lib.hid h2
  have H3 := Lib.hid h3
  have H4 := Lib.hid h4
  have H5 := Lib.hid h5
  have e1 : IntKind.i64.wrap ((ks.length : Int) - 1) = (ks.length : Int) - 1 := IntWalk.i64_in _ (by omega)
  clear h0 h1 h2 h3 h4 h5
  rw [t2]
  have t4 : (j.st == 1) = false := by simpa using t3
  go_enter Try.func49, Try.ntmps49
  go_wp2_with fail
  refine (jwithin _ _ _ _ H0.out _).mono ?_
  rintro e w' ⟨rfl, rfl⟩
  go_wp2_with fail
  refine (jwithin _ _ _ _ H1.out _).mono ?_
  rintro e w' ⟨rfl, rfl⟩
  go_wp2_with fail
  refine (jwithin _ _ _ _ H2.out _).mono ?_
  rintro e w' ⟨rfl, rfl⟩
  go_wp2_with fail
  refine (jwithin _ _ _ _ H3.out _).mono ?_
  rintro e w' ⟨rfl, rfl⟩
  go_wp2_with fail
  refine (jwithin _ _ _ _ H4.out _).mono ?_
  rintro e w' ⟨rfl, rfl⟩
  go_wp2_with fail
  refine (jwithin _ _ _ _ H5.out _).mono ?_
  rintro e w' ⟨rfl, rfl⟩
  go_wp2_with fail
  go_ret
  exact ⟨rfl, (below_alloc (below_alloc (Below.refl _ _)))⟩
set_option maxRecDepth 100000 in
set_option maxHeartbeats 1000000 in
theorem jplain (d0 d1 d2 bo fr tr ag : Int) (K : Option Addr) (kc : Nat) (ks : List Cls) (j : JV) (Y : Option Addr) (cj : Nat) (hl : ks.length ≤ 4611686018427387904) (r : Bool) (h : plainB ks.length j = r) (w : World) :
    Calls Try.prog 49 #[.agg #[.int .i64 d0, .int .i64 d1, .int .i64 d2, .int .i64 bo, .int .i64 fr, .int .i64 tr, .int .i64 ag, .slice K ks.length kc], .agg #[.int .i64 j.id, .int .i64 j.us, .int .i64 j.cl, .int .i64 j.x.a, .int .i64 j.x.b, .int .i64 j.x.c, .bool j.x.p, .bool j.x.q, .bool j.x.r, .bool j.x.tn, .int .i64 j.wa, .int .i64 j.pr, .bool j.he, .slice Y j.af.length cj, .int .u8 j.st, .int .i64 j.ca]] w fun e w' => e = .returned (.bool r) ∧ Below w.heap.size w w' := by
  cases h0 : inB j.id 1 2147483647
  · skip
    cases h4 : inB j.pr (-1000) 1000
    · skip
      have er : r = false := by rw [← h]; unfold plainB; simp [h0, h4]
      subst er
      exact pl00 d0 d1 d2 bo fr tr ag K kc ks j Y cj hl h0 h4  w
    · cases h5 : inB j.ca 0 1099511627776
      · skip
        have er : r = false := by rw [← h]; unfold plainB; simp [h0, h4, h5]
        subst er
        exact pl01 d0 d1 d2 bo fr tr ag K kc ks j Y cj hl h0 h4 h5  w
      · skip
        have er : r = false := by rw [← h]; unfold plainB; simp [h0, h4, h5]
        subst er
        exact pl02 d0 d1 d2 bo fr tr ag K kc ks j Y cj hl h0 h4 h5  w
  · skip
    cases h1 : inB j.us 1 255
    · skip
      cases h4 : inB j.pr (-1000) 1000
      · skip
        have er : r = false := by rw [← h]; unfold plainB; simp [h0, h1, h4]
        subst er
        exact pl10 d0 d1 d2 bo fr tr ag K kc ks j Y cj hl h0 h1 h4  w
      · cases h5 : inB j.ca 0 1099511627776
        · skip
          have er : r = false := by rw [← h]; unfold plainB; simp [h0, h1, h4, h5]
          subst er
          exact pl11 d0 d1 d2 bo fr tr ag K kc ks j Y cj hl h0 h1 h4 h5  w
        · skip
          have er : r = false := by rw [← h]; unfold plainB; simp [h0, h1, h4, h5]
          subst er
          exact pl12 d0 d1 d2 bo fr tr ag K kc ks j Y cj hl h0 h1 h4 h5  w
    · skip
      cases h2 : inB j.cl 0 ((ks.length : Int) - 1)
      · skip
        cases h4 : inB j.pr (-1000) 1000
        · skip
          have er : r = false := by rw [← h]; unfold plainB; simp [h0, h1, h2, h4]
          subst er
          exact pl20 d0 d1 d2 bo fr tr ag K kc ks j Y cj hl h0 h1 h2 h4  w
        · cases h5 : inB j.ca 0 1099511627776
          · skip
            have er : r = false := by rw [← h]; unfold plainB; simp [h0, h1, h2, h4, h5]
            subst er
            exact pl21 d0 d1 d2 bo fr tr ag K kc ks j Y cj hl h0 h1 h2 h4 h5  w
          · skip
            have er : r = false := by rw [← h]; unfold plainB; simp [h0, h1, h2, h4, h5]
            subst er
            exact pl22 d0 d1 d2 bo fr tr ag K kc ks j Y cj hl h0 h1 h2 h4 h5  w
      · skip
        cases h3 : inB j.wa 1 1048576
        · skip
          cases h4 : inB j.pr (-1000) 1000
          · skip
            have er : r = false := by rw [← h]; unfold plainB; simp [h0, h1, h2, h3, h4]
            subst er
            exact pl30 d0 d1 d2 bo fr tr ag K kc ks j Y cj hl h0 h1 h2 h3 h4  w
          · cases h5 : inB j.ca 0 1099511627776
            · skip
              have er : r = false := by rw [← h]; unfold plainB; simp [h0, h1, h2, h3, h4, h5]
              subst er
              exact pl31 d0 d1 d2 bo fr tr ag K kc ks j Y cj hl h0 h1 h2 h3 h4 h5  w
            · skip
              have er : r = false := by rw [← h]; unfold plainB; simp [h0, h1, h2, h3, h4, h5]
              subst er
              exact pl32 d0 d1 d2 bo fr tr ag K kc ks j Y cj hl h0 h1 h2 h3 h4 h5  w
        · skip
          cases h4 : inB j.pr (-1000) 1000
          · skip
            have er : r = false := by rw [← h]; unfold plainB; simp [h0, h1, h2, h3, h4]
            subst er
            exact pl40 d0 d1 d2 bo fr tr ag K kc ks j Y cj hl h0 h1 h2 h3 h4  w
          · cases h5 : inB j.ca 0 1099511627776
            · skip
              have er : r = false := by rw [← h]; unfold plainB; simp [h0, h1, h2, h3, h4, h5]
              subst er
              exact pl41 d0 d1 d2 bo fr tr ag K kc ks j Y cj hl h0 h1 h2 h3 h4 h5  w
            · skip
              by_cases t0 : 1 ≤ j.st
              · by_cases t1 : j.st ≤ 6
                · rcases (show j.he = false ∨ j.he = true by cases j.he <;> simp) with t2 | t2
                  · skip
                    have er : r = true := by rw [← h]; unfold plainB; simp [h0, h1, h2, h3, h4, h5, t0, t1, t2]
                    subst er
                    exact pl42free d0 d1 d2 bo fr tr ag K kc ks j Y cj hl h0 h1 h2 h3 h4 h5 t0 t1 t2 w
                  · by_cases t3 : j.st = 1
                    · skip
                      have er : r = true := by rw [← h]; unfold plainB; simp [h0, h1, h2, h3, h4, h5, t0, t1, t2, t3]
                      subst er
                      exact pl42waits d0 d1 d2 bo fr tr ag K kc ks j Y cj hl h0 h1 h2 h3 h4 h5 t0 t1 t2 t3 w
                    · skip
                      have er : r = false := by rw [← h]; unfold plainB; simp [h0, h1, h2, h3, h4, h5, t0, t1, t2, t3]
                      subst er
                      exact pl42held d0 d1 d2 bo fr tr ag K kc ks j Y cj hl h0 h1 h2 h3 h4 h5 t0 t1 t2 t3 w
                · skip
                  have er : r = false := by rw [← h]; unfold plainB; simp [h0, h1, h2, h3, h4, h5, t0, t1]
                  subst er
                  exact pl42hi d0 d1 d2 bo fr tr ag K kc ks j Y cj hl h0 h1 h2 h3 h4 h5 t0 t1 w
              · skip
                have er : r = false := by rw [← h]; unfold plainB; simp [h0, h1, h2, h3, h4, h5, t0]
                subst er
                exact pl42lo d0 d1 d2 bo fr tr ag K kc ks j Y cj hl h0 h1 h2 h3 h4 h5 t0 w
end Go.Proofs.Ytaldgmmmcbikgaa.JobPlain
