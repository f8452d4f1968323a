/- Several texts joined: job.within and job.plain. -/
import Derived.Test.YtfpljpdjohmbaaaGreatY7
import Derived.IntWalk
import Derived.BigQuiet
/-! job.within and job.plain. -/
namespace Go.Proofs.YtfpljpdjohmbaaaGreat.JobPlain
open Go.RowKit Mem PosMath PartMath TurnMath JobMath
set_option linter.unusedVariables false
set_option linter.unusedSimpArgs false

theorem jwithin (n lo hi : Int) (r : Bool) (h : inB n lo hi = r) (w : World) :
    Calls Tryz.prog 65 #[.int .i64 n, .int .i64 lo, .int .i64 hi] w fun e w' => e = .returned (.bool r) ∧ w = w' := by
  unfold inB at h
  by_cases h1 : lo ≤ n
  · by_cases h2 : n ≤ hi
    · have e : r = true := by rw [← h]; simp [h1, h2]
      subst e
      clear h
      go_enter Tryz.func65, Tryz.ntmps65
      go_wp2
      go_ret
      exact ⟨rfl, rfl⟩
    · have e : r = false := by rw [← h]; simp [h2]
      subst e
      clear h
      go_enter Tryz.func65, Tryz.ntmps65
      go_wp2
      go_ret
      exact ⟨rfl, rfl⟩
  · have e : r = false := by rw [← h]; simp [h1]
    subst e
    clear h
    go_enter Tryz.func65, Tryz.ntmps65
    go_wp2
    go_ret
    exact ⟨rfl, rfl⟩
set_option maxRecDepth 100000 in
set_option maxHeartbeats 2000000 in
theorem pl00 (d0 d1 d2 bo fr tr ag : Int) (K : Option Addr) (kc : Nat) (ks : List Cls) (j : JV) (Y : Option Addr) (cj : Nat) (hl : ks.length ≤ 4611686018427387904) (h0 : inB j.id 1 2147483647 = false) (h4 : inB j.pr (-1000) 1000 = false) (w : World) :
    Calls Tryz.prog 40 #[.agg #[.int .i64 d0, .int .i64 d1, .int .i64 d2, .int .i64 bo, .int .i64 fr, .int .i64 tr, .int .i64 ag, .slice K ks.length kc], .agg #[.int .i64 j.id, .int .i64 j.us, .int .i64 j.cl, .int .i64 j.x.a, .int .i64 j.x.b, .int .i64 j.x.c, .bool j.x.p, .bool j.x.q, .bool j.x.r, .bool j.x.tn, .int .i64 j.wa, .int .i64 j.pr, .bool j.he, .slice Y j.af.length cj, .int .u8 j.st, .int .i64 j.ca]] w fun e w' => e = .returned (.bool false) ∧ Below w.heap.size w w' := by
  have H0 := Lib.hid h0
  have H4 := Lib.hid h4
  have e1 : IntKind.i64.wrap ((ks.length : Int) - 1) = (ks.length : Int) - 1 := IntWalk.i64_in _ (by omega)
  clear h0 h4
  go_enter Tryz.func40, Tryz.ntmps40
  go_wp2_with fail
  refine (jwithin _ _ _ _ H0.out _).mono ?_
  rintro e w' ⟨rfl, rfl⟩
  go_wp2_with fail
  refine (jwithin _ _ _ _ H4.out _).mono ?_
  rintro e w' ⟨rfl, rfl⟩
  go_wp2_with fail
  go_ret
  exact ⟨rfl, (below_alloc (below_alloc (Below.refl _ _)))⟩
set_option maxRecDepth 100000 in
set_option maxHeartbeats 2000000 in
theorem pl01 (d0 d1 d2 bo fr tr ag : Int) (K : Option Addr) (kc : Nat) (ks : List Cls) (j : JV) (Y : Option Addr) (cj : Nat) (hl : ks.length ≤ 4611686018427387904) (h0 : inB j.id 1 2147483647 = false) (h4 : inB j.pr (-1000) 1000 = true) (h5 : inB j.ca 0 1099511627776 = false) (w : World) :
    Calls Tryz.prog 40 #[.agg #[.int .i64 d0, .int .i64 d1, .int .i64 d2, .int .i64 bo, .int .i64 fr, .int .i64 tr, .int .i64 ag, .slice K ks.length kc], .agg #[.int .i64 j.id, .int .i64 j.us, .int .i64 j.cl, .int .i64 j.x.a, .int .i64 j.x.b, .int .i64 j.x.c, .bool j.x.p, .bool j.x.q, .bool j.x.r, .bool j.x.tn, .int .i64 j.wa, .int .i64 j.pr, .bool j.he, .slice Y j.af.length cj, .int .u8 j.st, .int .i64 j.ca]] w fun e w' => e = .returned (.bool false) ∧ Below w.heap.size w w' := by
  have H0 := Lib.hid h0
  have H4 := Lib.hid h4
  have H5 := Lib.hid h5
  have e1 : IntKind.i64.wrap ((ks.length : Int) - 1) = (ks.length : Int) - 1 := IntWalk.i64_in _ (by omega)
  clear h0 h4 h5
  go_enter Tryz.func40, Tryz.ntmps40
  go_wp2_with fail
  refine (jwithin _ _ _ _ H0.out _).mono ?_
  rintro e w' ⟨rfl, rfl⟩
  go_wp2_with fail
  refine (jwithin _ _ _ _ H4.out _).mono ?_
  rintro e w' ⟨rfl, rfl⟩
  go_wp2_with fail
  refine (jwithin _ _ _ _ H5.out _).mono ?_
  rintro e w' ⟨rfl, rfl⟩
  go_wp2_with fail
  go_ret
  exact ⟨rfl, (below_alloc (below_alloc (Below.refl _ _)))⟩
set_option maxRecDepth 100000 in
set_option maxHeartbeats 2000000 in
theorem pl02 (d0 d1 d2 bo fr tr ag : Int) (K : Option Addr) (kc : Nat) (ks : List Cls) (j : JV) (Y : Option Addr) (cj : Nat) (hl : ks.length ≤ 4611686018427387904) (h0 : inB j.id 1 2147483647 = false) (h4 : inB j.pr (-1000) 1000 = true) (h5 : inB j.ca 0 1099511627776 = true) (w : World) :
    Calls Tryz.prog 40 #[.agg #[.int .i64 d0, .int .i64 d1, .int .i64 d2, .int .i64 bo, .int .i64 fr, .int .i64 tr, .int .i64 ag, .slice K ks.length kc], .agg #[.int .i64 j.id, .int .i64 j.us, .int .i64 j.cl, .int .i64 j.x.a, .int .i64 j.x.b, .int .i64 j.x.c, .bool j.x.p, .bool j.x.q, .bool j.x.r, .bool j.x.tn, .int .i64 j.wa, .int .i64 j.pr, .bool j.he, .slice Y j.af.length cj, .int .u8 j.st, .int .i64 j.ca]] w fun e w' => e = .returned (.bool false) ∧ Below w.heap.size w w' := by
  have H0 := Lib.hid h0
  have H4 := Lib.hid h4
  have H5 := Lib.hid h5
  have e1 : IntKind.i64.wrap ((ks.length : Int) - 1) = (ks.length : Int) - 1 := IntWalk.i64_in _ (by omega)
  clear h0 h4 h5
  go_enter Tryz.func40, Tryz.ntmps40
  go_wp2_with fail
  refine (jwithin _ _ _ _ H0.out _).mono ?_
  rintro e w' ⟨rfl, rfl⟩
  go_wp2_with fail
  refine (jwithin _ _ _ _ H4.out _).mono ?_
  rintro e w' ⟨rfl, rfl⟩
  go_wp2_with fail
  refine (jwithin _ _ _ _ H5.out _).mono ?_
  rintro e w' ⟨rfl, rfl⟩
  go_wp2_with fail
  go_ret
  exact ⟨rfl, (below_alloc (below_alloc (Below.refl _ _)))⟩
set_option maxRecDepth 100000 in
set_option maxHeartbeats 2000000 in
theorem pl10 (d0 d1 d2 bo fr tr ag : Int) (K : Option Addr) (kc : Nat) (ks : List Cls) (j : JV) (Y : Option Addr) (cj : Nat) (hl : ks.length ≤ 4611686018427387904) (h0 : inB j.id 1 2147483647 = true) (h1 : inB j.us 1 255 = false) (h4 : inB j.pr (-1000) 1000 = false) (w : World) :
    Calls Tryz.prog 40 #[.agg #[.int .i64 d0, .int .i64 d1, .int .i64 d2, .int .i64 bo, .int .i64 fr, .int .i64 tr, .int .i64 ag, .slice K ks.length kc], .agg #[.int .i64 j.id, .int .i64 j.us, .int .i64 j.cl, .int .i64 j.x.a, .int .i64 j.x.b, .int .i64 j.x.c, .bool j.x.p, .bool j.x.q, .bool j.x.r, .bool j.x.tn, .int .i64 j.wa, .int .i64 j.pr, .bool j.he, .slice Y j.af.length cj, .int .u8 j.st, .int .i64 j.ca]] w fun e w' => e = .returned (.bool false) ∧ Below w.heap.size w w' := by
  have H0 := Lib.hid h0
  have H1 := Lib.hid h1
  have H4 := Lib.hid h4
  have e1 : IntKind.i64.wrap ((ks.length : Int) - 1) = (ks.length : Int) - 1 := IntWalk.i64_in _ (by omega)
  clear h0 h1 h4
  go_enter Tryz.func40, Tryz.ntmps40
  go_wp2_with fail
  refine (jwithin _ _ _ _ H0.out _).mono ?_
  rintro e w' ⟨rfl, rfl⟩
  go_wp2_with fail
  refine (jwithin _ _ _ _ H1.out _).mono ?_
  rintro e w' ⟨rfl, rfl⟩
  go_wp2_with fail
  refine (jwithin _ _ _ _ H4.out _).mono ?_
  rintro e w' ⟨rfl, rfl⟩
  go_wp2_with fail
  go_ret
  exact ⟨rfl, (below_alloc (below_alloc (Below.refl _ _)))⟩
set_option maxRecDepth 100000 in
set_option maxHeartbeats 2000000 in
theorem pl11 (d0 d1 d2 bo fr tr ag : Int) (K : Option Addr) (kc : Nat) (ks : List Cls) (j : JV) (Y : Option Addr) (cj : Nat) (hl : ks.length ≤ 4611686018427387904) (h0 : inB j.id 1 2147483647 = true) (h1 : inB j.us 1 255 = false) (h4 : inB j.pr (-1000) 1000 = true) (h5 : inB j.ca 0 1099511627776 = false) (w : World) :
    Calls Tryz.prog 40 #[.agg #[.int .i64 d0, .int .i64 d1, .int .i64 d2, .int .i64 bo, .int .i64 fr, .int .i64 tr, .int .i64 ag, .slice K ks.length kc], .agg #[.int .i64 j.id, .int .i64 j.us, .int .i64 j.cl, .int .i64 j.x.a, .int .i64 j.x.b, .int .i64 j.x.c, .bool j.x.p, .bool j.x.q, .bool j.x.r, .bool j.x.tn, .int .i64 j.wa, .int .i64 j.pr, .bool j.he, .slice Y j.af.length cj, .int .u8 j.st, .int .i64 j.ca]] w fun e w' => e = .returned (.bool false) ∧ Below w.heap.size w w' := by
  have H0 := Lib.hid h0
  have H1 := Lib.hid h1
  have H4 := Lib.hid h4
  have H5 := Lib.hid h5
  have e1 : IntKind.i64.wrap ((ks.length : Int) - 1) = (ks.length : Int) - 1 := IntWalk.i64_in _ (by omega)
  clear h0 h1 h4 h5
  go_enter Tryz.func40, Tryz.ntmps40
  go_wp2_with fail
  refine (jwithin _ _ _ _ H0.out _).mono ?_
  rintro e w' ⟨rfl, rfl⟩
  go_wp2_with fail
  refine (jwithin _ _ _ _ H1.out _).mono ?_
  rintro e w' ⟨rfl, rfl⟩
  go_wp2_with fail
  refine (jwithin _ _ _ _ H4.out _).mono ?_
  rintro e w' ⟨rfl, rfl⟩
  go_wp2_with fail
  refine (jwithin _ _ _ _ H5.out _).mono ?_
  rintro e w' ⟨rfl, rfl⟩
  go_wp2_with fail
  go_ret
  exact ⟨rfl, (below_alloc (below_alloc (Below.refl _ _)))⟩
set_option maxRecDepth 100000 in
set_option maxHeartbeats 2000000 in
theorem pl12 (d0 d1 d2 bo fr tr ag : Int) (K : Option Addr) (kc : Nat) (ks : List Cls) (j : JV) (Y : Option Addr) (cj : Nat) (hl : ks.length ≤ 4611686018427387904) (h0 : inB j.id 1 2147483647 = true) (h1 : inB j.us 1 255 = false) (h4 : inB j.pr (-1000) 1000 = true) (h5 : inB j.ca 0 1099511627776 = true) (w : World) :
    Calls Tryz.prog 40 #[.agg #[.int .i64 d0, .int .i64 d1, .int .i64 d2, .int .i64 bo, .int .i64 fr, .int .i64 tr, .int .i64 ag, .slice K ks.length kc], .agg #[.int .i64 j.id, .int .i64 j.us, .int .i64 j.cl, .int .i64 j.x.a, .int .i64 j.x.b, .int .i64 j.x.c, .bool j.x.p, .bool j.x.q, .bool j.x.r, .bool j.x.tn, .int .i64 j.wa, .int .i64 j.pr, .bool j.he, .slice Y j.af.length cj, .int .u8 j.st, .int .i64 j.ca]] w fun e w' => e = .returned (.bool false) ∧ Below w.heap.size w w' := by
  have H0 := Lib.hid h0
  have H1 := Lib.hid h1
  have H4 := Lib.hid h4
  have H5 := Lib.hid h5
  have e1 : IntKind.i64.wrap ((ks.length : Int) - 1) = (ks.length : Int) - 1 := IntWalk.i64_in _ (by omega)
  clear h0 h1 h4 h5
  go_enter Tryz.func40, Tryz.ntmps40
  go_wp2_with fail
  refine (jwithin _ _ _ _ H0.out _).mono ?_
  rintro e w' ⟨rfl, rfl⟩
  go_wp2_with fail
  refine (jwithin _ _ _ _ H1.out _).mono ?_
  rintro e w' ⟨rfl, rfl⟩
  go_wp2_with fail
  refine (jwithin _ _ _ _ H4.out _).mono ?_
  rintro e w' ⟨rfl, rfl⟩
  go_wp2_with fail
  refine (jwithin _ _ _ _ H5.out _).mono ?_
  rintro e w' ⟨rfl, rfl⟩
  go_wp2_with fail
  go_ret
  exact ⟨rfl, (below_alloc (below_alloc (Below.refl _ _)))⟩
set_option maxRecDepth 100000 in
set_option maxHeartbeats 2000000 in
theorem pl20 (d0 d1 d2 bo fr tr ag : Int) (K : Option Addr) (kc : Nat) (ks : List Cls) (j : JV) (Y : Option Addr) (cj : Nat) (hl : ks.length ≤ 4611686018427387904) (h0 : inB j.id 1 2147483647 = true) (h1 : inB j.us 1 255 = true) (h2 : inB j.cl 0 ((ks.length : Int) - 1) = false) (h4 : inB j.pr (-1000) 1000 = false) (w : World) :
    Calls Tryz.prog 40 #[.agg #[.int .i64 d0, .int .i64 d1, .int .i64 d2, .int .i64 bo, .int .i64 fr, .int .i64 tr, .int .i64 ag, .slice K ks.length kc], .agg #[.int .i64 j.id, .int .i64 j.us, .int .i64 j.cl, .int .i64 j.x.a, .int .i64 j.x.b, .int .i64 j.x.c, .bool j.x.p, .bool j.x.q, .bool j.x.r, .bool j.x.tn, .int .i64 j.wa, .int .i64 j.pr, .bool j.he, .slice Y j.af.length cj, .int .u8 j.st, .int .i64 j.ca]] w fun e w' => e = .returned (.bool false) ∧ Below w.heap.size w w' := by
  have H0 := Lib.hid h0
  have H1 := Lib.hid h1
  have H2 := Lib.hid h2
  have H4 := Lib.hid h4
  have e1 : IntKind.i64.wrap ((ks.length : Int) - 1) = (ks.length : Int) - 1 := IntWalk.i64_in _ (by omega)
  clear h0 h1 h2 h4
  go_enter Tryz.func40, Tryz.ntmps40
  go_wp2_with fail
  refine (jwithin _ _ _ _ H0.out _).mono ?_
  rintro e w' ⟨rfl, rfl⟩
  go_wp2_with fail
  refine (jwithin _ _ _ _ H1.out _).mono ?_
  rintro e w' ⟨rfl, rfl⟩
  go_wp2_with fail
  refine (jwithin _ _ _ _ H2.out _).mono ?_
  rintro e w' ⟨rfl, rfl⟩
  go_wp2_with fail
  refine (jwithin _ _ _ _ H4.out _).mono ?_
  rintro e w' ⟨rfl, rfl⟩
  go_wp2_with fail
  go_ret
  exact ⟨rfl, (below_alloc (below_alloc (Below.refl _ _)))⟩
set_option maxRecDepth 100000 in
set_option maxHeartbeats 2000000 in
theorem pl21 (d0 d1 d2 bo fr tr ag : Int) (K : Option Addr) (kc : Nat) (ks : List Cls) (j : JV) (Y : Option Addr) (cj : Nat) (hl : ks.length ≤ 4611686018427387904) (h0 : inB j.id 1 2147483647 = true) (h1 : inB j.us 1 255 = true) (h2 : inB j.cl 0 ((ks.length : Int) - 1) = false) (h4 : inB j.pr (-1000) 1000 = true) (h5 : inB j.ca 0 1099511627776 = false) (w : World) :
    Calls Tryz.prog 40 #[.agg #[.int .i64 d0, .int .i64 d1, .int .i64 d2, .int .i64 bo, .int .i64 fr, .int .i64 tr, .int .i64 ag, .slice K ks.length kc], .agg #[.int .i64 j.id, .int .i64 j.us, .int .i64 j.cl, .int .i64 j.x.a, .int .i64 j.x.b, .int .i64 j.x.c, .bool j.x.p, .bool j.x.q, .bool j.x.r, .bool j.x.tn, .int .i64 j.wa, .int .i64 j.pr, .bool j.he, .slice Y j.af.length cj, .int .u8 j.st, .int .i64 j.ca]] w fun e w' => e = .returned (.bool false) ∧ Below w.heap.size w w' := by
  have H0 := Lib.hid h0
  have H1 := Lib.hid h1
  have H2 := Lib.hid h2
  have H4 := Lib.hid h4
  have H5 := Lib.hid h5
  have e1 : IntKind.i64.wrap ((ks.length : Int) - 1) = (ks.length : Int) - 1 := IntWalk.i64_in _ (by omega)
  clear h0 h1 h2 h4 h5
  go_enter Tryz.func40, Tryz.ntmps40
  go_wp2_with fail
  refine (jwithin _ _ _ _ H0.out _).mono ?_
  rintro e w' ⟨rfl, rfl⟩
  go_wp2_with fail
  refine (jwithin _ _ _ _ H1.out _).mono ?_
  rintro e w' ⟨rfl, rfl⟩
  go_wp2_with fail
  refine (jwithin _ _ _ _ H2.out _).mono ?_
  rintro e w' ⟨rfl, rfl⟩
  go_wp2_with fail
  refine (jwithin _ _ _ _ H4.out _).mono ?_
  rintro e w' ⟨rfl, rfl⟩
  go_wp2_with fail
  refine (jwithin _ _ _ _ H5.out _).mono ?_
  rintro e w' ⟨rfl, rfl⟩
  go_wp2_with fail
  go_ret
  exact ⟨rfl, (below_alloc (below_alloc (Below.refl _ _)))⟩
set_option maxRecDepth 100000 in
set_option maxHeartbeats 2000000 in
theorem pl22 (d0 d1 d2 bo fr tr ag : Int) (K : Option Addr) (kc : Nat) (ks : List Cls) (j : JV) (Y : Option Addr) (cj : Nat) (hl : ks.length ≤ 4611686018427387904) (h0 : inB j.id 1 2147483647 = true) (h1 : inB j.us 1 255 = true) (h2 : inB j.cl 0 ((ks.length : Int) - 1) = false) (h4 : inB j.pr (-1000) 1000 = true) (h5 : inB j.ca 0 1099511627776 = true) (w : World) :
    Calls Tryz.prog 40 #[.agg #[.int .i64 d0, .int .i64 d1, .int .i64 d2, .int .i64 bo, .int .i64 fr, .int .i64 tr, .int .i64 ag, .slice K ks.length kc], .agg #[.int .i64 j.id, .int .i64 j.us, .int .i64 j.cl, .int .i64 j.x.a, .int .i64 j.x.b, .int .i64 j.x.c, .bool j.x.p, .bool j.x.q, .bool j.x.r, .bool j.x.tn, .int .i64 j.wa, .int .i64 j.pr, .bool j.he, .slice Y j.af.length cj, .int .u8 j.st, .int .i64 j.ca]] w fun e w' => e = .returned (.bool false) ∧ Below w.heap.size w w' := by
  have H0 := Lib.hid h0
  have H1 := Lib.hid h1
  have H2 := Lib.hid h2
  have H4 := Lib.hid h4
  have H5 := Lib.hid h5
  have e1 : IntKind.i64.wrap ((ks.length : Int) - 1) = (ks.length : Int) - 1 := IntWalk.i64_in _ (by omega)
  clear h0 h1 h2 h4 h5
  go_enter Tryz.func40, Tryz.ntmps40
  go_wp2_with fail
  refine (jwithin _ _ _ _ H0.out _).mono ?_
  rintro e w' ⟨rfl, rfl⟩
  go_wp2_with fail
  refine (jwithin _ _ _ _ H1.out _).mono ?_
  rintro e w' ⟨rfl, rfl⟩
  go_wp2_with fail
  refine (jwithin _ _ _ _ H2.out _).mono ?_
  rintro e w' ⟨rfl, rfl⟩
  go_wp2_with fail
  refine (jwithin _ _ _ _ H4.out _).mono ?_
  rintro e w' ⟨rfl, rfl⟩
  go_wp2_with fail
  refine (jwithin _ _ _ _ H5.out _).mono ?_
  rintro e w' ⟨rfl, rfl⟩
  go_wp2_with fail
  go_ret
  exact ⟨rfl, (below_alloc (below_alloc (Below.refl _ _)))⟩
set_option maxRecDepth 100000 in
set_option maxHeartbeats 2000000 in
theorem pl30 (d0 d1 d2 bo fr tr ag : Int) (K : Option Addr) (kc : Nat) (ks : List Cls) (j : JV) (Y : Option Addr) (cj : Nat) (hl : ks.length ≤ 4611686018427387904) (h0 : inB j.id 1 2147483647 = true) (h1 : inB j.us 1 255 = true) (h2 : inB j.cl 0 ((ks.length : Int) - 1) = true) (h3 : inB j.wa 1 1048576 = false) (h4 : inB j.pr (-1000) 1000 = false) (w : World) :
    Calls Tryz.prog 40 #[.agg #[.int .i64 d0, .int .i64 d1, .int .i64 d2, .int .i64 bo, .int .i64 fr, .int .i64 tr, .int .i64 ag, .slice K ks.length kc], .agg #[.int .i64 j.id, .int .i64 j.us, .int .i64 j.cl, .int .i64 j.x.a, .int .i64 j.x.b, .int .i64 j.x.c, .bool j.x.p, .bool j.x.q, .bool j.x.r, .bool j.x.tn, .int .i64 j.wa, .int .i64 j.pr, .bool j.he, .slice Y j.af.length cj, .int .u8 j.st, .int .i64 j.ca]] w fun e w' => e = .returned (.bool false) ∧ Below w.heap.size w w' := by
  have H0 := Lib.hid h0
  have H1 := Lib.hid h1
  have H2 := Lib.hid h2
  have H3 := Lib.hid h3
  have H4 := Lib.hid h4
  have e1 : IntKind.i64.wrap ((ks.length : Int) - 1) = (ks.length : Int) - 1 := IntWalk.i64_in _ (by omega)
  clear h0 h1 h2 h3 h4
  go_enter Tryz.func40, Tryz.ntmps40
  go_wp2_with fail
  refine (jwithin _ _ _ _ H0.out _).mono ?_
  rintro e w' ⟨rfl, rfl⟩
  go_wp2_with fail
  refine (jwithin _ _ _ _ H1.out _).mono ?_
  rintro e w' ⟨rfl, rfl⟩
  go_wp2_with fail
  refine (jwithin _ _ _ _ H2.out _).mono ?_
  rintro e w' ⟨rfl, rfl⟩
  go_wp2_with fail
  refine (jwithin _ _ _ _ H3.out _).mono ?_
  rintro e w' ⟨rfl, rfl⟩
  go_wp2_with fail
  refine (jwithin _ _ _ _ H4.out _).mono ?_
  rintro e w' ⟨rfl, rfl⟩
  go_wp2_with fail
  go_ret
  exact ⟨rfl, (below_alloc (below_alloc (Below.refl _ _)))⟩
set_option maxRecDepth 100000 in
set_option maxHeartbeats 2000000 in
theorem pl31 (d0 d1 d2 bo fr tr ag : Int) (K : Option Addr) (kc : Nat) (ks : List Cls) (j : JV) (Y : Option Addr) (cj : Nat) (hl : ks.length ≤ 4611686018427387904) (h0 : inB j.id 1 2147483647 = true) (h1 : inB j.us 1 255 = true) (h2 : inB j.cl 0 ((ks.length : Int) - 1) = true) (h3 : inB j.wa 1 1048576 = false) (h4 : inB j.pr (-1000) 1000 = true) (h5 : inB j.ca 0 1099511627776 = false) (w : World) :
    Calls Tryz.prog 40 #[.agg #[.int .i64 d0, .int .i64 d1, .int .i64 d2, .int .i64 bo, .int .i64 fr, .int .i64 tr, .int .i64 ag, .slice K ks.length kc], .agg #[.int .i64 j.id, .int .i64 j.us, .int .i64 j.cl, .int .i64 j.x.a, .int .i64 j.x.b, .int .i64 j.x.c, .bool j.x.p, .bool j.x.q, .bool j.x.r, .bool j.x.tn, .int .i64 j.wa, .int .i64 j.pr, .bool j.he, .slice Y j.af.length cj, .int .u8 j.st, .int .i64 j.ca]] w fun e w' => e = .returned (.bool false) ∧ Below w.heap.size w w' := by
  have H0 := Lib.hid h0
  have H1 := Lib.hid h1
  have H2 := Lib.hid h2
  have H3 := Lib.hid h3
  have H4 := Lib.hid h4
  have H5 := Lib.hid h5
  have e1 : IntKind.i64.wrap ((ks.length : Int) - 1) = (ks.length : Int) - 1 := IntWalk.i64_in _ (by omega)
  clear h0 h1 h2 h3 h4 h5
  go_enter Tryz.func40, Tryz.ntmps40
  go_wp2_with fail
  refine (jwithin _ _ _ _ H0.out _).mono ?_
  rintro e w' ⟨rfl, rfl⟩
  go_wp2_with fail
  refine (jwithin _ _ _ _ H1.out _).mono ?_
  rintro e w' ⟨rfl, rfl⟩
  go_wp2_with fail
  refine (jwithin _ _ _ _ H2.out _).mono ?_
  rintro e w' ⟨rfl, rfl⟩
  go_wp2_with fail
  refine (jwithin _ _ _ _ H3.out _).mono ?_
  rintro e w' ⟨rfl, rfl⟩
  go_wp2_with fail
  refine (jwithin _ _ _ _ H4.out _).mono ?_
  rintro e w' ⟨rfl, rfl⟩
  go_wp2_with fail
  refine (jwithin _ _ _ _ H5.out _).mono ?_
  rintro e w' ⟨rfl, rfl⟩
  go_wp2_with fail
  go_ret
  exact ⟨rfl, (below_alloc (below_alloc (Below.refl _ _)))⟩
set_option maxRecDepth 100000 in
set_option maxHeartbeats 2000000 in
theorem pl32 (d0 d1 d2 bo fr tr ag : Int) (K : Option Addr) (kc : Nat) (ks : List Cls) (j : JV) (Y : Option Addr) (cj : Nat) (hl : ks.length ≤ 4611686018427387904) (h0 : inB j.id 1 2147483647 = true) (h1 : inB j.us 1 255 = true) (h2 : inB j.cl 0 ((ks.length : Int) - 1) = true) (h3 : inB j.wa 1 1048576 = false) (h4 : inB j.pr (-1000) 1000 = true) (h5 : inB j.ca 0 1099511627776 = true) (w : World) :
    Calls Tryz.prog 40 #[.agg #[.int .i64 d0, .int .i64 d1, .int .i64 d2, .int .i64 bo, .int .i64 fr, .int .i64 tr, .int .i64 ag, .slice K ks.length kc], .agg #[.int .i64 j.id, .int .i64 j.us, .int .i64 j.cl, .int .i64 j.x.a, .int .i64 j.x.b, .int .i64 j.x.c, .bool j.x.p, .bool j.x.q, .bool j.x.r, .bool j.x.tn, .int .i64 j.wa, .int .i64 j.pr, .bool j.he, .slice Y j.af.length cj, .int .u8 j.st, .int .i64 j.ca]] w fun e w' => e = .returned (.bool false) ∧ Below w.heap.size w w' := by
  have H0 := Lib.hid h0
  have H1 := Lib.hid h1
  have H2 := Lib.hid h2
  have H3 := Lib.hid h3
  have H4 := Lib.hid h4
  have H5 := Lib.hid h5
  have e1 : IntKind.i64.wrap ((ks.length : Int) - 1) = (ks.length : Int) - 1 := IntWalk.i64_in _ (by omega)
  clear h0 h1 h2 h3 h4 h5
  go_enter Tryz.func40, Tryz.ntmps40
  go_wp2_with fail
  refine (jwithin _ _ _ _ H0.out _).mono ?_
  rintro e w' ⟨rfl, rfl⟩
  go_wp2_with fail
  refine (jwithin _ _ _ _ H1.out _).mono ?_
  rintro e w' ⟨rfl, rfl⟩
  go_wp2_with fail
  refine (jwithin _ _ _ _ H2.out _).mono ?_
  rintro e w' ⟨rfl, rfl⟩
  go_wp2_with fail
  refine (jwithin _ _ _ _ H3.out _).mono ?_
  rintro e w' ⟨rfl, rfl⟩
  go_wp2_with fail
  refine (jwithin _ _ _ _ H4.out _).mono ?_
  rintro e w' ⟨rfl, rfl⟩
  go_wp2_with fail
  refine (jwithin _ _ _ _ H5.out _).mono ?_
  rintro e w' ⟨rfl, rfl⟩
  go_wp2_with fail
  go_ret
  exact ⟨rfl, (below_alloc (below_alloc (Below.refl _ _)))⟩
set_option maxRecDepth 100000 in
set_option maxHeartbeats 2000000 in
theorem pl40 (d0 d1 d2 bo fr tr ag : Int) (K : Option Addr) (kc : Nat) (ks : List Cls) (j : JV) (Y : Option Addr) (cj : Nat) (hl : ks.length ≤ 4611686018427387904) (h0 : inB j.id 1 2147483647 = true) (h1 : inB j.us 1 255 = true) (h2 : inB j.cl 0 ((ks.length : Int) - 1) = true) (h3 : inB j.wa 1 1048576 = true) (h4 : inB j.pr (-1000) 1000 = false) (w : World) :
    Calls Tryz.prog 40 #[.agg #[.int .i64 d0, .int .i64 d1, .int .i64 d2, .int .i64 bo, .int .i64 fr, .int .i64 tr, .int .i64 ag, .slice K ks.length kc], .agg #[.int .i64 j.id, .int .i64 j.us, .int .i64 j.cl, .int .i64 j.x.a, .int .i64 j.x.b, .int .i64 j.x.c, .bool j.x.p, .bool j.x.q, .bool j.x.r, .bool j.x.tn, .int .i64 j.wa, .int .i64 j.pr, .bool j.he, .slice Y j.af.length cj, .int .u8 j.st, .int .i64 j.ca]] w fun e w' => e = .returned (.bool false) ∧ Below w.heap.size w w' := by
  have H0 := Lib.hid h0
  have H1 := Lib.hid h1
  have H2 := Lib.hid h2
  have H3 := Lib.hid h3
  have H4 := Lib.hid h4
  have e1 : IntKind.i64.wrap ((ks.length : Int) - 1) = (ks.length : Int) - 1 := IntWalk.i64_in _ (by omega)
  clear h0 h1 h2 h3 h4
  go_enter Tryz.func40, Tryz.ntmps40
  go_wp2_with fail
  refine (jwithin _ _ _ _ H0.out _).mono ?_
  rintro e w' ⟨rfl, rfl⟩
  go_wp2_with fail
  refine (jwithin _ _ _ _ H1.out _).mono ?_
  rintro e w' ⟨rfl, rfl⟩
  go_wp2_with fail
  refine (jwithin _ _ _ _ H2.out _).mono ?_
  rintro e w' ⟨rfl, rfl⟩
  go_wp2_with fail
  refine (jwithin _ _ _ _ H3.out _).mono ?_
  rintro e w' ⟨rfl, rfl⟩
  go_wp2_with fail
  refine (jwithin _ _ _ _ H4.out _).mono ?_
  rintro e w' ⟨rfl, rfl⟩
  go_wp2_with fail
  go_ret
  exact ⟨rfl, (below_alloc (below_alloc (Below.refl _ _)))⟩
set_option maxRecDepth 100000 in
set_option maxHeartbeats 2000000 in
theorem pl41 (d0 d1 d2 bo fr tr ag : Int) (K : Option Addr) (kc : Nat) (ks : List Cls) (j : JV) (Y : Option Addr) (cj : Nat) (hl : ks.length ≤ 4611686018427387904) (h0 : inB j.id 1 2147483647 = true) (h1 : inB j.us 1 255 = true) (h2 : inB j.cl 0 ((ks.length : Int) - 1) = true) (h3 : inB j.wa 1 1048576 = true) (h4 : inB j.pr (-1000) 1000 = true) (h5 : inB j.ca 0 1099511627776 = false) (w : World) :
    Calls Tryz.prog 40 #[.agg #[.int .i64 d0, .int .i64 d1, .int .i64 d2, .int .i64 bo, .int .i64 fr, .int .i64 tr, .int .i64 ag, .slice K ks.length kc], .agg #[.int .i64 j.id, .int .i64 j.us, .int .i64 j.cl, .int .i64 j.x.a, .int .i64 j.x.b, .int .i64 j.x.c, .bool j.x.p, .bool j.x.q, .bool j.x.r, .bool j.x.tn, .int .i64 j.wa, .int .i64 j.pr, .bool j.he, .slice Y j.af.length cj, .int .u8 j.st, .int .i64 j.ca]] w fun e w' => e = .returned (.bool false) ∧ Below w.heap.size w w' := by
  have H0 := Lib.hid h0
  have H1 := Lib.hid h1
  have H2 := Lib.hid h2
  have H3 := Lib.hid h3
  have H4 := Lib.hid h4
  have H5 := Lib.hid h5
  have e1 : IntKind.i64.wrap ((ks.length : Int) - 1) = (ks.length : Int) - 1 := IntWalk.i64_in _ (by omega)
  clear h0 h1 h2 h3 h4 h5
  go_enter Tryz.func40, Tryz.ntmps40
  go_wp2_with fail
  refine (jwithin _ _ _ _ H0.out _).mono ?_
  rintro e w' ⟨rfl, rfl⟩
  go_wp2_with fail
  refine (jwithin _ _ _ _ H1.out _).mono ?_
  rintro e w' ⟨rfl, rfl⟩
  go_wp2_with fail
  refine (jwithin _ _ _ _ H2.out _).mono ?_
  rintro e w' ⟨rfl, rfl⟩
  go_wp2_with fail
  refine (jwithin _ _ _ _ H3.out _).mono ?_
  rintro e w' ⟨rfl, rfl⟩
  go_wp2_with fail
  refine (jwithin _ _ _ _ H4.out _).mono ?_
  rintro e w' ⟨rfl, rfl⟩
  go_wp2_with fail
  refine (jwithin _ _ _ _ H5.out _).mono ?_
  rintro e w' ⟨rfl, rfl⟩
  go_wp2_with fail
  go_ret
  exact ⟨rfl, (below_alloc (below_alloc (Below.refl _ _)))⟩
set_option maxRecDepth 100000 in
set_option maxHeartbeats 2000000 in
theorem pl42lo (d0 d1 d2 bo fr tr ag : Int) (K : Option Addr) (kc : Nat) (ks : List Cls) (j : JV) (Y : Option Addr) (cj : Nat) (hl : ks.length ≤ 4611686018427387904) (h0 : inB j.id 1 2147483647 = true) (h1 : inB j.us 1 255 = true) (h2 : inB j.cl 0 ((ks.length : Int) - 1) = true) (h3 : inB j.wa 1 1048576 = true) (h4 : inB j.pr (-1000) 1000 = true) (h5 : inB j.ca 0 1099511627776 = true) (t0 : ¬ 1 ≤ j.st) (w : World) :
    Calls Tryz.prog 40 #[.agg #[.int .i64 d0, .int .i64 d1, .int .i64 d2, .int .i64 bo, .int .i64 fr, .int .i64 tr, .int .i64 ag, .slice K ks.length kc], .agg #[.int .i64 j.id, .int .i64 j.us, .int .i64 j.cl, .int .i64 j.x.a, .int .i64 j.x.b, .int .i64 j.x.c, .bool j.x.p, .bool j.x.q, .bool j.x.r, .bool j.x.tn, .int .i64 j.wa, .int .i64 j.pr, .bool j.he, .slice Y j.af.length cj, .int .u8 j.st, .int .i64 j.ca]] w fun e w' => e = .returned (.bool false) ∧ Below w.heap.size w w' := by
  have H0 := Lib.hid h0
  have H1 := Lib.hid h1
  have H2 := Lib.hid h2
  have H3 := Lib.hid h3
  have H4 := Lib.hid h4
  have H5 := Lib.hid h5
  have e1 : IntKind.i64.wrap ((ks.length : Int) - 1) = (ks.length : Int) - 1 := IntWalk.i64_in _ (by omega)
  clear h0 h1 h2 h3 h4 h5
  go_enter Tryz.func40, Tryz.ntmps40
  go_wp2_with fail
  refine (jwithin _ _ _ _ H0.out _).mono ?_
  rintro e w' ⟨rfl, rfl⟩
  go_wp2_with fail
  refine (jwithin _ _ _ _ H1.out _).mono ?_
  rintro e w' ⟨rfl, rfl⟩
  go_wp2_with fail
  refine (jwithin _ _ _ _ H2.out _).mono ?_
  rintro e w' ⟨rfl, rfl⟩
  go_wp2_with fail
  refine (jwithin _ _ _ _ H3.out _).mono ?_
  rintro e w' ⟨rfl, rfl⟩
  go_wp2_with fail
  refine (jwithin _ _ _ _ H4.out _).mono ?_
  rintro e w' ⟨rfl, rfl⟩
  go_wp2_with fail
  refine (jwithin _ _ _ _ H5.out _).mono ?_
  rintro e w' ⟨rfl, rfl⟩
  go_wp2_with fail
  go_ret
  exact ⟨rfl, (below_alloc (below_alloc (Below.refl _ _)))⟩
set_option maxRecDepth 100000 in
set_option maxHeartbeats 2000000 in
theorem pl42hi (d0 d1 d2 bo fr tr ag : Int) (K : Option Addr) (kc : Nat) (ks : List Cls) (j : JV) (Y : Option Addr) (cj : Nat) (hl : ks.length ≤ 4611686018427387904) (h0 : inB j.id 1 2147483647 = true) (h1 : inB j.us 1 255 = true) (h2 : inB j.cl 0 ((ks.length : Int) - 1) = true) (h3 : inB j.wa 1 1048576 = true) (h4 : inB j.pr (-1000) 1000 = true) (h5 : inB j.ca 0 1099511627776 = true) (t0 : 1 ≤ j.st) (t1 : ¬ j.st ≤ 6) (w : World) :
    Calls Tryz.prog 40 #[.agg #[.int .i64 d0, .int .i64 d1, .int .i64 d2, .int .i64 bo, .int .i64 fr, .int .i64 tr, .int .i64 ag, .slice K ks.length kc], .agg #[.int .i64 j.id, .int .i64 j.us, .int .i64 j.cl, .int .i64 j.x.a, .int .i64 j.x.b, .int .i64 j.x.c, .bool j.x.p, .bool j.x.q, .bool j.x.r, .bool j.x.tn, .int .i64 j.wa, .int .i64 j.pr, .bool j.he, .slice Y j.af.length cj, .int .u8 j.st, .int .i64 j.ca]] w fun e w' => e = .returned (.bool false) ∧ Below w.heap.size w w' := by
  have H0 := Lib.hid h0
  have H1 := Lib.hid h1
  have H2 := Lib.hid h2
  have H3 := Lib.hid h3
  have H4 := Lib.hid h4
  have H5 := Lib.hid h5
  have e1 : IntKind.i64.wrap ((ks.length : Int) - 1) = (ks.length : Int) - 1 := IntWalk.i64_in _ (by omega)
  clear h0 h1 h2 h3 h4 h5
  go_enter Tryz.func40, Tryz.ntmps40
  go_wp2_with fail
  refine (jwithin _ _ _ _ H0.out _).mono ?_
  rintro e w' ⟨rfl, rfl⟩
  go_wp2_with fail
  refine (jwithin _ _ _ _ H1.out _).mono ?_
  rintro e w' ⟨rfl, rfl⟩
  go_wp2_with fail
  refine (jwithin _ _ _ _ H2.out _).mono ?_
  rintro e w' ⟨rfl, rfl⟩
  go_wp2_with fail
  refine (jwithin _ _ _ _ H3.out _).mono ?_
  rintro e w' ⟨rfl, rfl⟩
  go_wp2_with fail
  refine (jwithin _ _ _ _ H4.out _).mono ?_
  rintro e w' ⟨rfl, rfl⟩
  go_wp2_with fail
  refine (jwithin _ _ _ _ H5.out _).mono ?_
  rintro e w' ⟨rfl, rfl⟩
  go_wp2_with fail
  go_ret
  exact ⟨rfl, (below_alloc (below_alloc (Below.refl _ _)))⟩
set_option maxRecDepth 100000 in
set_option maxHeartbeats 2000000 in
theorem pl42free (d0 d1 d2 bo fr tr ag : Int) (K : Option Addr) (kc : Nat) (ks : List Cls) (j : JV) (Y : Option Addr) (cj : Nat) (hl : ks.length ≤ 4611686018427387904) (h0 : inB j.id 1 2147483647 = true) (h1 : inB j.us 1 255 = true) (h2 : inB j.cl 0 ((ks.length : Int) - 1) = true) (h3 : inB j.wa 1 1048576 = true) (h4 : inB j.pr (-1000) 1000 = true) (h5 : inB j.ca 0 1099511627776 = true) (t0 : 1 ≤ j.st) (t1 : j.st ≤ 6) (t2 : j.he = false) (w : World) :
    Calls Tryz.prog 40 #[.agg #[.int .i64 d0, .int .i64 d1, .int .i64 d2, .int .i64 bo, .int .i64 fr, .int .i64 tr, .int .i64 ag, .slice K ks.length kc], .agg #[.int .i64 j.id, .int .i64 j.us, .int .i64 j.cl, .int .i64 j.x.a, .int .i64 j.x.b, .int .i64 j.x.c, .bool j.x.p, .bool j.x.q, .bool j.x.r, .bool j.x.tn, .int .i64 j.wa, .int .i64 j.pr, .bool j.he, .slice Y j.af.length cj, .int .u8 j.st, .int .i64 j.ca]] w fun e w' => e = .returned (.bool true) ∧ Below w.heap.size w w' := by
  have H0 := Lib.hid h0
  have H1 := Lib.hid h1
  have H2 := Lib.hid h2
  have H3 := Lib.hid h3
  have H4 := Lib.hid h4
  have H5 := Lib.hid h5
  have e1 : IntKind.i64.wrap ((ks.length : Int) - 1) = (ks.length : Int) - 1 := IntWalk.i64_in _ (by omega)
  clear h0 h1 h2 h3 h4 h5
  rw [t2]
  go_enter Tryz.func40, Tryz.ntmps40
  go_wp2_with fail
  refine (jwithin _ _ _ _ H0.out _).mono ?_
  rintro e w' ⟨rfl, rfl⟩
  go_wp2_with fail
  refine (jwithin _ _ _ _ H1.out _).mono ?_
  rintro e w' ⟨rfl, rfl⟩
  go_wp2_with fail
  refine (jwithin _ _ _ _ H2.out _).mono ?_
  rintro e w' ⟨rfl, rfl⟩
  go_wp2_with fail
  refine (jwithin _ _ _ _ H3.out _).mono ?_
  rintro e w' ⟨rfl, rfl⟩
  go_wp2_with fail
  refine (jwithin _ _ _ _ H4.out _).mono ?_
  rintro e w' ⟨rfl, rfl⟩
  go_wp2_with fail
  refine (jwithin _ _ _ _ H5.out _).mono ?_
  rintro e w' ⟨rfl, rfl⟩
  go_wp2_with fail
  go_ret
  exact ⟨rfl, (below_alloc (below_alloc (Below.refl _ _)))⟩
set_option maxRecDepth 100000 in
set_option maxHeartbeats 2000000 in
theorem pl42waits (d0 d1 d2 bo fr tr ag : Int) (K : Option Addr) (kc : Nat) (ks : List Cls) (j : JV) (Y : Option Addr) (cj : Nat) (hl : ks.length ≤ 4611686018427387904) (h0 : inB j.id 1 2147483647 = true) (h1 : inB j.us 1 255 = true) (h2 : inB j.cl 0 ((ks.length : Int) - 1) = true) (h3 : inB j.wa 1 1048576 = true) (h4 : inB j.pr (-1000) 1000 = true) (h5 : inB j.ca 0 1099511627776 = true) (t0 : 1 ≤ j.st) (t1 : j.st ≤ 6) (t2 : j.he = true) (t3 : j.st = 1) (w : World) :
    Calls Tryz.prog 40 #[.agg #[.int .i64 d0, .int .i64 d1, .int .i64 d2, .int .i64 bo, .int .i64 fr, .int .i64 tr, .int .i64 ag, .slice K ks.length kc], .agg #[.int .i64 j.id, .int .i64 j.us, .int .i64 j.cl, .int .i64 j.x.a, .int .i64 j.x.b, .int .i64 j.x.c, .bool j.x.p, .bool j.x.q, .bool j.x.r, .bool j.x.tn, .int .i64 j.wa, .int .i64 j.pr, .bool j.he, .slice Y j.af.length cj, .int .u8 j.st, .int .i64 j.ca]] w fun e w' => e = .returned (.bool true) ∧ Below w.heap.size w w' := by
  have H0 := Lib.hid h0
  have H1 := Lib.hid h1
  have H2 := Lib.hid h2
  have H3 := Lib.hid h3
  have H4 := Lib.hid h4
  have H5 := Lib.hid h5
  have e1 : IntKind.i64.wrap ((ks.length : Int) - 1) = (ks.length : Int) - 1 := IntWalk.i64_in _ (by omega)
  clear h0 h1 h2 h3 h4 h5
  rw [t2]
  go_enter Tryz.func40, Tryz.ntmps40
  go_wp2_with fail
  refine (jwithin _ _ _ _ H0.out _).mono ?_
  rintro e w' ⟨rfl, rfl⟩
  go_wp2_with fail
  refine (jwithin _ _ _ _ H1.out _).mono ?_
  rintro e w' ⟨rfl, rfl⟩
  go_wp2_with fail
  refine (jwithin _ _ _ _ H2.out _).mono ?_
  rintro e w' ⟨rfl, rfl⟩
  go_wp2_with fail
  refine (jwithin _ _ _ _ H3.out _).mono ?_
  rintro e w' ⟨rfl, rfl⟩
  go_wp2_with fail
  refine (jwithin _ _ _ _ H4.out _).mono ?_
  rintro e w' ⟨rfl, rfl⟩
  go_wp2_with fail
  refine (jwithin _ _ _ _ H5.out _).mono ?_
  rintro e w' ⟨rfl, rfl⟩
  go_wp2_with fail
  go_ret
  exact ⟨rfl, (below_alloc (below_alloc (Below.refl _ _)))⟩
set_option maxRecDepth 100000 in
set_option maxHeartbeats 2000000 in
theorem pl42held (d0 d1 d2 bo fr tr ag : Int) (K : Option Addr) (kc : Nat) (ks : List Cls) (j : JV) (Y : Option Addr) (cj : Nat) (hl : ks.length ≤ 4611686018427387904) (h0 : inB j.id 1 2147483647 = true) (h1 : inB j.us 1 255 = true) (h2 : inB j.cl 0 ((ks.length : Int) - 1) = true) (h3 : inB j.wa 1 1048576 = true) (h4 : inB j.pr (-1000) 1000 = true) (h5 : inB j.ca 0 1099511627776 = true) (t0 : 1 ≤ j.st) (t1 : j.st ≤ 6) (t2 : j.he = true) (t3 : ¬ j.st = 1) (w : World) :
    Calls Tryz.prog 40 #[.agg #[.int .i64 d0, .int .i64 d1, .int .i64 d2, .int .i64 bo, .int .i64 fr, .int .i64 tr, .int .i64 ag, .slice K ks.length kc], .agg #[.int .i64 j.id, .int .i64 j.us, .int .i64 j.cl, .int .i64 j.x.a, .int .i64 j.x.b, .int .i64 j.x.c, .bool j.x.p, .bool j.x.q, .bool j.x.r, .bool j.x.tn, .int .i64 j.wa, .int .i64 j.pr, .bool j.he, .slice Y j.af.length cj, .int .u8 j.st, .int .i64 j.ca]] w fun e w' => e = .returned (.bool false) ∧ Below w.heap.size w w' := by
  have H0 := Lib.hid h0
  have H1 := Lib.hid h1
  have H2 := Lib.hid h2
  have H3 := Lib.hid h3
  have H4 := Lib.hid h4
  have H5 := Lib.hid h5
  have e1 : IntKind.i64.wrap ((ks.length : Int) - 1) = (ks.length : Int) - 1 := IntWalk.i64_in _ (by omega)
  clear h0 h1 h2 h3 h4 h5
  rw [t2]
  have t4 : (j.st == 1) = false := by simpa using t3
  go_enter Tryz.func40, Tryz.ntmps40
  go_wp2_with fail
  refine (jwithin _ _ _ _ H0.out _).mono ?_
  rintro e w' ⟨rfl, rfl⟩
  go_wp2_with fail
  refine (jwithin _ _ _ _ H1.out _).mono ?_
  rintro e w' ⟨rfl, rfl⟩
  go_wp2_with fail
  refine (jwithin _ _ _ _ H2.out _).mono ?_
  rintro e w' ⟨rfl, rfl⟩
  go_wp2_with fail
  refine (jwithin _ _ _ _ H3.out _).mono ?_
  rintro e w' ⟨rfl, rfl⟩
  go_wp2_with fail
  refine (jwithin _ _ _ _ H4.out _).mono ?_
  rintro e w' ⟨rfl, rfl⟩
  go_wp2_with fail
  refine (jwithin _ _ _ _ H5.out _).mono ?_
  rintro e w' ⟨rfl, rfl⟩
  go_wp2_with fail
  go_ret
  exact ⟨rfl, (below_alloc (below_alloc (Below.refl _ _)))⟩
set_option maxRecDepth 100000 in
set_option maxHeartbeats 1000000 in
theorem jplain (d0 d1 d2 bo fr tr ag : Int) (K : Option Addr) (kc : Nat) (ks : List Cls) (j : JV) (Y : Option Addr) (cj : Nat) (hl : ks.length ≤ 4611686018427387904) (r : Bool) (h : plainB ks.length j = r) (w : World) :
    Calls Tryz.prog 40 #[.agg #[.int .i64 d0, .int .i64 d1, .int .i64 d2, .int .i64 bo, .int .i64 fr, .int .i64 tr, .int .i64 ag, .slice K ks.length kc], .agg #[.int .i64 j.id, .int .i64 j.us, .int .i64 j.cl, .int .i64 j.x.a, .int .i64 j.x.b, .int .i64 j.x.c, .bool j.x.p, .bool j.x.q, .bool j.x.r, .bool j.x.tn, .int .i64 j.wa, .int .i64 j.pr, .bool j.he, .slice Y j.af.length cj, .int .u8 j.st, .int .i64 j.ca]] w fun e w' => e = .returned (.bool r) ∧ Below w.heap.size w w' := by
  cases h0 : inB j.id 1 2147483647
  · skip
    cases h4 : inB j.pr (-1000) 1000
    · skip
      have er : r = false := by rw [← h]; unfold plainB; simp [h0, h4]
      subst er
      exact pl00 d0 d1 d2 bo fr tr ag K kc ks j Y cj hl h0 h4  w
    · cases h5 : inB j.ca 0 1099511627776
      · skip
        have er : r = false := by rw [← h]; unfold plainB; simp [h0, h4, h5]
        subst er
        exact pl01 d0 d1 d2 bo fr tr ag K kc ks j Y cj hl h0 h4 h5  w
      · skip
        have er : r = false := by rw [← h]; unfold plainB; simp [h0, h4, h5]
        subst er
        exact pl02 d0 d1 d2 bo fr tr ag K kc ks j Y cj hl h0 h4 h5  w
  · skip
    cases h1 : inB j.us 1 255
    · skip
      cases h4 : inB j.pr (-1000) 1000
      · skip
        have er : r = false := by rw [← h]; unfold plainB; simp [h0, h1, h4]
        subst er
        exact pl10 d0 d1 d2 bo fr tr ag K kc ks j Y cj hl h0 h1 h4  w
      · cases h5 : inB j.ca 0 1099511627776
        · skip
          have er : r = false := by rw [← h]; unfold plainB; simp [h0, h1, h4, h5]
          subst er
          exact pl11 d0 d1 d2 bo fr tr ag K kc ks j Y cj hl h0 h1 h4 h5  w
        · skip
          have er : r = false := by rw [← h]; unfold plainB; simp [h0, h1, h4, h5]
          subst er
          exact pl12 d0 d1 d2 bo fr tr ag K kc ks j Y cj hl h0 h1 h4 h5  w
    · skip
      cases h2 : inB j.cl 0 ((ks.length : Int) - 1)
      · skip
        cases h4 : inB j.pr (-1000) 1000
        · skip
          have er : r = false := by rw [← h]; unfold plainB; simp [h0, h1, h2, h4]
          subst er
          exact pl20 d0 d1 d2 bo fr tr ag K kc ks j Y cj hl h0 h1 h2 h4  w
        · cases h5 : inB j.ca 0 1099511627776
          · skip
            have er : r = false := by rw [← h]; unfold plainB; simp [h0, h1, h2, h4, h5]
            subst er
            exact pl21 d0 d1 d2 bo fr tr ag K kc ks j Y cj hl h0 h1 h2 h4 h5  w
          · skip
            have er : r = false := by rw [← h]; unfold plainB; simp [h0, h1, h2, h4, h5]
            subst er
            exact pl22 d0 d1 d2 bo fr tr ag K kc ks j Y cj hl h0 h1 h2 h4 h5  w
      · skip
        cases h3 : inB j.wa 1 1048576
        · skip
          cases h4 : inB j.pr (-1000) 1000
          · skip
            have er : r = false := by rw [← h]; unfold plainB; simp [h0, h1, h2, h3, h4]
            subst er
            exact pl30 d0 d1 d2 bo fr tr ag K kc ks j Y cj hl h0 h1 h2 h3 h4  w
          · cases h5 : inB j.ca 0 1099511627776
            · skip
              have er : r = false := by rw [← h]; unfold plainB; simp [h0, h1, h2, h3, h4, h5]
              subst er
              exact pl31 d0 d1 d2 bo fr tr ag K kc ks j Y cj hl h0 h1 h2 h3 h4 h5  w
            · skip
              have er : r = false := by rw [← h]; unfold plainB; simp [h0, h1, h2, h3, h4, h5]
              subst er
              exact pl32 d0 d1 d2 bo fr tr ag K kc ks j Y cj hl h0 h1 h2 h3 h4 h5  w
        · skip
          cases h4 : inB j.pr (-1000) 1000
          · skip
            have er : r = false := by rw [← h]; unfold plainB; simp [h0, h1, h2, h3, h4]
            subst er
            exact pl40 d0 d1 d2 bo fr tr ag K kc ks j Y cj hl h0 h1 h2 h3 h4  w
          · cases h5 : inB j.ca 0 1099511627776
            · skip
              have er : r = false := by rw [← h]; unfold plainB; simp [h0, h1, h2, h3, h4, h5]
              subst er
              exact pl41 d0 d1 d2 bo fr tr ag K kc ks j Y cj hl h0 h1 h2 h3 h4 h5  w
            · skip
              by_cases t0 : 1 ≤ j.st
              · by_cases t1 : j.st ≤ 6
                · rcases (show j.he = false ∨ j.he = true by cases j.he <;> simp) with t2 | t2
                  · skip
                    have er : r = true := by rw [← h]; unfold plainB; simp [h0, h1, h2, h3, h4, h5, t0, t1, t2]
                    subst er
                    exact pl42free d0 d1 d2 bo fr tr ag K kc ks j Y cj hl h0 h1 h2 h3 h4 h5 t0 t1 t2 w
                  · by_cases t3 : j.st = 1
                    · skip
                      have er : r = true := by rw [← h]; unfold plainB; simp [h0, h1, h2, h3, h4, h5, t0, t1, t2, t3]
                      subst er
                      exact pl42waits d0 d1 d2 bo fr tr ag K kc ks j Y cj hl h0 h1 h2 h3 h4 h5 t0 t1 t2 t3 w
                    · skip
                      have er : r = false := by rw [← h]; unfold plainB; simp [h0, h1, h2, h3, h4, h5, t0, t1, t2, t3]
                      subst er
                      exact pl42held d0 d1 d2 bo fr tr ag K kc ks j Y cj hl h0 h1 h2 h3 h4 h5 t0 t1 t2 t3 w
                · skip
                  have er : r = false := by rw [← h]; unfold plainB; simp [h0, h1, h2, h3, h4, h5, t0, t1]
                  subst er
                  exact pl42hi d0 d1 d2 bo fr tr ag K kc ks j Y cj hl h0 h1 h2 h3 h4 h5 t0 t1 w
              · skip
                have er : r = false := by rw [← h]; unfold plainB; simp [h0, h1, h2, h3, h4, h5, t0]
                subst er
                exact pl42lo d0 d1 d2 bo fr tr ag K kc ks j Y cj hl h0 h1 h2 h3 h4 h5 t0 w
end Go.Proofs.YtfpljpdjohmbaaaGreat.JobPlain
/-! job.after: whether the numbers of those that are waited for may be. -/
namespace Go.Proofs.YtfpljpdjohmbaaaGreat.JobAfter
open Go.RowKit Mem PosMath PartMath TurnMath JobMath JobIndex
set_option linter.unusedVariables false
set_option linter.unusedSimpArgs false

/-- What stands ahead of the k-th one. -/
def lastAt (s : Int) (l : List Int) : Nat → Int
  | 0 => s
  | k + 1 => l.getD k 0
theorem lastAt_cons (s y : Int) (t : List Int) (k : Nat) : lastAt s (y :: t) (k + 1) = lastAt y t k := by
  cases k <;> simp [lastAt]
theorem ris_iff {top : Int} : ∀ {l : List Int} {s : Int}, risB top s l = true ↔ ∀ k v, l[k]? = some v → lastAt s l k < v ∧ v < top
  | [], s => by simp [risB]
  | y :: t, s => by
    unfold risB
    rw [Bool.and_eq_true, Bool.and_eq_true, ris_iff, decide_eq_true_eq, decide_eq_true_eq]
    constructor
    · rintro ⟨⟨h1, h2⟩, h3⟩ k v hk
      cases k with
      | zero => simp at hk; subst hk; exact ⟨h1, h2⟩
      | succ k => rw [lastAt_cons]; exact h3 k v (by simpa using hk)
    · intro h
      refine ⟨h 0 y rfl, fun k v hk => ?_⟩
      have := h (k + 1) v (by simpa using hk)
      rwa [lastAt_cons] at this
theorem any_ris {top : Int} {l : List Int} {b : Bool} (h : AnyOf l (fun k v => decide (v ≤ lastAt 0 l k) || decide (top ≤ v)) b) : b = !risB top 0 l := by
  rcases h with ⟨rfl, h⟩ | ⟨rfl, k, v, hk, hv, _⟩
  · rw [ris_iff.2 fun k v hk => by
      have := h k v hk
      simp at this
      omega]
    rfl
  · have : risB top 0 l ≠ true := fun h => by
      have := ris_iff.1 h k v hk
      simp at hv
      omega
    simp at this
    rw [this]
    rfl
theorem after_le (gl gj : Nat) (last id v : Int) (h : v ≤ last) (w : World) (kl : Blk w gl 3 #[.int .i64 last]) (ci : w.cell? ⟨gj, 0, none⟩ = some (.int .i64 id)) (hne : gj ≠ gl) :
    Calls Tryz.prog 66 #[.int .i64 v, .pointer (some ⟨gl, 0, none⟩), .pointer (some ⟨gj, 0, none⟩)] w fun e w' => e = .returned (.bool true) ∧ w' = w.setCell ⟨gl, 0, none⟩ (.int .i64 v) := by
  have cl : w.cell? ⟨gl, 0, none⟩ = some (.int .i64 last) := kl.cell 0
  have fl : w.frozen? ⟨gl, 0, none⟩ = false := kl.frozen 0
  clear kl
  go_enter Tryz.func66, Tryz.ntmps66
  go_wp2_with fail
  go_ret
  exact ⟨rfl, rfl⟩
theorem after_ge (gl gj : Nat) (last id v : Int) (h : ¬ v ≤ last) (h2 : id ≤ v) (w : World) (kl : Blk w gl 3 #[.int .i64 last]) (ci : w.cell? ⟨gj, 0, none⟩ = some (.int .i64 id)) (hne : gj ≠ gl) :
    Calls Tryz.prog 66 #[.int .i64 v, .pointer (some ⟨gl, 0, none⟩), .pointer (some ⟨gj, 0, none⟩)] w fun e w' => e = .returned (.bool true) ∧ w' = w.setCell ⟨gl, 0, none⟩ (.int .i64 v) := by
  have cl : w.cell? ⟨gl, 0, none⟩ = some (.int .i64 last) := kl.cell 0
  have fl : w.frozen? ⟨gl, 0, none⟩ = false := kl.frozen 0
  clear kl
  go_enter Tryz.func66, Tryz.ntmps66
  go_wp2_with fail
  go_ret
  exact ⟨rfl, rfl⟩
theorem after_in (gl gj : Nat) (last id v : Int) (h : ¬ v ≤ last) (h2 : ¬ id ≤ v) (w : World) (kl : Blk w gl 3 #[.int .i64 last]) (ci : w.cell? ⟨gj, 0, none⟩ = some (.int .i64 id)) (hne : gj ≠ gl) :
    Calls Tryz.prog 66 #[.int .i64 v, .pointer (some ⟨gl, 0, none⟩), .pointer (some ⟨gj, 0, none⟩)] w fun e w' => e = .returned (.bool false) ∧ w' = w.setCell ⟨gl, 0, none⟩ (.int .i64 v) := by
  have cl : w.cell? ⟨gl, 0, none⟩ = some (.int .i64 last) := kl.cell 0
  have fl : w.frozen? ⟨gl, 0, none⟩ = false := kl.frozen 0
  clear kl
  go_enter Tryz.func66, Tryz.ntmps66
  go_wp2_with fail
  go_ret
  exact ⟨rfl, rfl⟩
theorem after_step (gl gj : Nat) (last id v : Int) (w : World) (kl : Blk w gl 3 #[.int .i64 last]) (ci : w.cell? ⟨gj, 0, none⟩ = some (.int .i64 id)) (hne : gj ≠ gl) :
    Calls Tryz.prog 66 #[.int .i64 v, .pointer (some ⟨gl, 0, none⟩), .pointer (some ⟨gj, 0, none⟩)] w fun e w' => e = .returned (.bool (decide (v ≤ last) || decide (id ≤ v))) ∧ w' = w.setCell ⟨gl, 0, none⟩ (.int .i64 v) := by
  by_cases h : v ≤ last
  · rw [show (decide (v ≤ last) || decide (id ≤ v)) = true by simp [h]]
    exact after_le gl gj last id v h w kl ci hne
  · by_cases h2 : id ≤ v
    · rw [show (decide (v ≤ last) || decide (id ≤ v)) = true by simp [h2]]
      exact after_ge gl gj last id v h h2 w kl ci hne
    · rw [show (decide (v ≤ last) || decide (id ≤ v)) = false by simp [h, h2]]
      exact after_in gl gj last id v h h2 w kl ci hne
theorem after_many (j : JV) (Y : Option Addr) (cj : Nat) (h : ¬ (j.af.length : Int) ≤ 4) (hl : j.af.length ≤ 4611686018427387904) (w : World) :
    Calls Tryz.prog 41 #[.agg #[.int .i64 j.id, .int .i64 j.us, .int .i64 j.cl, .int .i64 j.x.a, .int .i64 j.x.b, .int .i64 j.x.c, .bool j.x.p, .bool j.x.q, .bool j.x.r, .bool j.x.tn, .int .i64 j.wa, .int .i64 j.pr, .bool j.he, .slice Y j.af.length cj, .int .u8 j.st, .int .i64 j.ca]] w fun e w' => e = .returned (.bool false) ∧ Below w.heap.size w w' := by
  go_enter Tryz.func41, Tryz.ntmps41
  go_wp2_with fail
  go_ret
  exact ⟨rfl, below_alloc (below_alloc (Below.refl _ _))⟩
theorem after_few (j : JV) (Y : Option Addr) (cj : Nat) (h : (j.af.length : Int) ≤ 4) (w : World) (hY : IntsAt w Y j.af) :
    Calls Tryz.prog 41 #[.agg #[.int .i64 j.id, .int .i64 j.us, .int .i64 j.cl, .int .i64 j.x.a, .int .i64 j.x.b, .int .i64 j.x.c, .bool j.x.p, .bool j.x.q, .bool j.x.r, .bool j.x.tn, .int .i64 j.wa, .int .i64 j.pr, .bool j.he, .slice Y j.af.length cj, .int .u8 j.st, .int .i64 j.ca]] w fun e w' => e = .returned (.bool (risB j.id 0 j.af)) ∧ Below w.heap.size w w' := by
  have hW1 : Below w.heap.size w ((w.alloc (.cells #[.int .i64 j.id, .int .i64 j.us, .int .i64 j.cl, .int .i64 j.x.a, .int .i64 j.x.b, .int .i64 j.x.c, .bool j.x.p, .bool j.x.q, .bool j.x.r, .bool j.x.tn, .int .i64 j.wa, .int .i64 j.pr, .bool j.he, .slice Y j.af.length cj, .int .u8 j.st, .int .i64 j.ca] 33)).alloc (.cells #[.int .i64 0] 3)) := below_alloc (below_alloc (Below.refl _ _))
  have kj : Blk ((w.alloc (.cells #[.int .i64 j.id, .int .i64 j.us, .int .i64 j.cl, .int .i64 j.x.a, .int .i64 j.x.b, .int .i64 j.x.c, .bool j.x.p, .bool j.x.q, .bool j.x.r, .bool j.x.tn, .int .i64 j.wa, .int .i64 j.pr, .bool j.he, .slice Y j.af.length cj, .int .u8 j.st, .int .i64 j.ca] 33)).alloc (.cells #[.int .i64 0] 3)) w.heap.size 33 #[.int .i64 j.id, .int .i64 j.us, .int .i64 j.cl, .int .i64 j.x.a, .int .i64 j.x.b, .int .i64 j.x.c, .bool j.x.p, .bool j.x.q, .bool j.x.r, .bool j.x.tn, .int .i64 j.wa, .int .i64 j.pr, .bool j.he, .slice Y j.af.length cj, .int .u8 j.st, .int .i64 j.ca] := (Blk.new w _ _).alloc _
  have kl : Blk ((w.alloc (.cells #[.int .i64 j.id, .int .i64 j.us, .int .i64 j.cl, .int .i64 j.x.a, .int .i64 j.x.b, .int .i64 j.x.c, .bool j.x.p, .bool j.x.q, .bool j.x.r, .bool j.x.tn, .int .i64 j.wa, .int .i64 j.pr, .bool j.he, .slice Y j.af.length cj, .int .u8 j.st, .int .i64 j.ca] 33)).alloc (.cells #[.int .i64 0] 3)) (w.heap.size + 1) 3 #[.int .i64 0] := blk1 w _ _
  have hc := iContainsFunc Y cj j.af (fun k v => decide (v ≤ lastAt 0 j.af k) || decide (j.id ≤ v))
    (fun k w' => Below w.heap.size w w' ∧ Blk w' (w.heap.size + 1) 3 #[.int .i64 (lastAt 0 j.af k)] ∧ Blk w' w.heap.size 33 #[.int .i64 j.id, .int .i64 j.us, .int .i64 j.cl, .int .i64 j.x.a, .int .i64 j.x.b, .int .i64 j.x.c, .bool j.x.p, .bool j.x.q, .bool j.x.r, .bool j.x.tn, .int .i64 j.wa, .int .i64 j.pr, .bool j.he, .slice Y j.af.length cj, .int .u8 j.st, .int .i64 j.ca])
    66 #[.pointer (some ⟨w.heap.size + 1, 0, none⟩), .pointer (some ⟨w.heap.size, 0, none⟩)] (by omega) ((w.alloc (.cells #[.int .i64 j.id, .int .i64 j.us, .int .i64 j.cl, .int .i64 j.x.a, .int .i64 j.x.b, .int .i64 j.x.c, .bool j.x.p, .bool j.x.q, .bool j.x.r, .bool j.x.tn, .int .i64 j.wa, .int .i64 j.pr, .bool j.he, .slice Y j.af.length cj, .int .u8 j.st, .int .i64 j.ca] 33)).alloc (.cells #[.int .i64 0] 3)) ⟨hW1, kl, kj⟩ (fun k w' h => hY.up h.1) (enters_of Tryz.func66 (by kernel_rfl) rfl)
    (fun k v hk w' h => (after_step (w.heap.size + 1) w.heap.size _ j.id v w' h.2.1 (h.2.2.cell 0) (by omega)).mono fun e w'' h2 => ⟨h2.1, by
      rw [h2.2]
      refine ⟨h.1.setCell (by show w.heap.size ≤ w.heap.size + 1; omega) _, ?_, ?_⟩
      · have := h.2.1.set_ 0 (.int .i64 v)
        rw [show lastAt 0 j.af (k + 1) = v from by simp [lastAt, List.getD_eq_getElem?_getD, hk]]
        exact this
      · exact h.2.2.far (by show w.heap.size ≠ w.heap.size + 1; omega) _⟩)
  have HC := Lib.hid hc
  clear hc kj kl hW1
  go_enter Tryz.func41, Tryz.ntmps41
  go_wp2_with fail
  refine HC.out.mono ?_
  rintro e w1 ⟨b, rfl, hb, k, hI⟩
  have HB := Lib.hid (And.intro (any_ris hb) hI.1)
  clear hb hI
  go_wp2_with fail
  go_ret
  have e := HB.out.1
  exact ⟨by rw [e]; simp, HB.out.2⟩
theorem jafter (j : JV) (Y : Option Addr) (cj : Nat) (hl : j.af.length ≤ 4611686018427387904) (r : Bool) (h : afterB j = r) (w : World) (hY : IntsAt w Y j.af) :
    Calls Tryz.prog 41 #[.agg #[.int .i64 j.id, .int .i64 j.us, .int .i64 j.cl, .int .i64 j.x.a, .int .i64 j.x.b, .int .i64 j.x.c, .bool j.x.p, .bool j.x.q, .bool j.x.r, .bool j.x.tn, .int .i64 j.wa, .int .i64 j.pr, .bool j.he, .slice Y j.af.length cj, .int .u8 j.st, .int .i64 j.ca]] w fun e w' => e = .returned (.bool r) ∧ Below w.heap.size w w' := by
  unfold afterB at h
  by_cases h4 : (j.af.length : Int) ≤ 4
  · have e : r = risB j.id 0 j.af := by rw [← h, decide_eq_true (by omega)]; rfl
    rw [e]
    exact after_few j Y cj h4 w hY
  · have e : r = false := by rw [← h, decide_eq_false (by omega)]; rfl
    rw [e]
    exact after_many j Y cj h4 hl w
end Go.Proofs.YtfpljpdjohmbaaaGreat.JobAfter
