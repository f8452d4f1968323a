/- JobMay: the walk. -/
import Derived.BigRegion
import Derived.BigQuiet
import Derived.Lib.QuietBelow
import Derived.Deep.QuietTactic
import Derived.Deep.DeepCutAuto
import Derived.Deep.MidRow
import Derived.Test.YtfpljpdjohmbaaaOpenJob
import Derived.Test.YtfpljpdjohmbaaaJobGreat
import Derived.Test.YtfpljpdjohmbaaaJobAlive
import Derived.Test.YtfpljpdjohmbaaaMayMem
import Derived.Test.YtfpljpdjohmbaaaRankMem
import Derived.Test.YtfpljpdjohmbaaaQuietRow
namespace Go.Proofs.Ytfpljpdjohmbaaa.JobMayLaw
open Go.Sort (grow)
open Go.RowKit Mem PosMath PartMath TurnMath TurnMap TurnFitsV JobMath JobCheck JobIndex JobFind JobMem JobTable JobTwin JobSame JobRSame JobGreat JobAdd JobAlive DepsMath DepsWant RankMem MayMem QuietRow Lay
set_option linter.unusedVariables false
set_option linter.unusedSimpArgs false

theorem class_info : (Try.prog.info? 56).map (fun i => (i.zero, i.size, i.bytes)) = some (some (.agg #[.int .i64 0, .int .i64 0, .int .i64 0, .int .i64 0]), 4, 32) := by kernel_rfl
theorem jobs_take2 {w : World} {X : Option Addr} {m : List JV} (h : JobsAt w X m) (k : Nat) : JobsAt w X (m.take k) := fun i j hi => by
  have hik : i < k := by have := (List.getElem?_eq_some_iff.1 hi).1; simp at this; omega
  rw [List.getElem?_take_of_lt hik] at hi
  exact h i j hi
theorem CheckV_ok2 {d0 d1 d2 bo fr tr ag : Int} {ks : List Cls} {j : JV} (hc : CfgOk d0 d1 d2 bo fr tr ag ks) (h : checkV d0 d1 d2 ks j = 0) : CheckV d0 d1 d2 bo fr tr ag ks j = 0 := by
  unfold CheckV
  rw [if_pos hc]; exact h
set_option maxRecDepth 100000 in
set_option maxHeartbeats 16000000 in
theorem jm_cls (d0 d1 d2 bo fr tr ag : Int) (K : Option Addr) (kc : Nat) (ks : List Cls) (hlk : ks.length ≤ maxLen) (X : Option Addr) (cX : Nat) (l : List JV) (hlc : l.length ≤ cX) (hl : l.length ≤ maxLen) (hla : ∀ j ∈ l, JWf j ∧ j.af.length ≤ maxLen) (h0 : (100 : Int) < (ks.length : Int)) (w : World) (hk : ClsAt w w.heap.size K ks) (hX : JobsAt w X l) :
    Calls Try.prog 6 #[.agg #[.int .i64 d0, .int .i64 d1, .int .i64 d2, .int .i64 bo, .int .i64 fr, .int .i64 tr, .int .i64 ag, .slice K ks.length kc], .slice X l.length cX] w fun e w' => e = .returned (.bool true) ∧ Below w.heap.size w w' := by
  unfold maxLen at hlk hl
  clear hk hX
  go_enter Try.func6, Try.ntmps6
  go_upto_region 1 with fail
  have kc0 : Blk (w.alloc (.cells #[.int .i64 d0, .int .i64 d1, .int .i64 d2, .int .i64 bo, .int .i64 fr, .int .i64 tr, .int .i64 ag, .slice K ks.length kc] 26)) w.heap.size 26 #[.int .i64 d0, .int .i64 d1, .int .i64 d2, .int .i64 bo, .int .i64 fr, .int .i64 tr, .int .i64 ag, .slice K ks.length kc] := Blk.new w _ _
  have hb0 : Below w.heap.size w (w.alloc (.cells #[.int .i64 d0, .int .i64 d1, .int .i64 d2, .int .i64 bo, .int .i64 fr, .int .i64 tr, .int .i64 ag, .slice K ks.length kc] 26)) := below_alloc (Below.refl _ _)
  generalize (w.alloc (.cells #[.int .i64 d0, .int .i64 d1, .int .i64 d2, .int .i64 bo, .int .i64 fr, .int .i64 tr, .int .i64 ag, .slice K ks.length kc] 26)) = w0 at *
  have HB0 := Lib.hid hb0
  have KC0 := Lib.hid kc0
  clear hb0 kc0
  go_wp2_with fail
  refine (jalive _).mono ?_
  rintro e w1 ⟨rfl, hB1⟩
  have HB1 := Lib.hid (below_up HB0.out hB1)
  have KC1 := Lib.hid (KC0.out.below hB1 KC0.out.lt)
  have xk : w1.cell? ⟨w.heap.size, 7, none⟩ = some (.slice K ks.length kc) := KC1.out.cell 7
  clear hB1 KC0 HB0
  go_wp2_with fail
  go_ret
  exact ⟨rfl, HB1.out⟩
set_option maxRecDepth 100000 in
set_option maxHeartbeats 16000000 in
theorem jm_great (d0 d1 d2 bo fr tr ag : Int) (K : Option Addr) (kc : Nat) (ks : List Cls) (hlk : ks.length ≤ maxLen) (X : Option Addr) (cX : Nat) (l : List JV) (hlc : l.length ≤ cX) (hl : l.length ≤ maxLen) (hla : ∀ j ∈ l, JWf j ∧ j.af.length ≤ maxLen) (h0 : ¬ (100 : Int) < (ks.length : Int)) (h1 : greatB l = true) (w : World) (hk : ClsAt w w.heap.size K ks) (hX : JobsAt w X l) :
    Calls Try.prog 6 #[.agg #[.int .i64 d0, .int .i64 d1, .int .i64 d2, .int .i64 bo, .int .i64 fr, .int .i64 tr, .int .i64 ag, .slice K ks.length kc], .slice X l.length cX] w fun e w' => e = .returned (.bool true) ∧ Below w.heap.size w w' := by
  unfold maxLen at hlk hl
  have HG1 := Lib.hid (fun w h => great_big X cX l (by omega) (fun j hj => by have := (hla j hj).2; unfold maxLen at this; omega) w h)
  rw [h1] at HG1
  have HX := Lib.hid hX
  clear hk hX h1
  go_enter Try.func6, Try.ntmps6
  go_upto_region 1 with fail
  have kc0 : Blk (w.alloc (.cells #[.int .i64 d0, .int .i64 d1, .int .i64 d2, .int .i64 bo, .int .i64 fr, .int .i64 tr, .int .i64 ag, .slice K ks.length kc] 26)) w.heap.size 26 #[.int .i64 d0, .int .i64 d1, .int .i64 d2, .int .i64 bo, .int .i64 fr, .int .i64 tr, .int .i64 ag, .slice K ks.length kc] := Blk.new w _ _
  have hb0 : Below w.heap.size w (w.alloc (.cells #[.int .i64 d0, .int .i64 d1, .int .i64 d2, .int .i64 bo, .int .i64 fr, .int .i64 tr, .int .i64 ag, .slice K ks.length kc] 26)) := below_alloc (Below.refl _ _)
  generalize (w.alloc (.cells #[.int .i64 d0, .int .i64 d1, .int .i64 d2, .int .i64 bo, .int .i64 fr, .int .i64 tr, .int .i64 ag, .slice K ks.length kc] 26)) = w0 at *
  have HB0 := Lib.hid hb0
  have KC0 := Lib.hid kc0
  clear hb0 kc0
  go_wp2_with fail
  refine (jalive _).mono ?_
  rintro e w1 ⟨rfl, hB1⟩
  have HB1 := Lib.hid (below_up HB0.out hB1)
  have KC1 := Lib.hid (KC0.out.below hB1 KC0.out.lt)
  have xk : w1.cell? ⟨w.heap.size, 7, none⟩ = some (.slice K ks.length kc) := KC1.out.cell 7
  clear hB1 KC0 HB0
  go_wp2_with fail
  refine (HG1.out _ (HX.out.up HB1.out)).mono ?_
  rintro e w2 ⟨rfl, hB2⟩
  have HB2 := Lib.hid (below_up HB1.out hB2)
  have KC2 := Lib.hid (KC1.out.below hB2 KC1.out.lt)
  clear hB2 KC1 xk HB1 HG1
  go_wp2_with fail
  go_ret
  exact ⟨rfl, HB2.out⟩
set_option maxRecDepth 100000 in
set_option maxHeartbeats 16000000 in
theorem jm_bad (d0 d1 d2 bo fr tr ag : Int) (K : Option Addr) (kc : Nat) (ks : List Cls) (hlk : ks.length ≤ maxLen) (X : Option Addr) (cX : Nat) (l : List JV) (hlc : l.length ≤ cX) (hl : l.length ≤ maxLen) (hla : ∀ j ∈ l, JWf j ∧ j.af.length ≤ maxLen) (h0 : ¬ (100 : Int) < (ks.length : Int)) (h1 : greatB l = false) (hv : tableV d0 d1 d2 bo fr tr ag ks l ≠ 0) (w : World) (hk : ClsAt w w.heap.size K ks) (hX : JobsAt w X l) :
    Calls Try.prog 6 #[.agg #[.int .i64 d0, .int .i64 d1, .int .i64 d2, .int .i64 bo, .int .i64 fr, .int .i64 tr, .int .i64 ag, .slice K ks.length kc], .slice X l.length cX] w fun e w' => e = .returned (.bool true) ∧ Below w.heap.size w w' := by
  unfold maxLen at hlk hl
  have HG1 := Lib.hid (fun w h => great_big X cX l (by omega) (fun j hj => by have := (hla j hj).2; unfold maxLen at this; omega) w h)
  rw [h1] at HG1
  obtain ⟨hl1, hl2⟩ := great_not h1
  have hlj : ∀ j ∈ l, JWf j := fun j hj => (hla j hj).1
  have hl4 : ∀ j ∈ l, j.af.length ≤ 1000 := fun j hj => by have := hl2 j hj; omega
  have HX := Lib.hid hX
  have HK := Lib.hid hk
  have HT := Lib.hid (fun w hk hX => table_any d0 d1 d2 bo fr tr ag K kc ks (by omega) X cX l (by omega) (fun j hj => by have := hl4 j hj; omega) w hk hX)
  generalize tableV d0 d1 d2 bo fr tr ag ks l = V at *
  have hv' : (V != 0) = true := by simpa using hv
  clear hk hX h1 hlj hl4 hl2 hv
  go_enter Try.func6, Try.ntmps6
  go_upto_region 1 with fail
  have kc0 : Blk (w.alloc (.cells #[.int .i64 d0, .int .i64 d1, .int .i64 d2, .int .i64 bo, .int .i64 fr, .int .i64 tr, .int .i64 ag, .slice K ks.length kc] 26)) w.heap.size 26 #[.int .i64 d0, .int .i64 d1, .int .i64 d2, .int .i64 bo, .int .i64 fr, .int .i64 tr, .int .i64 ag, .slice K ks.length kc] := Blk.new w _ _
  have hb0 : Below w.heap.size w (w.alloc (.cells #[.int .i64 d0, .int .i64 d1, .int .i64 d2, .int .i64 bo, .int .i64 fr, .int .i64 tr, .int .i64 ag, .slice K ks.length kc] 26)) := below_alloc (Below.refl _ _)
  generalize (w.alloc (.cells #[.int .i64 d0, .int .i64 d1, .int .i64 d2, .int .i64 bo, .int .i64 fr, .int .i64 tr, .int .i64 ag, .slice K ks.length kc] 26)) = w0 at *
  have HB0 := Lib.hid hb0
  have KC0 := Lib.hid kc0
  clear hb0 kc0
  go_wp2_with fail
  refine (jalive _).mono ?_
  rintro e w1 ⟨rfl, hB1⟩
  have HB1 := Lib.hid (below_up HB0.out hB1)
  have KC1 := Lib.hid (KC0.out.below hB1 KC0.out.lt)
  have xk : w1.cell? ⟨w.heap.size, 7, none⟩ = some (.slice K ks.length kc) := KC1.out.cell 7
  clear hB1 KC0 HB0
  go_wp2_with fail
  refine (HG1.out _ (HX.out.up HB1.out)).mono ?_
  rintro e w2 ⟨rfl, hB2⟩
  have HB2 := Lib.hid (below_up HB1.out hB2)
  have KC2 := Lib.hid (KC1.out.below hB2 KC1.out.lt)
  clear hB2 KC1 xk HB1 HG1
  have q0 : w2.cell? ⟨w.heap.size, 0, none⟩ = some (.int .i64 d0) := KC2.out.cell 0
  have q1 : w2.cell? ⟨w.heap.size, 1, none⟩ = some (.int .i64 d1) := KC2.out.cell 1
  have q2 : w2.cell? ⟨w.heap.size, 2, none⟩ = some (.int .i64 d2) := KC2.out.cell 2
  have q3 : w2.cell? ⟨w.heap.size, 3, none⟩ = some (.int .i64 bo) := KC2.out.cell 3
  have q4 : w2.cell? ⟨w.heap.size, 4, none⟩ = some (.int .i64 fr) := KC2.out.cell 4
  have q5 : w2.cell? ⟨w.heap.size, 5, none⟩ = some (.int .i64 tr) := KC2.out.cell 5
  have q6 : w2.cell? ⟨w.heap.size, 6, none⟩ = some (.int .i64 ag) := KC2.out.cell 6
  have q7 : w2.cell? ⟨w.heap.size, 7, none⟩ = some (.slice K ks.length kc) := KC2.out.cell 7
  go_wp2_with fail
  refine (HT.out _ (HK.out.up HB2.out) (HX.out.up HB2.out)).mono ?_
  rintro e w3 ⟨rfl, hB3⟩
  have HB3 := Lib.hid (below_up HB2.out hB3)
  have KC3 := Lib.hid (KC2.out.below hB3 KC2.out.lt)
  clear hB3 KC2 HT HB2 q0 q1 q2 q3 q4 q5 q6 q7
  go_wp2_with fail
  go_ret
  exact ⟨rfl, HB3.out⟩
set_option maxRecDepth 100000 in
set_option maxHeartbeats 16000000 in
theorem jm_main (d0 d1 d2 bo fr tr ag : Int) (K : Option Addr) (kc : Nat) (ks : List Cls) (hlk : ks.length ≤ maxLen) (X : Option Addr) (cX : Nat) (l : List JV) (hlc : l.length ≤ cX) (hl : l.length ≤ maxLen) (hla : ∀ j ∈ l, JWf j ∧ j.af.length ≤ maxLen) (h0 : ¬ (100 : Int) < (ks.length : Int)) (h1 : greatB l = false) (hv : tableV d0 d1 d2 bo fr tr ag ks l = 0) (w : World) (hk : ClsAt w w.heap.size K ks) (hX : JobsAt w X l) :
    Calls Try.prog 6 #[.agg #[.int .i64 d0, .int .i64 d1, .int .i64 d2, .int .i64 bo, .int .i64 fr, .int .i64 tr, .int .i64 ag, .slice K ks.length kc], .slice X l.length cX] w fun e w' => e = .returned (.bool true) ∧ Below w.heap.size w w' := by
  unfold maxLen at hlk hl
  have HG1 := Lib.hid (fun w h => great_big X cX l (by omega) (fun j hj => by have := (hla j hj).2; unfold maxLen at this; omega) w h)
  rw [h1] at HG1
  obtain ⟨hl1, hl2⟩ := great_not h1
  have hlj : ∀ j ∈ l, JWf j := fun j hj => (hla j hj).1
  have hl4 : ∀ j ∈ l, j.af.length ≤ 1000 := fun j hj => by have := hl2 j hj; omega
  have HX := Lib.hid hX
  have HK := Lib.hid hk
  have HT := Lib.hid (fun w hk hX => table_any d0 d1 d2 bo fr tr ag K kc ks (by omega) X cX l (by omega) (fun j hj => by have := hl4 j hj; omega) w hk hX)
  obtain ⟨hC, hck, hv2, hv3, hl24⟩ := may_plain hv
  have hkl := cfg_len hC
  have hKe : ∃ kb ko, K = some ⟨kb, ko, none⟩ := by
    obtain ⟨b, o, e, _⟩ := hk 0 _ (List.getElem?_eq_getElem (show 0 < ks.length by omega))
    exact ⟨b, o, e⟩
  obtain ⟨kb, ko, hKe⟩ := hKe
  subst hKe
  have HTW := Lib.hid (fun w hX => twin_any X cX l (by omega) hl4 w hX)
  have HCK := Lib.hid (fun (ks2 : List Cls) (K2 : Option Addr) (kc2 : Nat) (x : JV) (Y : Option Addr) (cj : Nat) (w : World) (h : ks2.length = ks.length ∧ CheckV d0 d1 d2 bo fr tr ag ks2 x = 0 ∧ x.af.length ≤ 1000) (hk : ClsAt w w.heap.size K2 ks2) (hY : IntsAt w Y x.af) =>
    (show Calls Try.prog 22 #[.agg #[.int .i64 d0, .int .i64 d1, .int .i64 d2, .int .i64 bo, .int .i64 fr, .int .i64 tr, .int .i64 ag, .slice K2 ks.length kc2], .agg #[.int .i64 x.id, .int .i64 x.us, .int .i64 x.cl, .int .i64 x.x.a, .int .i64 x.x.b, .int .i64 x.x.c, .bool x.x.p, .bool x.x.q, .bool x.x.r, .bool x.x.tn, .int .i64 x.wa, .int .i64 x.pr, .bool x.he, .slice Y x.af.length cj, .int .u8 x.st, .int .i64 x.ca]] w (fun e w' => e = .returned (.int .i64 0) ∧ Below w.heap.size w w') from by
      have h2 := jCheck d0 d1 d2 bo fr tr ag K2 kc2 ks2 x Y cj (by omega) (by omega) w hk hY
      rw [h.2.1, h.1] at h2
      exact h2))
  have HTD := Lib.hid (fun (X1 : Option Addr) (c1 : Nat) (w : World) (hk : ClsAt w w.heap.size (some ⟨kb, ko, none⟩) ks) (hX : JobsAt w X1 (l.map (inState 3))) =>
    (show Calls Try.prog 24 #[.agg #[.int .i64 d0, .int .i64 d1, .int .i64 d2, .int .i64 bo, .int .i64 fr, .int .i64 tr, .int .i64 ag, .slice (some ⟨kb, ko, none⟩) ks.length kc], .slice X1 l.length c1] w (fun e w' => e = .returned (.int .i64 0) ∧ Below w.heap.size w w') from by
      have h2 := table_any d0 d1 d2 bo fr tr ag (some ⟨kb, ko, none⟩) kc ks (by omega) X1 c1 (l.map (inState 3)) (by rw [List.length_map]; omega) (fun j hj => by
        obtain ⟨x, hx, rfl⟩ := List.mem_map.1 hj
        show x.af.length ≤ _
        have := hl4 x hx
        omega) w hk hX
      rw [hv2, List.length_map] at h2
      exact h2))
  have HTL := Lib.hid (fun (m : Nat) (c1 : Nat) (w : World) (hm : m ≤ l.length) (hk : ClsAt w w.heap.size (some ⟨kb, ko, none⟩) ks) (hX : JobsAt w X l) =>
    (show Calls Try.prog 24 #[.agg #[.int .i64 d0, .int .i64 d1, .int .i64 d2, .int .i64 bo, .int .i64 fr, .int .i64 tr, .int .i64 ag, .slice (some ⟨kb, ko, none⟩) ks.length kc], .slice X m c1] w (fun e w' => e = .returned (.int .i64 0) ∧ Below w.heap.size w w') from by
      have h2 := table_any d0 d1 d2 bo fr tr ag (some ⟨kb, ko, none⟩) kc ks (by omega) X c1 (l.take m) (by rw [List.length_take]; omega) (fun j hj => by have := hl4 j (List.mem_of_mem_take hj); omega) w hk (jobs_take2 hX m)
      rw [hv3 m, List.length_take, Nat.min_eq_left hm] at h2
      exact h2))
  have HOT := Lib.hid (fun (x : JV) (hx : x ∈ l) (k : Nat) => check_oth hC (hck x hx) k)
  have HCL := Lib.hid (fun (x : JV) (hx : x ∈ l) => CheckV_ok2 hC (hck x hx))
  have HL4 := Lib.hid hl4
  have HHL := Lib.hid (fun (x : JV) (hx : x ∈ l) => (plain_cl (check_zero (hck x hx)).1))
  rw [hv] at HT
  obtain ⟨ic, a0, a1, a2, a3⟩ := info_parts class_info
  have HIC := Lib.hid (And.intro a0 (And.intro a1 (And.intro a2 a3)))
  have hll : ((l.length : Int) != (l.length : Int)) = false := by simp
  have HKL := Lib.hid hkl
  have hk4 : (ks.length : Int) ≤ 4 := by omega
  clear hk hX h1 hlj hl4 hl2 hv hC hck hv2 hv3 a0 a1 a2 a3 hkl
  go_enter Try.func6, Try.ntmps6
  go_upto_region 1 with fail
  have kc0 : Blk (w.alloc (.cells #[.int .i64 d0, .int .i64 d1, .int .i64 d2, .int .i64 bo, .int .i64 fr, .int .i64 tr, .int .i64 ag, .slice (some ⟨kb, ko, none⟩) ks.length kc] 26)) w.heap.size 26 #[.int .i64 d0, .int .i64 d1, .int .i64 d2, .int .i64 bo, .int .i64 fr, .int .i64 tr, .int .i64 ag, .slice (some ⟨kb, ko, none⟩) ks.length kc] := Blk.new w _ _
  have hb0 : Below w.heap.size w (w.alloc (.cells #[.int .i64 d0, .int .i64 d1, .int .i64 d2, .int .i64 bo, .int .i64 fr, .int .i64 tr, .int .i64 ag, .slice (some ⟨kb, ko, none⟩) ks.length kc] 26)) := below_alloc (Below.refl _ _)
  generalize (w.alloc (.cells #[.int .i64 d0, .int .i64 d1, .int .i64 d2, .int .i64 bo, .int .i64 fr, .int .i64 tr, .int .i64 ag, .slice (some ⟨kb, ko, none⟩) ks.length kc] 26)) = w0 at *
  have HB0 := Lib.hid hb0
  have KC0 := Lib.hid kc0
  clear hb0 kc0
  go_wp2_with fail
  refine (jalive _).mono ?_
  rintro e w1 ⟨rfl, hB1⟩
  have HB1 := Lib.hid (below_up HB0.out hB1)
  have KC1 := Lib.hid (KC0.out.below hB1 KC0.out.lt)
  have xk : w1.cell? ⟨w.heap.size, 7, none⟩ = some (.slice (some ⟨kb, ko, none⟩) ks.length kc) := KC1.out.cell 7
  clear hB1 KC0 HB0
  go_wp2_with fail
  refine (HG1.out _ (HX.out.up HB1.out)).mono ?_
  rintro e w2 ⟨rfl, hB2⟩
  have HB2 := Lib.hid (below_up HB1.out hB2)
  have KC2 := Lib.hid (KC1.out.below hB2 KC1.out.lt)
  clear hB2 KC1 xk HB1 HG1
  have q0 : w2.cell? ⟨w.heap.size, 0, none⟩ = some (.int .i64 d0) := KC2.out.cell 0
  have q1 : w2.cell? ⟨w.heap.size, 1, none⟩ = some (.int .i64 d1) := KC2.out.cell 1
  have q2 : w2.cell? ⟨w.heap.size, 2, none⟩ = some (.int .i64 d2) := KC2.out.cell 2
  have q3 : w2.cell? ⟨w.heap.size, 3, none⟩ = some (.int .i64 bo) := KC2.out.cell 3
  have q4 : w2.cell? ⟨w.heap.size, 4, none⟩ = some (.int .i64 fr) := KC2.out.cell 4
  have q5 : w2.cell? ⟨w.heap.size, 5, none⟩ = some (.int .i64 tr) := KC2.out.cell 5
  have q6 : w2.cell? ⟨w.heap.size, 6, none⟩ = some (.int .i64 ag) := KC2.out.cell 6
  have q7 : w2.cell? ⟨w.heap.size, 7, none⟩ = some (.slice (some ⟨kb, ko, none⟩) ks.length kc) := KC2.out.cell 7
  go_wp2_with fail
  refine (HT.out _ (HK.out.up HB2.out) (HX.out.up HB2.out)).mono ?_
  rintro e w3 ⟨rfl, hB3⟩
  have HB3 := Lib.hid (below_up HB2.out hB3)
  have KC3 := Lib.hid (KC2.out.below hB3 KC2.out.lt)
  clear hB3 KC2 HT HB2 q0 q1 q2 q3 q4 q5 q6 q7
  go_wp2_with fail
  refine (HTW.out _ (HX.out.up HB3.out)).mono ?_
  rintro e w4 ⟨X1, c1, rfl, hO, hB4⟩
  have HB4 := Lib.hid (below_up HB3.out hB4)
  have KC4 := Lib.hid (KC3.out.below hB4 KC3.out.lt)
  have HO4 := Lib.hid hO
  have HD4 := Lib.hid hB4
  clear hB4 hO HTW KC4 HB4
  go_wp2_with fail
  go_loopw [7] (fun i wr => ∃ k : Nat, k ≤ l.length ∧ i = .int .i64 k ∧ Hid (JobsOwn wr w3.heap.size X1 (rowsM (inState 3) l k)) ∧ Hid (Below w3.heap.size w3 wr))
    (fun i _ => l.length - (intOf i).toNat)
  case atStart => exact ⟨0, Nat.zero_le _, rfl, by rw [rowsM_zero]; exact HO4.out, HD4.out⟩
  case round =>
    obtain ⟨k, hk, rfl, hO, hB⟩ := hrel
    clear HO4 HD4
    by_cases hlt : k < l.length
    · have hg : l[k]? = some l[k] := List.getElem?_eq_getElem hlt
      generalize l[k] = x at hg
      have hxm := List.mem_of_getElem? hg
      have hki : (k : Int) < (l.length : Int) := by omega
      have hki0 : (0 : Int) ≤ (k : Int) := by omega
      obtain ⟨g, Y1, cj1, hXe, hgB, hgs, hJ, hF, _, _⟩ := hO.out k x (rowsM_at hg)
      have y14 : wr.cell? ⟨g, k * 16 + 14, none⟩ = some (.int .u8 x.st) := hJ.2.2.2.2.2.2.2.2.2.2.2.2.2.2.1
      have y12 : wr.cell? ⟨g, k * 16 + 12, none⟩ = some (.bool x.he) := hJ.2.2.2.2.2.2.2.2.2.2.2.2.1
      have f14 : wr.frozen? ⟨g, k * 16 + 14, none⟩ = false := hF 14 (by omega)
      have f12 : wr.frozen? ⟨g, k * 16 + 12, none⟩ = false := hF 12 (by omega)
      subst hXe
      have hO5 := JobsOwn.state 3 hO.out (rowsM_at hg)
      rw [rowsM_set hg] at hO5
      have hB5 := (hB.out.setCell (p := ⟨g, k * 16 + 14, none⟩) hgB (.int .u8 3)).setCell (p := ⟨g, k * 16 + 12, none⟩) hgB (.bool false)
      have HO5 := Lib.hid hO5
      have HB5 := Lib.hid hB5
      have HXM := Lib.hid (And.intro hg (And.intro hxm (HL4.out x hxm)))
      have hcl := HHL.out x hxm
      clear hg hxm hJ hF hgB hgs hO5 hB5 hO hB
      go_upto_region 10 with fail
      clear y14 y12 f14 f12
      generalize (wr.setCell ⟨g, k * 16 + 14, none⟩ (.int .u8 3)).setCell ⟨g, k * 16 + 12, none⟩ (.bool false) = w5 at *
      have HBw := Lib.hid (below_up HB3.out HB5.out)
      have KC5 := Lib.hid (KC3.out.below HB5.out KC3.out.lt)
      obtain ⟨b, o, Y, cj, hXe, _, hJ, hY⟩ := HX.out.up HBw.out k x HXM.out.1
      have HJ := Lib.hid (And.intro hJ.range hY)
      have HJ0 := Lib.hid hJ
      subst hXe
      clear hJ hY
      refine wp_region_quiet_below (by kernel_rfl) (by kernel_rfl) ?_
      repeat (first | (refine quiet_load_row (by rfl) 26 _ rfl _ rfl 26 #[.int .i64 d0, .int .i64 d1, .int .i64 d2, .int .i64 bo, .int .i64 fr, .int .i64 tr, .int .i64 ag, .slice (some ⟨kb, ko, none⟩) ks.length kc] KC5.out _ Try.underlying26 rfl (by kernel_rfl) ?_; simp only [Act.put, List.setIfInBounds_toArray, List.set_cons_zero, List.set_cons_succ]) | (refine quiet_load_mid (by rfl) 33 _ rfl _ _ rfl _ HJ.out.1 _ Try.underlying33 rfl (by kernel_rfl) ?_; simp only [Act.put, List.setIfInBounds_toArray, List.set_cons_zero, List.set_cons_succ]) | go_big_quiet_step (first | fail | exact Calls.regrown_of (HCK.out ks _ _ x _ _ _ ⟨rfl, HCL.out x HXM.out.2.1, HXM.out.2.2⟩ ((HK.out.up HBw.out).up (below_regrown _ _ _)) (HJ.out.2.up (below_regrown _ _ _)))))
      refine wpQuiet_nil ?_
      intro _ hw'
      obtain ⟨⟨dq, osq⟩, hw''⟩ := hw'
      subst hw''
      have hBq := below_regrown w5 dq osq
      generalize grow (redrawn w5 dq) osq = w6 at *
      have HB6 := Lib.hid (below_up HB5.out hBq)
      have HO6 := Lib.hid (HO5.out.up hBq)
      have KC6 := Lib.hid (KC5.out.below hBq KC5.out.lt)
      have HJ6 := Lib.hid (And.intro (range_up HJ.out.1 hBq) (HJ.out.2.up hBq))
      have HJ06 := Lib.hid (HJ0.out.up hBq)
      have HBv := Lib.hid (below_up HBw.out hBq)
      clear hBq HB5 HO5 KC5 HJ HJ0 HBw
      go_upto_region 13 with (first | (refine wpList_load_row rfl 26 _ rfl _ rfl 26 #[.int .i64 d0, .int .i64 d1, .int .i64 d2, .int .i64 bo, .int .i64 fr, .int .i64 tr, .int .i64 ag, .slice (some ⟨kb, ko, none⟩) ks.length kc] (0, 0) _ KC6.out Try.underlying26 rfl (by kernel_rfl) ?_))
      have ko7 : Blk (w6.alloc (.cells #[.int .i64 d0, .int .i64 d1, .int .i64 d2, .int .i64 bo, .int .i64 fr, .int .i64 tr, .int .i64 ag, .slice (some ⟨kb, ko, none⟩) ks.length kc] 26)) w6.heap.size 26 #[.int .i64 d0, .int .i64 d1, .int .i64 d2, .int .i64 bo, .int .i64 fr, .int .i64 tr, .int .i64 ag, .slice (some ⟨kb, ko, none⟩) ks.length kc] := Blk.new w6 _ _
      have hb7 : Below w6.heap.size w6 (w6.alloc (.cells #[.int .i64 d0, .int .i64 d1, .int .i64 d2, .int .i64 bo, .int .i64 fr, .int .i64 tr, .int .i64 ag, .slice (some ⟨kb, ko, none⟩) ks.length kc] 26)) := below_alloc (Below.refl _ _)
      have kc7 : Blk (w6.alloc (.cells #[.int .i64 d0, .int .i64 d1, .int .i64 d2, .int .i64 bo, .int .i64 fr, .int .i64 tr, .int .i64 ag, .slice (some ⟨kb, ko, none⟩) ks.length kc] 26)) w.heap.size 26 #[.int .i64 d0, .int .i64 d1, .int .i64 d2, .int .i64 bo, .int .i64 fr, .int .i64 tr, .int .i64 ag, .slice (some ⟨kb, ko, none⟩) ks.length kc] := KC6.out.alloc _
      have hs7 : (w6.alloc (.cells #[.int .i64 d0, .int .i64 d1, .int .i64 d2, .int .i64 bo, .int .i64 fr, .int .i64 tr, .int .i64 ag, .slice (some ⟨kb, ko, none⟩) ks.length kc] 26)).heap.size = w6.heap.size + 1 := World.size_alloc ..
      generalize (w6.alloc (.cells #[.int .i64 d0, .int .i64 d1, .int .i64 d2, .int .i64 bo, .int .i64 fr, .int .i64 tr, .int .i64 ag, .slice (some ⟨kb, ko, none⟩) ks.length kc] 26)) = w7 at *
      have y7 : w7.cell? ⟨w.heap.size, 7, none⟩ = some (.slice (some ⟨kb, ko, none⟩) ks.length kc) := kc7.cell 7
      have KO7 := Lib.hid ko7
      have HB7 := Lib.hid hb7
      have HCR := Lib.hid (cls_reads (HK.out.up (below_up HBv.out hb7)) HKL.out.1)
      have HO7 := Lib.hid (HO6.out.up hb7)
      clear ko7 hb7 kc7
      go_wp2_with (first | (at_builtin; refine wpList_append_any _ rfl (.const (.slice none 0 0)) (.tmp 55) _ rfl (w6.heap.size + 1) 56 ic (.agg #[.int .i64 0, .int .i64 0, .int .i64 0, .int .i64 0]) 4 32 Try.underlying24 HIC.out.1 HIC.out.2.1 HIC.out.2.2.1 HIC.out.2.2.2 rfl (by decide) (.slice none 0 0) 0 [] rfl ⟨rfl, .inl ⟨rfl, rfl⟩⟩ w7.heap.size _ ks.length kc (flatC ks) rfl HCR.out (flatC_one ks) (by simp only [maxLen]; omega) (by omega) (by omega) ?_; intro v2 w2 hown hg hat; (obtain ⟨gc, cc, rfl, hI⟩ := cls_of_own (B := w6.heap.size + 1) (n := 0 + ks.length) (Nat.zero_add _) HKL.out.1 hown); have kb2 : Blk w2 w6.heap.size 26 #[.int .i64 d0, .int .i64 d1, .int .i64 d2, .int .i64 bo, .int .i64 fr, .int .i64 tr, .int .i64 ag, .slice (some ⟨kb, ko, none⟩) ks.length kc] := KO7.out.grown hg (by simp [Value.ownBlock]); have hb2 : Below w6.heap.size w6 w2 := HB7.out.grown hg (by omega) (by intro j hj; cases hj); have y13 : w2.cell? ⟨w6.heap.size, 7, none⟩ = some (.slice (some ⟨kb, ko, none⟩) ks.length kc) := kb2.cell 7; have g13 : w2.frozen? ⟨w6.heap.size, 7, none⟩ = false := kb2.frozen 7; have kb3 : Blk (w2.setCell ⟨w6.heap.size, 7, none⟩ (.slice (some ⟨gc, 0, none⟩) ks.length cc)) w6.heap.size 26 #[.int .i64 d0, .int .i64 d1, .int .i64 d2, .int .i64 bo, .int .i64 fr, .int .i64 tr, .int .i64 ag, .slice (some ⟨gc, 0, none⟩) ks.length cc] := kb2.set_ 7 _; have K3 := Lib.hid kb3; have HI3 := Lib.hid (hI.far (p := ⟨w6.heap.size, 7, none⟩) (by have := hI.1; show w6.heap.size ≠ gc; omega) (.slice (some ⟨gc, 0, none⟩) ks.length cc)); have HB3q := Lib.hid (hb2.setCell (p := ⟨w6.heap.size, 7, none⟩) (Nat.le_refl _) (.slice (some ⟨gc, 0, none⟩) ks.length cc)); clear hown hg hat hI kb2 kb3 hb2) | fail)
      generalize (w2.setCell ⟨w6.heap.size, 7, none⟩ (.slice (some ⟨gc, 0, none⟩) ks.length cc)) = w8 at *
      clear HO7 HCR KO7 HB7 y7 hs7 y13 g13
      go_loopw [9] (fun i wq => ∃ q : Nat, q ≤ ks.length ∧ i = .int .i64 q ∧ Hid (ClsOwn wq (w6.heap.size + 1) gc (oth ks x.cl q)) ∧ Hid (Blk wq w6.heap.size 26 #[.int .i64 d0, .int .i64 d1, .int .i64 d2, .int .i64 bo, .int .i64 fr, .int .i64 tr, .int .i64 ag, .slice (some ⟨gc, 0, none⟩) ks.length cc]) ∧ Hid (Below w6.heap.size w6 wq))
        (fun i _ => ks.length - (intOf i).toNat)
      case atStart => exact ⟨0, Nat.zero_le _, rfl, HI3.out, K3.out, HB3q.out⟩
      case round =>
        obtain ⟨q, hq, rfl, hI, hK, hBr⟩ := hrel
        have y7 : wr.cell? ⟨w6.heap.size, 7, none⟩ = some (.slice (some ⟨gc, 0, none⟩) ks.length cc) := hK.out.cell 7
        by_cases hqlt : q < ks.length
        · have hqi : (q : Int) < (ks.length : Int) := by omega
          have hq0 : (0 : Int) ≤ (q : Int) := by omega
          have hJq := HJ06.out.up hBr.out
          have yc : wr.cell? ⟨b, o + k * 16 + 2, none⟩ = some (.int .i64 x.cl) := hJq.2.2.1
          by_cases hc : (q : Int) = x.cl
          · have hI2 : ClsOwn wr (w6.heap.size + 1) gc (oth ks x.cl (q + 1)) := by
              rw [show oth ks x.cl (q + 1) = oth ks x.cl q from if_pos hc]
              exact hI.out
            have HI2 := Lib.hid hI2
            have hcb : ((q : Int) != x.cl) = false := by simpa using hc
            clear hJq hI hI2 hc
            go_wp2_with fail
            go_roundw
            case rel => exact ⟨q + 1, by omega, by go_num, HI2.out, hK.out, hBr.out⟩
            case measure => simp [intOf]; omega
          · have hqo : q < (oth ks x.cl q).length := by rw [oth_len]; exact hqlt
            have hgq := List.getElem?_eq_getElem hqo
            obtain ⟨z0, z1, z2, z3, g0, g1, g2, g3⟩ := hI.out.2.2 q _ hgq
            have hI2 := hI.out.set_ q (0, 1, 1, 1) hqo
            rw [show (oth ks x.cl q).set q (0, 1, 1, 1) = oth ks x.cl (q + 1) from (if_neg hc).symm] at hI2
            have HI2 := Lib.hid hI2
            have hcb : ((q : Int) != x.cl) = true := by simpa using hc
            clear hJq hI2 hc hgq
            go_wp2_with fail
            have hgn : w6.heap.size < gc := hI.out.1
            go_roundw
            case rel => exact ⟨q + 1, by omega, by go_num, HI2.out, (((hK.out.far (p := ⟨gc, q * 4, none⟩) (Nat.ne_of_lt hgn) _).far (p := ⟨gc, q * 4 + 1, none⟩) (Nat.ne_of_lt hgn) _).far (p := ⟨gc, q * 4 + 2, none⟩) (Nat.ne_of_lt hgn) _).far (p := ⟨gc, q * 4 + 3, none⟩) (Nat.ne_of_lt hgn) _, (((hBr.out.setCell (p := ⟨gc, q * 4, none⟩) (Nat.le_of_lt hgn) _).setCell (p := ⟨gc, q * 4 + 1, none⟩) (Nat.le_of_lt hgn) _).setCell (p := ⟨gc, q * 4 + 2, none⟩) (Nat.le_of_lt hgn) _).setCell (p := ⟨gc, q * 4 + 3, none⟩) (Nat.le_of_lt hgn) _⟩
            case measure => simp [intOf]; omega
        · obtain rfl : q = ks.length := by omega
          have HJ9 := Lib.hid (And.intro (range_up HJ6.out.1 hBr.out) (HJ6.out.2.up hBr.out))
          go_upto_region 19 with fail
          clear y7
          refine wp_region_quiet_below (by kernel_rfl) (by kernel_rfl) ?_
          repeat (first | (refine quiet_load_row (by rfl) 26 _ rfl _ rfl 26 #[.int .i64 d0, .int .i64 d1, .int .i64 d2, .int .i64 bo, .int .i64 fr, .int .i64 tr, .int .i64 ag, .slice (some ⟨gc, 0, none⟩) ks.length cc] hK.out _ Try.underlying26 rfl (by kernel_rfl) ?_; simp only [Act.put, List.setIfInBounds_toArray, List.set_cons_zero, List.set_cons_succ]) | (refine quiet_load_mid (by rfl) 33 _ rfl _ _ rfl _ HJ9.out.1 _ Try.underlying33 rfl (by kernel_rfl) ?_; simp only [Act.put, List.setIfInBounds_toArray, List.set_cons_zero, List.set_cons_succ]) | go_big_quiet_step (first | fail | exact Calls.regrown_of (HCK.out (oth ks x.cl ks.length) _ _ x _ _ _ ⟨oth_len ks x.cl ks.length, HOT.out x HXM.out.2.1 ks.length, HXM.out.2.2⟩ (hI.out.at_.up (below_regrown _ _ _)) (HJ9.out.2.up (below_regrown _ _ _)))))
          refine wpQuiet_nil ?_
          intro _ hw'
          obtain ⟨⟨dq, osq⟩, hw''⟩ := hw'
          subst hw''
          have hBq := below_regrown wr dq osq
          generalize grow (redrawn wr dq) osq = w9 at *
          have HB9 := Lib.hid (below_up (below_up HB6.out hBr.out) hBq)
          have HO9 := Lib.hid ((HO6.out.up hBr.out).up hBq)
          clear hBq hBr hK hI HJ9
          go_wp2_with fail
          go_roundw
          case rel => exact ⟨k + 1, by omega, by go_num, HO9.out, HB9.out⟩
          case measure => simp [intOf]; omega
    · obtain rfl : k = l.length := by omega
      have HBw := Lib.hid (below_up HB3.out hB.out)
      have kcc := KC3.out.below hB.out KC3.out.lt
      have q0 : wr.cell? ⟨w.heap.size, 0, none⟩ = some (.int .i64 d0) := kcc.cell 0
      have q1 : wr.cell? ⟨w.heap.size, 1, none⟩ = some (.int .i64 d1) := kcc.cell 1
      have q2 : wr.cell? ⟨w.heap.size, 2, none⟩ = some (.int .i64 d2) := kcc.cell 2
      have q3 : wr.cell? ⟨w.heap.size, 3, none⟩ = some (.int .i64 bo) := kcc.cell 3
      have q4 : wr.cell? ⟨w.heap.size, 4, none⟩ = some (.int .i64 fr) := kcc.cell 4
      have q5 : wr.cell? ⟨w.heap.size, 5, none⟩ = some (.int .i64 tr) := kcc.cell 5
      have q6 : wr.cell? ⟨w.heap.size, 6, none⟩ = some (.int .i64 ag) := kcc.cell 6
      have q7 : wr.cell? ⟨w.heap.size, 7, none⟩ = some (.slice (some ⟨kb, ko, none⟩) ks.length kc) := kcc.cell 7
      have hO2 := hO.out
      rw [rowsM_all] at hO2
      have HO2 := Lib.hid hO2.jobs
      have HKC := Lib.hid kcc
      clear hO2 kcc hO
      go_wp2_with fail
  
      refine (HTD.out _ _ _ (HK.out.up HBw.out) HO2.out).mono ?_
      rintro e w9 ⟨rfl, hB9⟩
      have HB9 := Lib.hid (below_up HBw.out hB9)
      have KC9 := Lib.hid (HKC.out.below hB9 HKC.out.lt)
      clear hB9 HKC HBw HO2 hB q0 q1 q2 q3 q4 q5 q6 q7
      by_cases hz : l.length = 0
      · have hz1 : (l.length == 0) = true := by simpa using hz
        have hz2 : ((l.length : Int) == 0) = true := by simpa using hz
        have hz3 : decide ((l.length : Int) = 0) = true := by simpa using hz
        go_upto_region 23 with fail
        clear hz
        refine wp_region_quiet_below (by kernel_rfl) (by kernel_rfl) ?_
        repeat (first | go_big_quiet_step (first | fail))
        refine wpQuiet_nil ?_
        intro _ hw'
        obtain ⟨⟨dq, osq⟩, hw''⟩ := hw'
        subst hw''
        have hBq := below_regrown w9 dq osq
        generalize grow (redrawn w9 dq) osq = w10 at *
        have HB10 := Lib.hid (below_up HB9.out hBq)
        clear hBq
        go_wp2_with fail
        go_ret
        exact ⟨rfl, HB10.out⟩
      · have hz1 : (l.length == 0) = false := by simpa using hz
        have hz2 : ((l.length : Int) == 0) = false := by simpa using hz
        have hz3 : decide ((l.length : Int) = 0) = false := by simpa using hz
        have hlp : 1 ≤ l.length := by omega
        have hlI : (1 : Int) ≤ (l.length : Int) := by omega
        have hlN : ((l.length : Int) - 1).toNat = l.length - 1 := by omega
        clear hz
        go_upto_region 23 with fail
        refine wp_region_quiet_below (by kernel_rfl) (by kernel_rfl) ?_
        repeat (first | go_big_quiet_step (first | fail | exact Calls.regrown_of (HTL.out (l.length - 1) _ _ (Nat.sub_le _ _) ((HK.out.up HB9.out).up (below_regrown _ _ _)) ((HX.out.up HB9.out).up (below_regrown _ _ _)))))
        (refine quiet_load_row (by rfl) 26 _ rfl _ rfl 26 #[.int .i64 d0, .int .i64 d1, .int .i64 d2, .int .i64 bo, .int .i64 fr, .int .i64 tr, .int .i64 ag, .slice (some ⟨kb, ko, none⟩) ks.length kc] KC9.out _ Try.underlying26 rfl (by kernel_rfl) ?_; simp only [Act.put, List.setIfInBounds_toArray, List.set_cons_zero, List.set_cons_succ])
        repeat (first | go_big_quiet_step (first | fail | exact Calls.regrown_of (HTL.out (l.length - 1) _ _ (Nat.sub_le _ _) ((HK.out.up HB9.out).up (below_regrown _ _ _)) ((HX.out.up HB9.out).up (below_regrown _ _ _)))))
        refine wpQuiet_nil ?_
        intro _ hw'
        obtain ⟨⟨dq, osq⟩, hw''⟩ := hw'
        subst hw''
        have hBq := below_regrown w9 dq osq
        generalize grow (redrawn w9 dq) osq = w10 at *
        have HB10 := Lib.hid (below_up HB9.out hBq)
        clear hBq
        go_wp2_with fail
        go_ret
        exact ⟨rfl, HB10.out⟩
theorem mayLaw (w : World) (d0 d1 d2 bo fr tr ag : Int) (K : Option Addr) (kc : Nat) (ks : List Cls) (hcp : ks.length ≤ kc) (hcm : kc ≤ maxLen) (hk : ClsAt w w.heap.size K ks) (X : Option Addr) (cX : Nat) (l : List JV) (hlc : l.length ≤ cX) (hcX : cX ≤ maxLen) (hX : JobsAt w X l) (hla : ∀ j ∈ l, JWf j ∧ j.af.length ≤ maxLen) :
    Calls Try.prog 6 #[.agg #[.int .i64 d0, .int .i64 d1, .int .i64 d2, .int .i64 bo, .int .i64 fr, .int .i64 tr, .int .i64 ag, .slice K ks.length kc], .slice X l.length cX] w fun e w' => e = .returned (.bool true) ∧ Below w.heap.size w w' := by
  have hlk : ks.length ≤ maxLen := Nat.le_trans hcp hcm
  have hl : l.length ≤ maxLen := Nat.le_trans hlc hcX
  by_cases h0 : (100 : Int) < (ks.length : Int)
  · exact jm_cls d0 d1 d2 bo fr tr ag K kc ks hlk X cX l hlc hl hla h0 w hk hX
  · by_cases h1 : greatB l = true
    · exact jm_great d0 d1 d2 bo fr tr ag K kc ks hlk X cX l hlc hl hla h0 h1 w hk hX
    · have h1' : greatB l = false := by simpa using h1
      by_cases hv : tableV d0 d1 d2 bo fr tr ag ks l = 0
      · exact jm_main d0 d1 d2 bo fr tr ag K kc ks hlk X cX l hlc hl hla h0 h1' hv w hk hX
      · exact jm_bad d0 d1 d2 bo fr tr ag K kc ks hlk X cX l hlc hl hla h0 h1' hv w hk hX
end Go.Proofs.Ytfpljpdjohmbaaa.JobMayLaw
