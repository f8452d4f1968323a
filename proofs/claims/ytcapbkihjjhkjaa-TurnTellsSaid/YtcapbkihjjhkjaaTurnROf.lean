/- The reference's Check, All and Of: for all wants, sizes and tori. -/
import Derived.BigQuiet
import Derived.Deep.QuietTactic
import Derived.Test.YtcapbkihjjhkjaaArr
import Derived.Test.YtcapbkihjjhkjaaTurnFitsOf
import Derived.Test.YtcapbkihjjhkjaaTurnRFits
namespace Go.Proofs.Ytcapbkihjjhkjaa.TurnROf
open Go.Sort (grow)
open Go.RowKit Mem SeqKit PosMath PosCheck TurnMath TurnWalks TurnMap TurnAppend TurnSorted TurnAll TurnFitsV TurnFitsOf TurnRef TurnPut TurnTurns TurnRFits
set_option linter.unusedVariables false
set_option linter.unusedSimpArgs false

theorem eq3i (a b c a' b' c' : Int) (w : World) :
    (Op.equalIn 10000 22 (.agg #[.int .i64 a, .int .i64 b, .int .i64 c]) (.agg #[.int .i64 a', .int .i64 b', .int .i64 c'])).run Try.prog w = .ok (decide (a = a' ∧ b = b' ∧ c = c')) w := by
  have h := Arr.eq3_int (P := Try.prog) Try.underlying22 Try.underlying3 (fun w => by kernel_rfl) a b c a' b' c' w
  have e : (a == a' && b == b' && c == c') = decide (a = a' ∧ b = b' ∧ c = c') := by rw [Bool.eq_iff_iff]; simp [and_assoc]
  rw [e] at h
  exact h
theorem eq3b (p q r p' q' r' : Bool) (w : World) :
    (Op.equalIn 10000 23 (.agg #[.bool p, .bool q, .bool r]) (.agg #[.bool p', .bool q', .bool r'])).run Try.prog w = .ok (decide (p = p' ∧ q = q' ∧ r = r')) w := by
  have h := Arr.eq3_bool (P := Try.prog) Try.underlying23 Try.underlying4 (fun w => by kernel_rfl) p q r p' q' r' w
  have e : (p == p' && q == q' && r == r') = decide (p = p' ∧ q = q' ∧ r = r') := by rw [Bool.eq_iff_iff]; simp [and_assoc]
  rw [e] at h
  exact h
theorem rcheck_ok (x : WV) (h : WOk x) (w : World) : Calls Try.prog 18 #[.agg x.arr] w fun e w' => e = .returned (.int .i64 0) ∧ Below w.heap.size w w' := by
  have HH := Lib.hid h
  clear h
  unfold WV.arr
  go_enter Try.func18, Try.ntmps18
  go_wp2_with fail
  refine (wmay_ok _ _ _ _ _ _ _ HH.out _).mono ?_
  rintro e w1 ⟨rfl, hB1⟩
  have HB1 := Lib.hid (below_up (below_alloc (Below.refl _ w)) hB1)
  clear hB1
  go_wp2_with fail
  go_ret
  exact ⟨rfl, HB1.out⟩
theorem rcheck_bad (x : WV) (h : ¬ WOk x) (w : World) : Calls Try.prog 18 #[.agg x.arr] w fun e w' => e = .returned (.int .i64 8) ∧ Below w.heap.size w w' := by
  have HH := Lib.hid h
  clear h
  unfold WV.arr
  go_enter Try.func18, Try.ntmps18
  go_wp2_with fail
  refine (wmay_bad _ _ _ _ _ _ _ HH.out _).mono ?_
  rintro e w1 ⟨rfl, hB1⟩
  have HB1 := Lib.hid (below_up (below_alloc (Below.refl _ w)) hB1)
  clear hB1
  go_wp2_with fail
  go_ret
  exact ⟨rfl, HB1.out⟩
def okN (x : WV) : Int := if WOk x then 0 else 8
theorem rcheck_any (x : WV) (w : World) : Calls Try.prog 18 #[.agg x.arr] w fun e w' => e = .returned (.int .i64 (okN x)) ∧ Below w.heap.size w w' := by
  by_cases h : WOk x
  · rw [show okN x = 0 from if_pos h]; exact rcheck_ok x h w
  · rw [show okN x = 8 from if_neg h]; exact rcheck_bad x h w
theorem check_any (x : WV) (w : World) : Calls Try.prog 9 #[.agg x.arr] w fun e w' => e = .returned (.int .i64 (okN x)) ∧ Below w.heap.size w w' := by
  by_cases h : WOk x
  · rw [show okN x = 0 from if_pos h]; exact wcheck_ok _ _ _ _ _ _ _ h w
  · rw [show okN x = 8 from if_neg h]; exact wcheck_bad _ _ _ _ _ _ _ h w
theorem rall_bad (x : WV) (h : ¬ WOk x) (w : World) : Calls Try.prog 15 #[.agg x.arr] w fun e w' => e = .returned (.tuple #[.slice none 0 0, .int .i64 8]) ∧ Below w.heap.size w w' := by
  have HH := Lib.hid h
  clear h
  unfold WV.arr
  go_enter Try.func15, Try.ntmps15
  go_wp2_with fail
  refine (wmay_bad _ _ _ _ _ _ _ HH.out _).mono ?_
  rintro e w1 ⟨rfl, hB1⟩
  have HB1 := Lib.hid (below_up (below_alloc (Below.refl _ w)) hB1)
  clear hB1
  go_wp2_with fail
  go_ret2
  exact ⟨rfl, HB1.out⟩
theorem rall_ok (x : WV) (h : WOk x) (w : World) : Calls Try.prog 15 #[.agg x.arr] w fun e w' => ∃ X c, e = .returned (.tuple #[.slice X (allL x).length c, .int .i64 0]) ∧ Has w' X (allL x) ∧ Below w.heap.size w w' := by
  have HH := Lib.hid h
  have HT := Lib.hid (turns_any x h)
  clear h
  unfold WV.arr at HT ⊢
  go_enter Try.func15, Try.ntmps15
  go_wp2_with fail
  refine (wmay_ok _ _ _ _ _ _ _ HH.out _).mono ?_
  rintro e w1 ⟨rfl, hB1⟩
  have kx : Blk w1 w.heap.size 25 #[.int .i64 x.a, .int .i64 x.b, .int .i64 x.c, .bool x.p, .bool x.q, .bool x.r, .bool x.tn] := (Blk.new w _ _).below hB1 (by simp)
  have x0 : w1.cell? ⟨w.heap.size, 0, none⟩ = some (.int .i64 x.a) := kx.cell 0
  have x1 : w1.cell? ⟨w.heap.size, 1, none⟩ = some (.int .i64 x.b) := kx.cell 1
  have x2 : w1.cell? ⟨w.heap.size, 2, none⟩ = some (.int .i64 x.c) := kx.cell 2
  have x3 : w1.cell? ⟨w.heap.size, 3, none⟩ = some (.bool x.p) := kx.cell 3
  have x4 : w1.cell? ⟨w.heap.size, 4, none⟩ = some (.bool x.q) := kx.cell 4
  have x5 : w1.cell? ⟨w.heap.size, 5, none⟩ = some (.bool x.r) := kx.cell 5
  have x6 : w1.cell? ⟨w.heap.size, 6, none⟩ = some (.bool x.tn) := kx.cell 6
  have HB1 := Lib.hid (below_up (below_alloc (Below.refl _ w)) hB1)
  clear hB1 kx
  go_wp2_with fail
  refine (HT.out _).mono ?_
  rintro e w2 ⟨X, c, rfl, hh, hB2⟩
  have HB2 := Lib.hid (And.intro hh (below_up HB1.out hB2))
  clear hh hB2 x0 x1 x2 x3 x4 x5 x6
  go_wp2_with fail
  go_ret2
  exact ⟨X, c, rfl, HB2.out.1, HB2.out.2⟩
theorem rof_bad (x : WV) (sa sb sc : Int) (tp tq tr : Bool) (wa : (Lit.int .i64 sa).wf = true) (wb : (Lit.int .i64 sb).wf = true) (wc : (Lit.int .i64 sc).wf = true) (h : ¬ WOk x) (w : World) :
    Calls Try.prog 17 #[.agg x.arr, .agg #[.int .i64 sa, .int .i64 sb, .int .i64 sc], .agg #[.bool tp, .bool tq, .bool tr]] w fun e w' => e = .returned (.tuple #[.bool false, .int .i64 8]) ∧ Below w.heap.size w w' := by
  have HH := Lib.hid h
  clear h
  unfold WV.arr
  go_enter Try.func17, Try.ntmps17
  go_wp2_with fail
  refine (wmay_bad _ _ _ _ _ _ _ HH.out _).mono ?_
  rintro e w1 ⟨rfl, hB1⟩
  have HB1 := Lib.hid (below_up (below_alloc (below_alloc (below_alloc (Below.refl _ w)))) hB1)
  clear hB1
  go_wp2_with fail
  go_ret2
  exact ⟨rfl, HB1.out⟩
set_option maxRecDepth 100000 in
set_option maxHeartbeats 4000000 in
theorem rof_ok (x : WV) (sa sb sc : Int) (tp tq tr : Bool) (wa : (Lit.int .i64 sa).wf = true) (wb : (Lit.int .i64 sb).wf = true) (wc : (Lit.int .i64 sc).wf = true) (h : WOk x) (w : World) :
    Calls Try.prog 17 #[.agg x.arr, .agg #[.int .i64 sa, .int .i64 sb, .int .i64 sc], .agg #[.bool tp, .bool tq, .bool tr]] w fun e w' => e = .returned (.tuple #[.bool (decide ((⟨sa, sb, sc, tp, tq, tr, x.tn⟩ : WV) ∈ allL x)), .int .i64 0]) ∧ Below w.heap.size w w' := by
  have HH := Lib.hid h
  have HT := Lib.hid (turns_any x h)
  have hwl : ∀ y ∈ allL x, WWf y ∧ y.tn = x.tn := fun y hy => ⟨wwf_of (allL_ok h hy).1, (allL_ok h hy).2⟩
  have HWL := Lib.hid hwl
  obtain ⟨V, hV⟩ : ∃ V, V = decide ((⟨sa, sb, sc, tp, tq, tr, x.tn⟩ : WV) ∈ allL x) := ⟨_, rfl⟩
  rw [← hV]
  have HV := Lib.hid hV
  have hlen := allL_len (x := x)
  clear h hV hwl wa wb wc
  unfold WV.arr at HT ⊢
  go_enter Try.func17, Try.ntmps17
  go_wp2_with fail
  refine (wmay_ok _ _ _ _ _ _ _ HH.out _).mono ?_
  rintro e w1 ⟨rfl, hB1⟩
  have kx : Blk w1 w.heap.size 25 #[.int .i64 x.a, .int .i64 x.b, .int .i64 x.c, .bool x.p, .bool x.q, .bool x.r, .bool x.tn] := (((Blk.new w _ _).alloc _).alloc _).below hB1 (by simp; omega)
  have ks : Blk w1 (w.heap.size + 1) 22 #[.int .i64 sa, .int .i64 sb, .int .i64 sc] := ((blk1 w _ _).alloc _).below hB1 (by simp)
  have kt : Blk w1 (w.heap.size + 1 + 1) 23 #[.bool tp, .bool tq, .bool tr] := (blk2 w _ _).below hB1 (by simp)
  have x0 : w1.cell? ⟨w.heap.size, 0, none⟩ = some (.int .i64 x.a) := kx.cell 0
  have x1 : w1.cell? ⟨w.heap.size, 1, none⟩ = some (.int .i64 x.b) := kx.cell 1
  have x2 : w1.cell? ⟨w.heap.size, 2, none⟩ = some (.int .i64 x.c) := kx.cell 2
  have x3 : w1.cell? ⟨w.heap.size, 3, none⟩ = some (.bool x.p) := kx.cell 3
  have x4 : w1.cell? ⟨w.heap.size, 4, none⟩ = some (.bool x.q) := kx.cell 4
  have x5 : w1.cell? ⟨w.heap.size, 5, none⟩ = some (.bool x.r) := kx.cell 5
  have x6 : w1.cell? ⟨w.heap.size, 6, none⟩ = some (.bool x.tn) := kx.cell 6
  have HB1 := Lib.hid (below_up (below_alloc (below_alloc (below_alloc (Below.refl _ w)))) hB1)
  have KS := Lib.hid (And.intro ks kt)
  clear hB1 kx ks kt
  go_wp2_with fail
  refine (HT.out _).mono ?_
  rintro e w3 ⟨X, c, rfl, hh, hB3⟩
  have HX := Lib.hid hh
  have KS3 := Lib.hid (And.intro (KS.out.1.below hB3 KS.out.1.lt) (KS.out.2.below hB3 KS.out.2.lt))
  have HB3 := Lib.hid (below_up HB1.out hB3)
  clear hB3 hh KS x0 x1 x2 x3 x4 x5 x6 HT HB1
  generalize hl : allL x = l at HX hlen HV HWL
  clear hl
  go_wp2_with fail
  go_loopw [9] (fun i wr => ∃ k : Nat, k ≤ l.length ∧ i = .int .i64 k ∧ Hid (∀ j y, j < k → l[j]? = some y → (⟨sa, sb, sc, tp, tq, tr, x.tn⟩ : WV) ≠ y) ∧ Hid (Below w.heap.size w wr) ∧ Hid (Has wr X l) ∧ Hid (Blk wr (w.heap.size + 1) 22 #[.int .i64 sa, .int .i64 sb, .int .i64 sc]) ∧ Hid (Blk wr (w.heap.size + 1 + 1) 23 #[.bool tp, .bool tq, .bool tr]))
    (fun i _ => l.length - (intOf i).toNat)
  case atStart => exact ⟨0, Nat.zero_le _, rfl, fun j x h => by omega, HB3.out, HX.out, KS3.out.1, KS3.out.2⟩
  case round =>
    obtain ⟨k, hk, rfl, hP, hB, hX, hS, hT⟩ := hrel
    clear HB3 HX KS3
    by_cases hlt : k < l.length
    · have hg : l[k]? = some l[k] := List.getElem?_eq_getElem hlt
      generalize l[k] = y at hg
      have hki : (k : Int) < (l.length : Int) := by omega
      obtain ⟨b, o, rfl, hb, y0, y1, y2, y3, y4, y5, y6⟩ := hX.out k y hg
      have s0 : wr.cell? ⟨w.heap.size + 1, 0, none⟩ = some (.int .i64 sa) := hS.out.cell 0
      have s1 : wr.cell? ⟨w.heap.size + 1, 1, none⟩ = some (.int .i64 sb) := hS.out.cell 1
      have s2 : wr.cell? ⟨w.heap.size + 1, 2, none⟩ = some (.int .i64 sc) := hS.out.cell 2
      have t0 : wr.cell? ⟨w.heap.size + 1 + 1, 0, none⟩ = some (.bool tp) := hT.out.cell 0
      have t1 : wr.cell? ⟨w.heap.size + 1 + 1, 1, none⟩ = some (.bool tq) := hT.out.cell 1
      have t2 : wr.cell? ⟨w.heap.size + 1 + 1, 2, none⟩ = some (.bool tr) := hT.out.cell 2
      have hwf := HWL.out y (List.mem_of_getElem? hg)
      have q3 := eq3i y.a y.b y.c sa sb sc
      have qb := eq3b y.p y.q y.r tp tq tr
      have HW := Lib.hid hwf.2
      have HG := Lib.hid hg
      clear hg hwf
      by_cases h1 : y.a = sa ∧ y.b = sb ∧ y.c = sc
      · have q3' : ∀ w, (Op.equalIn 10000 22 (.agg #[.int .i64 y.a, .int .i64 y.b, .int .i64 y.c]) (.agg #[.int .i64 sa, .int .i64 sb, .int .i64 sc])).run Try.prog w = .ok true w := fun w => by rw [q3 w, decide_eq_true h1]
        have H1 := Lib.hid h1
        clear q3 h1
        by_cases h2 : y.p = tp ∧ y.q = tq ∧ y.r = tr
        · have qb' : ∀ w, (Op.equalIn 10000 23 (.agg #[.bool y.p, .bool y.q, .bool y.r]) (.agg #[.bool tp, .bool tq, .bool tr])).run Try.prog w = .ok true w := fun w => by rw [qb w, decide_eq_true h2]
          have H2 := Lib.hid h2
          clear qb h2
          go_wp2_with fail
          go_quiet (fail)
          go_wp2_with fail
          go_ret2
          have ev : V = true := by
            rw [HV.out]
            refine decide_eq_true ?_
            have : (⟨sa, sb, sc, tp, tq, tr, x.tn⟩ : WV) = y := by
              obtain ⟨ya, yb, yc, yp, yq, yr, yt⟩ := y
              have e1 := H1.out
              have e2 := H2.out
              have e3 := HW.out
              dsimp only at e1 e2 e3
              obtain ⟨rfl, rfl, rfl⟩ := e1
              obtain ⟨rfl, rfl, rfl⟩ := e2
              rw [← e3]
            rw [this]
            exact List.mem_of_getElem? HG.out
          rw [ev]
          exact ⟨rfl, below_drewN hB.out _⟩
        · have qb' : ∀ w, (Op.equalIn 10000 23 (.agg #[.bool y.p, .bool y.q, .bool y.r]) (.agg #[.bool tp, .bool tq, .bool tr])).run Try.prog w = .ok false w := fun w => by rw [qb w, decide_eq_false h2]
          have HNE : Hid ((⟨sa, sb, sc, tp, tq, tr, x.tn⟩ : WV) ≠ y) := Lib.hid (fun e => h2 (by rw [← e]; exact ⟨rfl, rfl, rfl⟩))
          clear qb h2
          go_wp2_with fail
          go_quiet (fail)
          go_wp2_with fail
          go_roundw
          case rel => exact ⟨k + 1, by omega, by go_num, (fun j z hj hz => by
              rcases Nat.lt_or_ge j k with h | h
              · exact hP.out j z h hz
              · obtain rfl : j = k := by omega
                rw [HG.out] at hz; cases hz; exact HNE.out), below_drewN hB.out _, hX.out.up (below_drewN (Below.refl _ _) _), hS.out.drewN _, hT.out.drewN _⟩
          case measure => simp [intOf]; omega
      · have q3' : ∀ w, (Op.equalIn 10000 22 (.agg #[.int .i64 y.a, .int .i64 y.b, .int .i64 y.c]) (.agg #[.int .i64 sa, .int .i64 sb, .int .i64 sc])).run Try.prog w = .ok false w := fun w => by rw [q3 w, decide_eq_false h1]
        have HNE : Hid ((⟨sa, sb, sc, tp, tq, tr, x.tn⟩ : WV) ≠ y) := Lib.hid (fun e => h1 (by rw [← e]; exact ⟨rfl, rfl, rfl⟩))
        clear q3 h1 qb
        go_wp2_with fail
        go_quiet (fail)
        go_wp2_with fail
        go_roundw
        case rel => exact ⟨k + 1, by omega, by go_num, (fun j z hj hz => by
            rcases Nat.lt_or_ge j k with h | h
            · exact hP.out j z h hz
            · obtain rfl : j = k := by omega
              rw [HG.out] at hz; cases hz; exact HNE.out), below_drewN hB.out _, hX.out.up (below_drewN (Below.refl _ _) _), hS.out.drewN _, hT.out.drewN _⟩
        case measure => simp [intOf]; omega
    · obtain rfl : k = l.length := by omega
      go_wp2_with fail
      go_ret2
      have ev : V = false := by
        rw [HV.out]
        refine decide_eq_false fun hm => ?_
        obtain ⟨j, hj, e⟩ := List.mem_iff_getElem.1 hm
        exact hP.out j _ hj (List.getElem?_eq_getElem hj) e.symm
      rw [ev]
      exact ⟨rfl, hB.out⟩
theorem rof_any (x : WV) (sa sb sc : Int) (tp tq tr : Bool) (wa : (Lit.int .i64 sa).wf = true) (wb : (Lit.int .i64 sb).wf = true) (wc : (Lit.int .i64 sc).wf = true) (w : World) :
    Calls Try.prog 17 #[.agg x.arr, .agg #[.int .i64 sa, .int .i64 sb, .int .i64 sc], .agg #[.bool tp, .bool tq, .bool tr]] w fun e w' => e = .returned (.tuple #[.bool (ofV x ⟨sa, sb, sc, tp, tq, tr, x.tn⟩).1, .int .i64 (ofV x ⟨sa, sb, sc, tp, tq, tr, x.tn⟩).2]) ∧ Below w.heap.size w w' := by
  by_cases h : WOk x
  · have ev : ofV x ⟨sa, sb, sc, tp, tq, tr, x.tn⟩ = (decide ((⟨sa, sb, sc, tp, tq, tr, x.tn⟩ : WV) ∈ allL x), 0) := if_pos h
    rw [ev]
    exact rof_ok x sa sb sc tp tq tr wa wb wc h w
  · have ev : ofV x ⟨sa, sb, sc, tp, tq, tr, x.tn⟩ = (false, 8) := if_neg h
    rw [ev]
    exact rof_bad x sa sb sc tp tq tr wa wb wc h w
end Go.Proofs.Ytcapbkihjjhkjaa.TurnROf
