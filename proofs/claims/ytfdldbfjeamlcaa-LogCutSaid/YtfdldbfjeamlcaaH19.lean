/- Several texts joined: tidehallref28: lists of numbers, jobs compared. -/
import Derived.BigQuiet
import Derived.Deep.QuietTactic
import Derived.Deep.MidRow
import Derived.Deep.DeepCutAuto
import Derived.Lib.QuietBelow
import Derived.Lib.SliceRun
import Derived.Test.YtfdldbfjeamlcaaG10
import Derived.Test.YtfdldbfjeamlcaaG1
import Derived.Test.YtfdldbfjeamlcaaG6
import Derived.Test.YtfdldbfjeamlcaaG12
/-! tidehallref28: lists of numbers, jobs compared. -/
namespace Go.Proofs.Ytfdldbfjeamlcaa.RecF1
open Go.RowKit RecGuard Mem RecMem RecByte RecNum RecEach RecMath RecCommand RecCmdJ RecEq RecKeys RecEqA RecJobs RecJobsA RecVal RecEqual RecEqual2 RecEqJ RecCfgs RecSame RecOwn RecSameA
set_option linter.unusedVariables false
set_option linter.unusedSimpArgs false

set_option maxRecDepth 100000 in
set_option maxHeartbeats 4000000 in
theorem rints28 (X Y : Option Addr) (c d : Nat) (l m : List Int) (hl : l.length ≤ 9223372036854775807) (hm : m.length ≤ 9223372036854775807) (w : World) (hX : IntsAt w X l) (hY : IntsAt w Y m) :
    Calls Try.prog 91 #[.slice X l.length c, .slice Y m.length d] w fun e w' => e = .returned (.bool (decide (l = m))) ∧ Below w.heap.size w w' := by
  obtain ⟨V, hV⟩ : ∃ V, V = decide (l = m) := ⟨_, rfl⟩
  rw [← hV]
  have HV := Lib.hid hV
  have HX := Lib.hid hX
  have HY := Lib.hid hY
  clear hV hX hY
  by_cases hn : l.length = m.length
  · have hn' : ((l.length : Int) != (m.length : Int)) = false := by simp [hn]
    have HN := Lib.hid hn
    have hle : (l.length : Int) ≤ (m.length : Int) := by omega
    clear hn
    go_enter Try.func91, Try.ntmps91
    go_wp2_with fail
    go_loopw [5] (fun i wr => ∃ k : Nat, k ≤ l.length ∧ i = .int .i64 k ∧ Hid (∀ (j : Nat) (x y : Int), j < k → l[j]? = some x → m[j]? = some y → x = y) ∧ Hid (Below w.heap.size w wr))
      (fun i _ => l.length - (intOf i).toNat)
    case atStart => exact ⟨0, Nat.zero_le _, rfl, (fun j x y h => by omega), Below.refl _ _⟩
    case round =>
      obtain ⟨k, hk, rfl, hP, hB⟩ := hrel
      by_cases hlt : k < l.length
      · have hg : l[k]? = some l[k] := List.getElem?_eq_getElem hlt
        generalize l[k] = x at hg
        have hkm : k < m.length := by have := HN.out; omega
        have hg2 : m[k]? = some m[k] := List.getElem?_eq_getElem hkm
        generalize m[k] = y at hg2
        have hki : (k : Int) < (l.length : Int) := by omega
        have hki2 : (k : Int) < (m.length : Int) := by omega
        have hki0 : (0 : Int) ≤ (k : Int) := by omega
        obtain ⟨b, o, rfl, hb, y0⟩ := IntsAt.up HX.out hB.out k x hg
        obtain ⟨b', o', rfl, hb', z0⟩ := IntsAt.up HY.out hB.out k y hg2
        have HG := Lib.hid (And.intro hg hg2)
        clear hg hg2
        by_cases he : x = y
        · have he' : (x != y) = false := by simp [he]
          have HE := Lib.hid he
          clear he
          go_wp2_with fail
          go_quiet (fail)
          go_wp2_with fail
          go_roundw
          case rel => exact ⟨k + 1, by omega, by go_num, (fun j u v hj hu hv => by
              rcases Nat.lt_or_ge j k with h | h
              · exact hP.out j u v h hu hv
              · obtain rfl : j = k := by omega
                rw [HG.out.1] at hu; rw [HG.out.2] at hv; cases hu; cases hv; exact HE.out), Mem.below_drewN hB.out _⟩
          case measure => simp [intOf]; omega
        · have he' : (x != y) = true := by simp [he]
          have ev : V = false := by rw [HV.out]; exact decide_eq_false (list_ne HG.out.1 HG.out.2 he)
          have EV := Lib.hid ev
          clear he ev
          go_wp2_with fail
          go_quiet (fail)
          go_wp2_with fail
          go_ret
          rw [EV.out]
          exact ⟨rfl, Mem.below_drewN hB.out _⟩
      · obtain rfl : k = l.length := by omega
        have ev : V = true := by rw [HV.out]; exact decide_eq_true (list_eq HN.out hP.out)
        have EV := Lib.hid ev
        clear ev
        go_wp2_with fail
        go_ret
        rw [EV.out]
        exact ⟨rfl, hB.out⟩
  · have hn' : ((l.length : Int) != (m.length : Int)) = true := by simp; omega
    have ev : V = false := by rw [HV.out]; exact decide_eq_false fun e => hn (by rw [e])
    have EV := Lib.hid ev
    clear hn ev
    go_enter Try.func91, Try.ntmps91
    go_wp2_with fail
    go_ret
    rw [EV.out]
    exact ⟨rfl, Below.refl _ _⟩
set_option maxRecDepth 100000 in
set_option maxHeartbeats 4000000 in
theorem rsameJob28 (c d : CV) (Y Z : Option Addr) (cy cz : Nat) (hc : CWf c) (hd : CWf d) (hl : c.af.length ≤ 9223372036854775807) (hm : d.af.length ≤ 9223372036854775807) (w : World) (hY : IntsAt w Y c.af) (hZ : IntsAt w Z d.af) :
    Calls Try.prog 58 #[.agg #[.int .i64 c.id, .int .i64 c.us, .int .i64 c.cl, .int .i64 c.a, .int .i64 c.b, .int .i64 c.c, .bool c.p, .bool c.q, .bool c.r, .bool c.tn, .int .i64 c.wa, .int .i64 c.pr, .bool c.he, .slice Y c.af.length cy, .int .u8 c.st, .int .i64 c.ca], .agg #[.int .i64 d.id, .int .i64 d.us, .int .i64 d.cl, .int .i64 d.a, .int .i64 d.b, .int .i64 d.c, .bool d.p, .bool d.q, .bool d.r, .bool d.tn, .int .i64 d.wa, .int .i64 d.pr, .bool d.he, .slice Z d.af.length cz, .int .u8 d.st, .int .i64 d.ca]] w fun e w' => e = .returned (.bool (jobB c d)) ∧ Below w.heap.size w w' := by
  have qw := eq_wants hc hd
  have HYZ := Lib.hid (And.intro hY hZ)
  clear hY hZ hc hd
  have KA := Lib.hid ((Blk.new w 28 #[.int .i64 c.id, .int .i64 c.us, .int .i64 c.cl, .int .i64 c.a, .int .i64 c.b, .int .i64 c.c, .bool c.p, .bool c.q, .bool c.r, .bool c.tn, .int .i64 c.wa, .int .i64 c.pr, .bool c.he, .slice Y c.af.length cy, .int .u8 c.st, .int .i64 c.ca]).alloc (.cells #[.int .i64 d.id, .int .i64 d.us, .int .i64 d.cl, .int .i64 d.a, .int .i64 d.b, .int .i64 d.c, .bool d.p, .bool d.q, .bool d.r, .bool d.tn, .int .i64 d.wa, .int .i64 d.pr, .bool d.he, .slice Z d.af.length cz, .int .u8 d.st, .int .i64 d.ca] 28))
  have KB := Lib.hid (blk1 w 28 #[.int .i64 d.id, .int .i64 d.us, .int .i64 d.cl, .int .i64 d.a, .int .i64 d.b, .int .i64 d.c, .bool d.p, .bool d.q, .bool d.r, .bool d.tn, .int .i64 d.wa, .int .i64 d.pr, .bool d.he, .slice Z d.af.length cz, .int .u8 d.st, .int .i64 d.ca] (o := .cells #[.int .i64 c.id, .int .i64 c.us, .int .i64 c.cl, .int .i64 c.a, .int .i64 c.b, .int .i64 c.c, .bool c.p, .bool c.q, .bool c.r, .bool c.tn, .int .i64 c.wa, .int .i64 c.pr, .bool c.he, .slice Y c.af.length cy, .int .u8 c.st, .int .i64 c.ca] 28))
  have HB := Lib.hid (below_alloc (o := .cells #[.int .i64 d.id, .int .i64 d.us, .int .i64 d.cl, .int .i64 d.a, .int .i64 d.b, .int .i64 d.c, .bool d.p, .bool d.q, .bool d.r, .bool d.tn, .int .i64 d.wa, .int .i64 d.pr, .bool d.he, .slice Z d.af.length cz, .int .u8 d.st, .int .i64 d.ca] 28) (below_alloc (o := .cells #[.int .i64 c.id, .int .i64 c.us, .int .i64 c.cl, .int .i64 c.a, .int .i64 c.b, .int .i64 c.c, .bool c.p, .bool c.q, .bool c.r, .bool c.tn, .int .i64 c.wa, .int .i64 c.pr, .bool c.he, .slice Y c.af.length cy, .int .u8 c.st, .int .i64 c.ca] 28) (Below.refl w.heap.size w)))
  go_enter Try.func58, Try.ntmps58
  cases e0 : (c.id == d.id)
  · go_wp2_with fail
    go_ret
    exact ⟨by rw [show jobB c d = false from by simp only [jobB, e0, Bool.true_and, Bool.false_and, Bool.and_false, Bool.and_true]]; rfl, HB.out⟩
  · cases e1 : (c.us == d.us)
    · go_wp2_with fail
      go_ret
      exact ⟨by rw [show jobB c d = false from by simp only [jobB, e0, e1, Bool.true_and, Bool.false_and, Bool.and_false, Bool.and_true]]; rfl, HB.out⟩
    · cases e2 : (c.cl == d.cl)
      · go_wp2_with fail
        go_ret
        exact ⟨by rw [show jobB c d = false from by simp only [jobB, e0, e1, e2, Bool.true_and, Bool.false_and, Bool.and_false, Bool.and_true]]; rfl, HB.out⟩
      · cases e3 : wantsB c d
        · go_wp2_with fail
          go_ret
          exact ⟨by rw [show jobB c d = false from by simp only [jobB, e0, e1, e2, e3, Bool.true_and, Bool.false_and, Bool.and_false, Bool.and_true]]; rfl, HB.out⟩
        · cases e4 : (c.wa == d.wa)
          · go_wp2_with fail
            go_ret
            exact ⟨by rw [show jobB c d = false from by simp only [jobB, e0, e1, e2, e3, e4, Bool.true_and, Bool.false_and, Bool.and_false, Bool.and_true]]; rfl, HB.out⟩
          · cases e5 : (c.pr == d.pr)
            · go_wp2_with fail
              go_ret
              exact ⟨by rw [show jobB c d = false from by simp only [jobB, e0, e1, e2, e3, e4, e5, Bool.true_and, Bool.false_and, Bool.and_false, Bool.and_true]]; rfl, HB.out⟩
            · cases e6 : (c.he == d.he)
              · go_wp2_with fail
                go_ret
                exact ⟨by rw [show jobB c d = false from by simp only [jobB, e0, e1, e2, e3, e4, e5, e6, Bool.true_and, Bool.false_and, Bool.and_false, Bool.and_true]]; rfl, HB.out⟩
              · go_wp2_with fail
                refine (rints28 Y Z cy cz c.af d.af hl hm _ (HYZ.out.1.up HB.out) (HYZ.out.2.up HB.out)).mono ?_
                rintro e w1 ⟨rfl, hB1⟩
                have KA1 := KA.out.below hB1 KA.out.lt
                have KB1 := KB.out.below hB1 KB.out.lt
                have HB1 := Lib.hid (below_up HB.out hB1)
                clear hB1
                have a14 : w1.cell? ⟨w.heap.size, 14, none⟩ = some (.int .u8 c.st) := KA1.cell 14
                have a15 : w1.cell? ⟨w.heap.size, 15, none⟩ = some (.int .i64 c.ca) := KA1.cell 15
                have b14 : w1.cell? ⟨w.heap.size + 1, 14, none⟩ = some (.int .u8 d.st) := KB1.cell 14
                have b15 : w1.cell? ⟨w.heap.size + 1, 15, none⟩ = some (.int .i64 d.ca) := KB1.cell 15
                clear KA1 KB1 KA KB HB
                cases e7 : decide (c.af = d.af)
                · go_wp2_with fail
                  go_ret
                  exact ⟨by rw [show jobB c d = false from by simp only [jobB, e0, e1, e2, e3, e4, e5, e6, e7, Bool.true_and, Bool.false_and, Bool.and_false, Bool.and_true]]; rfl, HB1.out⟩
                · cases e8 : (c.st == d.st)
                  · go_wp2_with fail
                    go_ret
                    exact ⟨by rw [show jobB c d = false from by simp only [jobB, e0, e1, e2, e3, e4, e5, e6, e7, e8, Bool.true_and, Bool.false_and, Bool.and_false, Bool.and_true]]; rfl, HB1.out⟩
                  · go_wp2_with fail
                    go_ret
                    exact ⟨by rw [show jobB c d = (c.ca == d.ca) from by simp only [jobB, e0, e1, e2, e3, e4, e5, e6, e7, e8, Bool.true_and, Bool.false_and, Bool.and_false, Bool.and_true]]; rfl, HB1.out⟩
theorem rsameJobV (x y : JV) (Y Z : Option Addr) (cy cz : Nat) (B : Bool) (hB : decide (x = y) = B) (hx : JWf x) (hy : JWf y) (hl : x.q.af.length ≤ 9223372036854775807) (hm : y.q.af.length ≤ 9223372036854775807) (w : World) (hY : IntsAt w Y x.q.af) (hZ : IntsAt w Z y.q.af) :
    Calls Try.prog 58 #[.agg (jL x Y cy).toArray, .agg (jL y Z cz).toArray] w fun e w' => e = .returned (.bool B) ∧ Below w.heap.size w w' := by
  have := rsameJob28 (cvOf x) (cvOf y) Y Z cy cz (cvOf_wf hx) (cvOf_wf hy) hl hm w hY hZ
  rw [jobB_eq, hB] at this
  exact this
end Go.Proofs.Ytfdldbfjeamlcaa.RecF1
/-! tidehallref28.SameCommand. -/
namespace Go.Proofs.Ytfdldbfjeamlcaa.RecF2
open Go.RowKit RecGuard Mem RecMem RecByte RecNum RecEach RecMath RecCommand RecCmdJ RecEq RecKeys RecEqA RecJobs RecJobsA RecVal RecEqual RecEqual2 RecEqJ RecCfgs RecSame RecOwn RecSameA RecF1
set_option linter.unusedVariables false
set_option linter.unusedSimpArgs false

set_option maxRecDepth 100000 in
set_option maxHeartbeats 4000000 in
theorem rsameCmd28 (c d : CV) (Y Z : Option Addr) (cy cz : Nat) (hc : CWf c) (hd : CWf d) (hl : c.af.length ≤ 9223372036854775807) (hm : d.af.length ≤ 9223372036854775807) (w : World) (hY : IntsAt w Y c.af) (hZ : IntsAt w Z d.af) :
    Calls Try.prog 24 #[.agg #[.int .u8 c.kd, .int .i64 c.id, .int .i64 c.us, .int .i64 c.cl, .int .i64 c.a, .int .i64 c.b, .int .i64 c.c, .bool c.p, .bool c.q, .bool c.r, .bool c.tn, .int .i64 c.wa, .int .i64 c.pr, .bool c.he, .slice Y c.af.length cy, .int .u8 c.st, .int .i64 c.ca, .int .i64 c.ci, .int .i64 c.b0, .int .i64 c.b1, .int .i64 c.b2, .int .i64 c.b3, .int .i64 c.b4, .int .i64 c.b5, .int .i64 c.fr, .int .i64 c.to, .int .i64 c.n, .bool c.we], .agg #[.int .u8 d.kd, .int .i64 d.id, .int .i64 d.us, .int .i64 d.cl, .int .i64 d.a, .int .i64 d.b, .int .i64 d.c, .bool d.p, .bool d.q, .bool d.r, .bool d.tn, .int .i64 d.wa, .int .i64 d.pr, .bool d.he, .slice Z d.af.length cz, .int .u8 d.st, .int .i64 d.ca, .int .i64 d.ci, .int .i64 d.b0, .int .i64 d.b1, .int .i64 d.b2, .int .i64 d.b3, .int .i64 d.b4, .int .i64 d.b5, .int .i64 d.fr, .int .i64 d.to, .int .i64 d.n, .bool d.we]] w fun e w' => e = .returned (.bool (decide (c = d))) ∧ Below w.heap.size w w' := by
  have HYZ := Lib.hid (And.intro hY hZ)
  have HW := Lib.hid (And.intro hc hd)
  have HV := Lib.hid (cv_eq c d)
  clear hY hZ hc hd
  go_enter Try.func24, Try.ntmps24
  go_upto_region 1 with fail
  have KA := Lib.hid ((Blk.new w 34 #[.int .u8 c.kd, .int .i64 c.id, .int .i64 c.us, .int .i64 c.cl, .int .i64 c.a, .int .i64 c.b, .int .i64 c.c, .bool c.p, .bool c.q, .bool c.r, .bool c.tn, .int .i64 c.wa, .int .i64 c.pr, .bool c.he, .slice Y c.af.length cy, .int .u8 c.st, .int .i64 c.ca, .int .i64 c.ci, .int .i64 c.b0, .int .i64 c.b1, .int .i64 c.b2, .int .i64 c.b3, .int .i64 c.b4, .int .i64 c.b5, .int .i64 c.fr, .int .i64 c.to, .int .i64 c.n, .bool c.we]).alloc (.cells #[.int .u8 d.kd, .int .i64 d.id, .int .i64 d.us, .int .i64 d.cl, .int .i64 d.a, .int .i64 d.b, .int .i64 d.c, .bool d.p, .bool d.q, .bool d.r, .bool d.tn, .int .i64 d.wa, .int .i64 d.pr, .bool d.he, .slice Z d.af.length cz, .int .u8 d.st, .int .i64 d.ca, .int .i64 d.ci, .int .i64 d.b0, .int .i64 d.b1, .int .i64 d.b2, .int .i64 d.b3, .int .i64 d.b4, .int .i64 d.b5, .int .i64 d.fr, .int .i64 d.to, .int .i64 d.n, .bool d.we] 34))
  have KB := Lib.hid (blk1 w 34 #[.int .u8 d.kd, .int .i64 d.id, .int .i64 d.us, .int .i64 d.cl, .int .i64 d.a, .int .i64 d.b, .int .i64 d.c, .bool d.p, .bool d.q, .bool d.r, .bool d.tn, .int .i64 d.wa, .int .i64 d.pr, .bool d.he, .slice Z d.af.length cz, .int .u8 d.st, .int .i64 d.ca, .int .i64 d.ci, .int .i64 d.b0, .int .i64 d.b1, .int .i64 d.b2, .int .i64 d.b3, .int .i64 d.b4, .int .i64 d.b5, .int .i64 d.fr, .int .i64 d.to, .int .i64 d.n, .bool d.we] (o := .cells #[.int .u8 c.kd, .int .i64 c.id, .int .i64 c.us, .int .i64 c.cl, .int .i64 c.a, .int .i64 c.b, .int .i64 c.c, .bool c.p, .bool c.q, .bool c.r, .bool c.tn, .int .i64 c.wa, .int .i64 c.pr, .bool c.he, .slice Y c.af.length cy, .int .u8 c.st, .int .i64 c.ca, .int .i64 c.ci, .int .i64 c.b0, .int .i64 c.b1, .int .i64 c.b2, .int .i64 c.b3, .int .i64 c.b4, .int .i64 c.b5, .int .i64 c.fr, .int .i64 c.to, .int .i64 c.n, .bool c.we] 34))
  have HB := Lib.hid (below_alloc (o := .cells #[.int .u8 d.kd, .int .i64 d.id, .int .i64 d.us, .int .i64 d.cl, .int .i64 d.a, .int .i64 d.b, .int .i64 d.c, .bool d.p, .bool d.q, .bool d.r, .bool d.tn, .int .i64 d.wa, .int .i64 d.pr, .bool d.he, .slice Z d.af.length cz, .int .u8 d.st, .int .i64 d.ca, .int .i64 d.ci, .int .i64 d.b0, .int .i64 d.b1, .int .i64 d.b2, .int .i64 d.b3, .int .i64 d.b4, .int .i64 d.b5, .int .i64 d.fr, .int .i64 d.to, .int .i64 d.n, .bool d.we] 34) (below_alloc (o := .cells #[.int .u8 c.kd, .int .i64 c.id, .int .i64 c.us, .int .i64 c.cl, .int .i64 c.a, .int .i64 c.b, .int .i64 c.c, .bool c.p, .bool c.q, .bool c.r, .bool c.tn, .int .i64 c.wa, .int .i64 c.pr, .bool c.he, .slice Y c.af.length cy, .int .u8 c.st, .int .i64 c.ca, .int .i64 c.ci, .int .i64 c.b0, .int .i64 c.b1, .int .i64 c.b2, .int .i64 c.b3, .int .i64 c.b4, .int .i64 c.b5, .int .i64 c.fr, .int .i64 c.to, .int .i64 c.n, .bool c.we] 34) (Below.refl w.heap.size w)))
  generalize (w.alloc (.cells #[.int .u8 c.kd, .int .i64 c.id, .int .i64 c.us, .int .i64 c.cl, .int .i64 c.a, .int .i64 c.b, .int .i64 c.c, .bool c.p, .bool c.q, .bool c.r, .bool c.tn, .int .i64 c.wa, .int .i64 c.pr, .bool c.he, .slice Y c.af.length cy, .int .u8 c.st, .int .i64 c.ca, .int .i64 c.ci, .int .i64 c.b0, .int .i64 c.b1, .int .i64 c.b2, .int .i64 c.b3, .int .i64 c.b4, .int .i64 c.b5, .int .i64 c.fr, .int .i64 c.to, .int .i64 c.n, .bool c.we] 34)).alloc (.cells #[.int .u8 d.kd, .int .i64 d.id, .int .i64 d.us, .int .i64 d.cl, .int .i64 d.a, .int .i64 d.b, .int .i64 d.c, .bool d.p, .bool d.q, .bool d.r, .bool d.tn, .int .i64 d.wa, .int .i64 d.pr, .bool d.he, .slice Z d.af.length cz, .int .u8 d.st, .int .i64 d.ca, .int .i64 d.ci, .int .i64 d.b0, .int .i64 d.b1, .int .i64 d.b2, .int .i64 d.b3, .int .i64 d.b4, .int .i64 d.b5, .int .i64 d.fr, .int .i64 d.to, .int .i64 d.n, .bool d.we] 34) = WB at *
  have p0 : WB.cell? ⟨w.heap.size, 0, none⟩ = some (.int .u8 c.kd) := KA.out.cell 0
  have p1 : WB.cell? ⟨w.heap.size, 1, none⟩ = some (.int .i64 c.id) := KA.out.cell 1
  have p2 : WB.cell? ⟨w.heap.size, 2, none⟩ = some (.int .i64 c.us) := KA.out.cell 2
  have p3 : WB.cell? ⟨w.heap.size, 3, none⟩ = some (.int .i64 c.cl) := KA.out.cell 3
  have p4 : WB.cell? ⟨w.heap.size, 4, none⟩ = some (.int .i64 c.a) := KA.out.cell 4
  have p5 : WB.cell? ⟨w.heap.size, 5, none⟩ = some (.int .i64 c.b) := KA.out.cell 5
  have p6 : WB.cell? ⟨w.heap.size, 6, none⟩ = some (.int .i64 c.c) := KA.out.cell 6
  have p7 : WB.cell? ⟨w.heap.size, 7, none⟩ = some (.bool c.p) := KA.out.cell 7
  have p8 : WB.cell? ⟨w.heap.size, 8, none⟩ = some (.bool c.q) := KA.out.cell 8
  have p9 : WB.cell? ⟨w.heap.size, 9, none⟩ = some (.bool c.r) := KA.out.cell 9
  have p10 : WB.cell? ⟨w.heap.size, 10, none⟩ = some (.bool c.tn) := KA.out.cell 10
  have p11 : WB.cell? ⟨w.heap.size, 11, none⟩ = some (.int .i64 c.wa) := KA.out.cell 11
  have p12 : WB.cell? ⟨w.heap.size, 12, none⟩ = some (.int .i64 c.pr) := KA.out.cell 12
  have p13 : WB.cell? ⟨w.heap.size, 13, none⟩ = some (.bool c.he) := KA.out.cell 13
  have p14 : WB.cell? ⟨w.heap.size, 14, none⟩ = some (.slice Y c.af.length cy) := KA.out.cell 14
  have p15 : WB.cell? ⟨w.heap.size, 15, none⟩ = some (.int .u8 c.st) := KA.out.cell 15
  have p16 : WB.cell? ⟨w.heap.size, 16, none⟩ = some (.int .i64 c.ca) := KA.out.cell 16
  have q0 : WB.cell? ⟨w.heap.size + 1, 0, none⟩ = some (.int .u8 d.kd) := KB.out.cell 0
  have q1 : WB.cell? ⟨w.heap.size + 1, 1, none⟩ = some (.int .i64 d.id) := KB.out.cell 1
  have q2 : WB.cell? ⟨w.heap.size + 1, 2, none⟩ = some (.int .i64 d.us) := KB.out.cell 2
  have q3 : WB.cell? ⟨w.heap.size + 1, 3, none⟩ = some (.int .i64 d.cl) := KB.out.cell 3
  have q4 : WB.cell? ⟨w.heap.size + 1, 4, none⟩ = some (.int .i64 d.a) := KB.out.cell 4
  have q5 : WB.cell? ⟨w.heap.size + 1, 5, none⟩ = some (.int .i64 d.b) := KB.out.cell 5
  have q6 : WB.cell? ⟨w.heap.size + 1, 6, none⟩ = some (.int .i64 d.c) := KB.out.cell 6
  have q7 : WB.cell? ⟨w.heap.size + 1, 7, none⟩ = some (.bool d.p) := KB.out.cell 7
  have q8 : WB.cell? ⟨w.heap.size + 1, 8, none⟩ = some (.bool d.q) := KB.out.cell 8
  have q9 : WB.cell? ⟨w.heap.size + 1, 9, none⟩ = some (.bool d.r) := KB.out.cell 9
  have q10 : WB.cell? ⟨w.heap.size + 1, 10, none⟩ = some (.bool d.tn) := KB.out.cell 10
  have q11 : WB.cell? ⟨w.heap.size + 1, 11, none⟩ = some (.int .i64 d.wa) := KB.out.cell 11
  have q12 : WB.cell? ⟨w.heap.size + 1, 12, none⟩ = some (.int .i64 d.pr) := KB.out.cell 12
  have q13 : WB.cell? ⟨w.heap.size + 1, 13, none⟩ = some (.bool d.he) := KB.out.cell 13
  have q14 : WB.cell? ⟨w.heap.size + 1, 14, none⟩ = some (.slice Z d.af.length cz) := KB.out.cell 14
  have q15 : WB.cell? ⟨w.heap.size + 1, 15, none⟩ = some (.int .u8 d.st) := KB.out.cell 15
  have q16 : WB.cell? ⟨w.heap.size + 1, 16, none⟩ = some (.int .i64 d.ca) := KB.out.cell 16
  have qb := eq_box HW.out.1 HW.out.2
  have qs := eq_span HW.out.1 HW.out.2
  have HJ := Lib.hid (rsameJob28 c d Y Z cy cz HW.out.1 HW.out.2 hl hm WB (HYZ.out.1.up HB.out) (HYZ.out.2.up HB.out))
  cases e0 : (c.kd == d.kd)
  · go_wp2_with fail
    go_ret
    exact ⟨by rw [HV.out]; simp only [e0, Bool.true_and, Bool.false_and]; rfl, HB.out⟩
  · go_wp2_with fail
    refine HJ.out.mono ?_
    rintro e wd ⟨rfl, hBd⟩
    have k5 := KA.out.below hBd KA.out.lt
    have k6 := KB.out.below hBd KB.out.lt
    have HBd := Lib.hid (below_up HB.out hBd)
    clear p0 q0 p1 q1 p2 q2 p3 q3 p4 q4 p5 q5 p6 q6 p7 q7 p8 q8 p9 q9 p10 q10 p11 q11 p12 q12 p13 q13 p14 q14 p15 q15 p16 q16
    have p17 : wd.cell? ⟨w.heap.size, 17, none⟩ = some (.int .i64 c.ci) := k5.cell 17
    have p18 : wd.cell? ⟨w.heap.size, 18, none⟩ = some (.int .i64 c.b0) := k5.cell 18
    have p19 : wd.cell? ⟨w.heap.size, 19, none⟩ = some (.int .i64 c.b1) := k5.cell 19
    have p20 : wd.cell? ⟨w.heap.size, 20, none⟩ = some (.int .i64 c.b2) := k5.cell 20
    have p21 : wd.cell? ⟨w.heap.size, 21, none⟩ = some (.int .i64 c.b3) := k5.cell 21
    have p22 : wd.cell? ⟨w.heap.size, 22, none⟩ = some (.int .i64 c.b4) := k5.cell 22
    have p23 : wd.cell? ⟨w.heap.size, 23, none⟩ = some (.int .i64 c.b5) := k5.cell 23
    have p24 : wd.cell? ⟨w.heap.size, 24, none⟩ = some (.int .i64 c.fr) := k5.cell 24
    have p25 : wd.cell? ⟨w.heap.size, 25, none⟩ = some (.int .i64 c.to) := k5.cell 25
    have p26 : wd.cell? ⟨w.heap.size, 26, none⟩ = some (.int .i64 c.n) := k5.cell 26
    have p27 : wd.cell? ⟨w.heap.size, 27, none⟩ = some (.bool c.we) := k5.cell 27
    have q17 : wd.cell? ⟨w.heap.size + 1, 17, none⟩ = some (.int .i64 d.ci) := k6.cell 17
    have q18 : wd.cell? ⟨w.heap.size + 1, 18, none⟩ = some (.int .i64 d.b0) := k6.cell 18
    have q19 : wd.cell? ⟨w.heap.size + 1, 19, none⟩ = some (.int .i64 d.b1) := k6.cell 19
    have q20 : wd.cell? ⟨w.heap.size + 1, 20, none⟩ = some (.int .i64 d.b2) := k6.cell 20
    have q21 : wd.cell? ⟨w.heap.size + 1, 21, none⟩ = some (.int .i64 d.b3) := k6.cell 21
    have q22 : wd.cell? ⟨w.heap.size + 1, 22, none⟩ = some (.int .i64 d.b4) := k6.cell 22
    have q23 : wd.cell? ⟨w.heap.size + 1, 23, none⟩ = some (.int .i64 d.b5) := k6.cell 23
    have q24 : wd.cell? ⟨w.heap.size + 1, 24, none⟩ = some (.int .i64 d.fr) := k6.cell 24
    have q25 : wd.cell? ⟨w.heap.size + 1, 25, none⟩ = some (.int .i64 d.to) := k6.cell 25
    have q26 : wd.cell? ⟨w.heap.size + 1, 26, none⟩ = some (.int .i64 d.n) := k6.cell 26
    have q27 : wd.cell? ⟨w.heap.size + 1, 27, none⟩ = some (.bool d.we) := k6.cell 27
    clear k5 k6 hBd HJ KA KB
    cases e1 : jobB c d
    · go_wp2_with fail
      go_ret
      exact ⟨by rw [HV.out]; simp only [e0, e1, Bool.true_and, Bool.false_and]; rfl, HBd.out⟩
    · cases e2 : (c.ci == d.ci)
      · go_wp2_with fail
        go_ret
        exact ⟨by rw [HV.out]; simp only [e0, e1, e2, Bool.true_and, Bool.false_and]; rfl, HBd.out⟩
      · cases e3 : boxB c d
        · go_wp2_with fail
          go_ret
          exact ⟨by rw [HV.out]; simp only [e0, e1, e2, e3, Bool.true_and, Bool.false_and]; rfl, HBd.out⟩
        · cases e4 : spanB c d
          · go_wp2_with fail
            go_ret
            exact ⟨by rw [HV.out]; simp only [e0, e1, e2, e3, e4, Bool.true_and, Bool.false_and]; rfl, HBd.out⟩
          · cases e5 : (c.n == d.n)
            · go_wp2_with fail
              go_ret
              exact ⟨by rw [HV.out]; simp only [e0, e1, e2, e3, e4, e5, Bool.true_and, Bool.false_and]; rfl, HBd.out⟩
            · go_wp2_with fail
              go_ret
              exact ⟨by rw [HV.out]; simp only [e0, e1, e2, e3, e4, e5, Bool.true_and]; rfl, HBd.out⟩
end Go.Proofs.Ytfdldbfjeamlcaa.RecF2
