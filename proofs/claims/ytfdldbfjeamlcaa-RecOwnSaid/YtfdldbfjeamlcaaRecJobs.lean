/- rec.configs of nothing, rec.jobs. -/
import Derived.BigQuiet
import Derived.Deep.QuietTactic
import Derived.Lib.QuietBelow
import Derived.Lib.SliceRun
import Derived.Test.YtfdldbfjeamlcaaRecEq
namespace Go.Proofs.Ytfdldbfjeamlcaa.RecJobs
open Go.RowKit Mem RecMem RecByte RecNum RecEach RecMath RecCommand RecEq
set_option linter.unusedVariables false
set_option linter.unusedSimpArgs false

theorem k_dims {D : Nat} {a b c : Int} (ha : (Lit.int .i64 a).wf = true) (hb : (Lit.int .i64 b).wf = true) (hc : (Lit.int .i64 c).wf = true) : Try.prog.keyLits (D + 2) 41 [.int .i64 a, .int .i64 b, .int .i64 c] = some [.int .i64 a, .int .i64 b, .int .i64 c] := by
  unfold Program.keyLits
  rw [Try.underlying41]
  have e : Try.prog.cellsOf 41 = 3 := by kernel_rfl
  have e1 : Try.prog.cellsOf 3 = 1 := by kernel_rfl
  simp [e, e1, List.range, List.range.loop, k_int ha, k_int hb, k_int hc]
theorem eq_dims0 (w : World) : (Op.equalIn 10000 41 (.agg #[.int .i64 0, .int .i64 0, .int .i64 0]) (.agg #[.int .i64 0, .int .i64 0, .int .i64 0])).run Try.prog w = .ok true w :=
  EqDeep.eq_of (m := 5) (D := 3) (D' := 3) (by kernel_rfl) (by omega) (by kernel_rfl) (by kernel_rfl) (k_dims (by decide) (by decide) (by decide)) (k_dims (by decide) (by decide) (by decide)) _ (by simp) w
set_option maxRecDepth 100000 in
set_option maxHeartbeats 2000000 in
theorem configsZ (w : World) : Calls Try.prog 45 #[.agg #[.int .i64 0, .int .i64 0, .int .i64 0, .int .i64 0, .int .i64 0, .int .i64 0, .int .i64 0, .slice none 0 0], .agg #[.int .i64 0, .int .i64 0, .int .i64 0, .int .i64 0, .int .i64 0, .int .i64 0, .int .i64 0, .slice none 0 0]] w fun e w' => e = .returned (.bool true) ∧ Below w.heap.size w w' := by
  have qd := eq_dims0
  go_enter Try.func45, Try.ntmps45
  go_wp2_with fail
  refine (classNil _).mono ?_
  rintro e w1 ⟨rfl, hB1⟩
  have HB := Lib.hid (below_up (below_alloc (below_alloc (Below.refl _ _))) hB1)
  clear hB1
  go_wp2_with fail
  go_ret
  exact ⟨rfl, HB.out⟩
def jobB (c d : CV) : Bool := (decide (c.af = d.af) && ((c.id == d.id) && ((c.us == d.us) && ((c.cl == d.cl) && (wantsB c d && ((c.wa == d.wa) && ((c.pr == d.pr) && ((c.he == d.he) && ((c.st == d.st) && (c.ca == d.ca))))))))))
set_option maxRecDepth 100000 in
set_option maxHeartbeats 8000000 in
theorem rjobs (c d : CV) (Y Z : Option Addr) (cy cz : Nat) (hc : CWf c) (hd : CWf d) (hl : c.af.length ≤ 1000) (hm : d.af.length ≤ 1000) (w : World) (hY : IntsAt w Y c.af) (hZ : IntsAt w Z d.af) :
    Calls Try.prog 47 #[.agg #[.int .i64 c.id, .int .i64 c.us, .int .i64 c.cl, .int .i64 c.a, .int .i64 c.b, .int .i64 c.c, .bool c.p, .bool c.q, .bool c.r, .bool c.tn, .int .i64 c.wa, .int .i64 c.pr, .bool c.he, .slice Y c.af.length cy, .int .u8 c.st, .int .i64 c.ca], .agg #[.int .i64 d.id, .int .i64 d.us, .int .i64 d.cl, .int .i64 d.a, .int .i64 d.b, .int .i64 d.c, .bool d.p, .bool d.q, .bool d.r, .bool d.tn, .int .i64 d.wa, .int .i64 d.pr, .bool d.he, .slice Z d.af.length cz, .int .u8 d.st, .int .i64 d.ca]] w fun e w' => e = .returned (.bool (jobB c d)) ∧ Below w.heap.size w w' := by
  have qw := eq_wants hc hd
  have HC := Lib.hid (fun (W : World) (h1 : IntsAt W Y c.af) (h2 : IntsAt W Z d.af) => iequal Y Z cy cz c.af d.af hl hm W h1 h2)
  have HYZ := Lib.hid (And.intro hY hZ)
  clear hY hZ hc hd
  go_enter Try.func47, Try.ntmps47
  go_wp2_with fail
  refine (HC.out _ (HYZ.out.1.up (below_alloc (below_alloc (Below.refl _ _)))) (HYZ.out.2.up (below_alloc (below_alloc (Below.refl _ _))))).mono ?_
  rintro e w1 ⟨rfl, hB1⟩
  have KA := ((Blk.new w 28 #[.int .i64 c.id, .int .i64 c.us, .int .i64 c.cl, .int .i64 c.a, .int .i64 c.b, .int .i64 c.c, .bool c.p, .bool c.q, .bool c.r, .bool c.tn, .int .i64 c.wa, .int .i64 c.pr, .bool c.he, .slice Y c.af.length cy, .int .u8 c.st, .int .i64 c.ca]).alloc (.cells #[.int .i64 d.id, .int .i64 d.us, .int .i64 d.cl, .int .i64 d.a, .int .i64 d.b, .int .i64 d.c, .bool d.p, .bool d.q, .bool d.r, .bool d.tn, .int .i64 d.wa, .int .i64 d.pr, .bool d.he, .slice Z d.af.length cz, .int .u8 d.st, .int .i64 d.ca] 28)).below hB1 (by simp; omega)
  have KB := (blk1 w 28 #[.int .i64 d.id, .int .i64 d.us, .int .i64 d.cl, .int .i64 d.a, .int .i64 d.b, .int .i64 d.c, .bool d.p, .bool d.q, .bool d.r, .bool d.tn, .int .i64 d.wa, .int .i64 d.pr, .bool d.he, .slice Z d.af.length cz, .int .u8 d.st, .int .i64 d.ca] (o := .cells #[.int .i64 c.id, .int .i64 c.us, .int .i64 c.cl, .int .i64 c.a, .int .i64 c.b, .int .i64 c.c, .bool c.p, .bool c.q, .bool c.r, .bool c.tn, .int .i64 c.wa, .int .i64 c.pr, .bool c.he, .slice Y c.af.length cy, .int .u8 c.st, .int .i64 c.ca] 28)).below hB1 (by simp)
  have HB := Lib.hid (below_up (below_alloc (below_alloc (Below.refl _ _))) hB1)
  have a0 : w1.cell? ⟨w.heap.size, 0, none⟩ = some (.int .i64 c.id) := KA.cell 0
  have a1 : w1.cell? ⟨w.heap.size, 1, none⟩ = some (.int .i64 c.us) := KA.cell 1
  have a2 : w1.cell? ⟨w.heap.size, 2, none⟩ = some (.int .i64 c.cl) := KA.cell 2
  have a3 : w1.cell? ⟨w.heap.size, 3, none⟩ = some (.int .i64 c.a) := KA.cell 3
  have a4 : w1.cell? ⟨w.heap.size, 4, none⟩ = some (.int .i64 c.b) := KA.cell 4
  have a5 : w1.cell? ⟨w.heap.size, 5, none⟩ = some (.int .i64 c.c) := KA.cell 5
  have a6 : w1.cell? ⟨w.heap.size, 6, none⟩ = some (.bool c.p) := KA.cell 6
  have a7 : w1.cell? ⟨w.heap.size, 7, none⟩ = some (.bool c.q) := KA.cell 7
  have a8 : w1.cell? ⟨w.heap.size, 8, none⟩ = some (.bool c.r) := KA.cell 8
  have a9 : w1.cell? ⟨w.heap.size, 9, none⟩ = some (.bool c.tn) := KA.cell 9
  have a10 : w1.cell? ⟨w.heap.size, 10, none⟩ = some (.int .i64 c.wa) := KA.cell 10
  have a11 : w1.cell? ⟨w.heap.size, 11, none⟩ = some (.int .i64 c.pr) := KA.cell 11
  have a12 : w1.cell? ⟨w.heap.size, 12, none⟩ = some (.bool c.he) := KA.cell 12
  have a14 : w1.cell? ⟨w.heap.size, 14, none⟩ = some (.int .u8 c.st) := KA.cell 14
  have a15 : w1.cell? ⟨w.heap.size, 15, none⟩ = some (.int .i64 c.ca) := KA.cell 15
  have b0 : w1.cell? ⟨w.heap.size + 1, 0, none⟩ = some (.int .i64 d.id) := KB.cell 0
  have b1 : w1.cell? ⟨w.heap.size + 1, 1, none⟩ = some (.int .i64 d.us) := KB.cell 1
  have b2 : w1.cell? ⟨w.heap.size + 1, 2, none⟩ = some (.int .i64 d.cl) := KB.cell 2
  have b3 : w1.cell? ⟨w.heap.size + 1, 3, none⟩ = some (.int .i64 d.a) := KB.cell 3
  have b4 : w1.cell? ⟨w.heap.size + 1, 4, none⟩ = some (.int .i64 d.b) := KB.cell 4
  have b5 : w1.cell? ⟨w.heap.size + 1, 5, none⟩ = some (.int .i64 d.c) := KB.cell 5
  have b6 : w1.cell? ⟨w.heap.size + 1, 6, none⟩ = some (.bool d.p) := KB.cell 6
  have b7 : w1.cell? ⟨w.heap.size + 1, 7, none⟩ = some (.bool d.q) := KB.cell 7
  have b8 : w1.cell? ⟨w.heap.size + 1, 8, none⟩ = some (.bool d.r) := KB.cell 8
  have b9 : w1.cell? ⟨w.heap.size + 1, 9, none⟩ = some (.bool d.tn) := KB.cell 9
  have b10 : w1.cell? ⟨w.heap.size + 1, 10, none⟩ = some (.int .i64 d.wa) := KB.cell 10
  have b11 : w1.cell? ⟨w.heap.size + 1, 11, none⟩ = some (.int .i64 d.pr) := KB.cell 11
  have b12 : w1.cell? ⟨w.heap.size + 1, 12, none⟩ = some (.bool d.he) := KB.cell 12
  have b14 : w1.cell? ⟨w.heap.size + 1, 14, none⟩ = some (.int .u8 d.st) := KB.cell 14
  have b15 : w1.cell? ⟨w.heap.size + 1, 15, none⟩ = some (.int .i64 d.ca) := KB.cell 15
  clear hB1 KA KB HC HYZ
  cases hE0 : decide (c.af = d.af)
  · go_wp2_with fail
    go_ret
    exact ⟨by rw [show jobB c d = false from by simp only [jobB, hE0, Bool.false_and]]; rfl, HB.out⟩
  · cases e1 : (c.id == d.id)
    · go_wp2_with fail
      go_ret
      exact ⟨by rw [show jobB c d = false from by simp only [jobB, hE0, e1, Bool.true_and, Bool.false_and]]; rfl, HB.out⟩
    · cases e2 : (c.us == d.us)
      · go_wp2_with fail
        go_ret
        exact ⟨by rw [show jobB c d = false from by simp only [jobB, hE0, e1, e2, Bool.true_and, Bool.false_and]]; rfl, HB.out⟩
      · cases e3 : (c.cl == d.cl)
        · go_wp2_with fail
          go_ret
          exact ⟨by rw [show jobB c d = false from by simp only [jobB, hE0, e1, e2, e3, Bool.true_and, Bool.false_and]]; rfl, HB.out⟩
        · cases e4 : wantsB c d
          · go_wp2_with fail
            go_ret
            exact ⟨by rw [show jobB c d = false from by simp only [jobB, hE0, e1, e2, e3, e4, Bool.true_and, Bool.false_and]]; rfl, HB.out⟩
          · cases e5 : (c.wa == d.wa)
            · go_wp2_with fail
              go_ret
              exact ⟨by rw [show jobB c d = false from by simp only [jobB, hE0, e1, e2, e3, e4, e5, Bool.true_and, Bool.false_and]]; rfl, HB.out⟩
            · cases e6 : (c.pr == d.pr)
              · go_wp2_with fail
                go_ret
                exact ⟨by rw [show jobB c d = false from by simp only [jobB, hE0, e1, e2, e3, e4, e5, e6, Bool.true_and, Bool.false_and]]; rfl, HB.out⟩
              · cases e7 : (c.he == d.he)
                · go_wp2_with fail
                  go_ret
                  exact ⟨by rw [show jobB c d = false from by simp only [jobB, hE0, e1, e2, e3, e4, e5, e6, e7, Bool.true_and, Bool.false_and]]; rfl, HB.out⟩
                · cases e8 : (c.st == d.st)
                  · go_wp2_with fail
                    go_ret
                    exact ⟨by rw [show jobB c d = false from by simp only [jobB, hE0, e1, e2, e3, e4, e5, e6, e7, e8, Bool.true_and, Bool.false_and]]; rfl, HB.out⟩
                  · go_wp2_with fail
                    go_ret
                    exact ⟨by rw [show jobB c d = (c.ca == d.ca) from by simp only [jobB, hE0, e1, e2, e3, e4, e5, e6, e7, e8, Bool.true_and]]; rfl, HB.out⟩
end Go.Proofs.Ytfdldbfjeamlcaa.RecJobs
