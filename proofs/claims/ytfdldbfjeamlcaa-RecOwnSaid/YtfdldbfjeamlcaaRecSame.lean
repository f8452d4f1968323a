/- rec.Same of records of commands. -/
import Derived.BigQuiet
import Derived.Deep.QuietTactic
import Derived.Deep.RegionHeld3
import Derived.Deep.MidRow
import Derived.Deep.DeepCutAuto
import Derived.Lib.QuietBelow
import Derived.Lib.SliceRun
import Derived.Test.YtfdldbfjeamlcaaRecJobs
import Derived.Test.YtfdldbfjeamlcaaRecCmdJ
namespace Go.Proofs.Ytfdldbfjeamlcaa.RecSame
open Go.RowKit Mem RecMem RecByte RecNum RecEach RecMath RecCommand RecCmdJ RecEq RecJobs
set_option linter.unusedVariables false
set_option linter.unusedSimpArgs false

theorem range_part {W : World} {g o n : Nat} {t : TypeId} {cs : Array Value} {l : List Value} (h : Blk W g t cs) (hd : (cs.toList.drop o).take n = l) : W.rangeAt g o l := fun i v hi => by
  rw [h.cell]
  subst hd
  rw [List.getElem?_take] at hi
  split at hi
  · rw [List.getElem?_drop] at hi
    simpa using hi
  · cases hi
theorem range_up {w w' : World} {b o : Nat} {cs : List Value} (h : w.rangeAt b o cs) (hB : Below w.heap.size w w') : w'.rangeAt b o cs := fun i v hi => keep_cell (h i v hi) hB
theorem blk_all {g : Nat} {t : TypeId} {vs : List Value} {W : World} {cs : Array Value} (h : Blk W g t cs) (hs : setA cs 0 vs = vs.toArray) : Blk (World.setCells W g 0 vs) g t vs.toArray := by
  have := blk_setA (i := 0) (vs := vs) h
  rwa [hs] at this
theorem blk_new_of {W : World} {n : Nat} (h : W.heap.size = n) (t : TypeId) (cs : Array Value) : Blk (W.alloc (.cells cs t)) n t cs := by
  subst h; exact Blk.new _ _ _
theorem below_alloc2 {B : Nat} {a w : World} (hB : B ≤ w.heap.size) (h : Below B a w) (o : Obj) : Below B a (w.alloc o) := h.alloc hB o
theorem nilEq (w : World) : Calls Try.prog 50 #[.slice none 0 0, .slice none 0 0] w fun e w' => e = .returned (.bool true) ∧ Below w.heap.size w w' := iequal none none 0 0 [] [] (by simp) (by simp) w IntsAt.nil IntsAt.nil
theorem cv_eq (c d : CV) : decide (c = d) = ((c.kd == d.kd) && (jobB c d && ((c.ci == d.ci) && (boxB c d && (spanB c d && ((c.n == d.n) && (c.we == d.we))))))) := by
  rw [Bool.eq_iff_iff]
  obtain ⟨_, _, _, _, _, _, _, _, _, _, _, _, _, _, _, _, _, _, _, _, _, _, _, _, _, _, _, _⟩ := c
  obtain ⟨_, _, _, _, _, _, _, _, _, _, _, _, _, _, _, _, _, _, _, _, _, _, _, _, _, _, _, _⟩ := d
  simp only [jobB, wantsB, boxB, spanB, decide_eq_true_eq, Bool.and_eq_true, beq_iff_eq, CV.mk.injEq]
  constructor <;> intro h <;> simp_all
theorem set_state : setA #[.int .i64 0, .int .i64 0, .int .i64 0, .int .i64 0, .int .i64 0, .int .i64 0, .int .i64 0, .slice none 0 0, .int .i64 0, .int .i64 0, .slice none 0 0, .slice none 0 0, .slice none 0 0, .slice none 0 0, .slice none 0 0, .slice none 0 0] 0 [.int .i64 0, .int .i64 0, .int .i64 0, .int .i64 0, .int .i64 0, .int .i64 0, .int .i64 0, .slice none 0 0, .int .i64 0, .int .i64 0, .slice none 0 0, .slice none 0 0, .slice none 0 0, .slice none 0 0, .slice none 0 0, .slice none 0 0] = (List.toArray [.int .i64 0, .int .i64 0, .int .i64 0, .int .i64 0, .int .i64 0, .int .i64 0, .int .i64 0, .slice none 0 0, .int .i64 0, .int .i64 0, .slice none 0 0, .slice none 0 0, .slice none 0 0, .slice none 0 0, .slice none 0 0, .slice none 0 0]) := by
  simp only [setA, List.setIfInBounds_toArray, List.set_cons_zero, List.set_cons_succ]
theorem set_cmd (c : CV) (Y : Option Addr) (cy : Nat) : setA #[.int .u8 0, .int .i64 0, .int .i64 0, .int .i64 0, .int .i64 0, .int .i64 0, .int .i64 0, .bool false, .bool false, .bool false, .bool false, .int .i64 0, .int .i64 0, .bool false, .slice none 0 0, .int .u8 0, .int .i64 0, .int .i64 0, .int .i64 0, .int .i64 0, .int .i64 0, .int .i64 0, .int .i64 0, .int .i64 0, .int .i64 0, .int .i64 0, .int .i64 0, .bool false] 0 [.int .u8 c.kd, .int .i64 c.id, .int .i64 c.us, .int .i64 c.cl, .int .i64 c.a, .int .i64 c.b, .int .i64 c.c, .bool c.p, .bool c.q, .bool c.r, .bool c.tn, .int .i64 c.wa, .int .i64 c.pr, .bool c.he, .slice Y c.af.length cy, .int .u8 c.st, .int .i64 c.ca, .int .i64 c.ci, .int .i64 c.b0, .int .i64 c.b1, .int .i64 c.b2, .int .i64 c.b3, .int .i64 c.b4, .int .i64 c.b5, .int .i64 c.fr, .int .i64 c.to, .int .i64 c.n, .bool c.we] = (List.toArray [.int .u8 c.kd, .int .i64 c.id, .int .i64 c.us, .int .i64 c.cl, .int .i64 c.a, .int .i64 c.b, .int .i64 c.c, .bool c.p, .bool c.q, .bool c.r, .bool c.tn, .int .i64 c.wa, .int .i64 c.pr, .bool c.he, .slice Y c.af.length cy, .int .u8 c.st, .int .i64 c.ca, .int .i64 c.ci, .int .i64 c.b0, .int .i64 c.b1, .int .i64 c.b2, .int .i64 c.b3, .int .i64 c.b4, .int .i64 c.b5, .int .i64 c.fr, .int .i64 c.to, .int .i64 c.n, .bool c.we]) := by
  simp only [setA, List.setIfInBounds_toArray, List.set_cons_zero, List.set_cons_succ]
set_option maxRecDepth 100000 in
set_option maxHeartbeats 6000000 in
theorem rsame (c d : CV) (Y Z : Option Addr) (cy cz : Nat) (hc : CWf c) (hd : CWf d) (hl : c.af.length ≤ 1000) (hm : d.af.length ≤ 1000) (w : World) (hY : IntsAt w Y c.af) (hZ : IntsAt w Z d.af) :
    Calls Try.prog 18 #[.agg #[.int .i64 0, .int .i64 0, .int .i64 0, .int .i64 0, .int .i64 0, .int .i64 0, .int .i64 0, .int .i64 0, .slice none 0 0, .int .i64 0, .int .i64 0, .slice none 0 0, .slice none 0 0, .slice none 0 0, .slice none 0 0, .slice none 0 0, .slice none 0 0, .int .u8 c.kd, .int .i64 c.id, .int .i64 c.us, .int .i64 c.cl, .int .i64 c.a, .int .i64 c.b, .int .i64 c.c, .bool c.p, .bool c.q, .bool c.r, .bool c.tn, .int .i64 c.wa, .int .i64 c.pr, .bool c.he, .slice Y c.af.length cy, .int .u8 c.st, .int .i64 c.ca, .int .i64 c.ci, .int .i64 c.b0, .int .i64 c.b1, .int .i64 c.b2, .int .i64 c.b3, .int .i64 c.b4, .int .i64 c.b5, .int .i64 c.fr, .int .i64 c.to, .int .i64 c.n, .bool c.we], .agg #[.int .i64 0, .int .i64 0, .int .i64 0, .int .i64 0, .int .i64 0, .int .i64 0, .int .i64 0, .int .i64 0, .slice none 0 0, .int .i64 0, .int .i64 0, .slice none 0 0, .slice none 0 0, .slice none 0 0, .slice none 0 0, .slice none 0 0, .slice none 0 0, .int .u8 d.kd, .int .i64 d.id, .int .i64 d.us, .int .i64 d.cl, .int .i64 d.a, .int .i64 d.b, .int .i64 d.c, .bool d.p, .bool d.q, .bool d.r, .bool d.tn, .int .i64 d.wa, .int .i64 d.pr, .bool d.he, .slice Z d.af.length cz, .int .u8 d.st, .int .i64 d.ca, .int .i64 d.ci, .int .i64 d.b0, .int .i64 d.b1, .int .i64 d.b2, .int .i64 d.b3, .int .i64 d.b4, .int .i64 d.b5, .int .i64 d.fr, .int .i64 d.to, .int .i64 d.n, .bool d.we]] w fun e w' => e = .returned (.bool (decide (c = d))) ∧ Below w.heap.size w w' := by
  have HYZ := Lib.hid (And.intro hY hZ)
  have HW := Lib.hid (And.intro hc hd)
  clear hY hZ hc hd
  go_enter Try.func18, Try.ntmps18
  go_upto_region 1 with fail
  have KA := Lib.hid ((Blk.new w 51 #[.int .i64 0, .int .i64 0, .int .i64 0, .int .i64 0, .int .i64 0, .int .i64 0, .int .i64 0, .int .i64 0, .slice none 0 0, .int .i64 0, .int .i64 0, .slice none 0 0, .slice none 0 0, .slice none 0 0, .slice none 0 0, .slice none 0 0, .slice none 0 0, .int .u8 c.kd, .int .i64 c.id, .int .i64 c.us, .int .i64 c.cl, .int .i64 c.a, .int .i64 c.b, .int .i64 c.c, .bool c.p, .bool c.q, .bool c.r, .bool c.tn, .int .i64 c.wa, .int .i64 c.pr, .bool c.he, .slice Y c.af.length cy, .int .u8 c.st, .int .i64 c.ca, .int .i64 c.ci, .int .i64 c.b0, .int .i64 c.b1, .int .i64 c.b2, .int .i64 c.b3, .int .i64 c.b4, .int .i64 c.b5, .int .i64 c.fr, .int .i64 c.to, .int .i64 c.n, .bool c.we]).alloc (.cells #[.int .i64 0, .int .i64 0, .int .i64 0, .int .i64 0, .int .i64 0, .int .i64 0, .int .i64 0, .int .i64 0, .slice none 0 0, .int .i64 0, .int .i64 0, .slice none 0 0, .slice none 0 0, .slice none 0 0, .slice none 0 0, .slice none 0 0, .slice none 0 0, .int .u8 d.kd, .int .i64 d.id, .int .i64 d.us, .int .i64 d.cl, .int .i64 d.a, .int .i64 d.b, .int .i64 d.c, .bool d.p, .bool d.q, .bool d.r, .bool d.tn, .int .i64 d.wa, .int .i64 d.pr, .bool d.he, .slice Z d.af.length cz, .int .u8 d.st, .int .i64 d.ca, .int .i64 d.ci, .int .i64 d.b0, .int .i64 d.b1, .int .i64 d.b2, .int .i64 d.b3, .int .i64 d.b4, .int .i64 d.b5, .int .i64 d.fr, .int .i64 d.to, .int .i64 d.n, .bool d.we] 51))
  have KB := Lib.hid (blk1 w 51 #[.int .i64 0, .int .i64 0, .int .i64 0, .int .i64 0, .int .i64 0, .int .i64 0, .int .i64 0, .int .i64 0, .slice none 0 0, .int .i64 0, .int .i64 0, .slice none 0 0, .slice none 0 0, .slice none 0 0, .slice none 0 0, .slice none 0 0, .slice none 0 0, .int .u8 d.kd, .int .i64 d.id, .int .i64 d.us, .int .i64 d.cl, .int .i64 d.a, .int .i64 d.b, .int .i64 d.c, .bool d.p, .bool d.q, .bool d.r, .bool d.tn, .int .i64 d.wa, .int .i64 d.pr, .bool d.he, .slice Z d.af.length cz, .int .u8 d.st, .int .i64 d.ca, .int .i64 d.ci, .int .i64 d.b0, .int .i64 d.b1, .int .i64 d.b2, .int .i64 d.b3, .int .i64 d.b4, .int .i64 d.b5, .int .i64 d.fr, .int .i64 d.to, .int .i64 d.n, .bool d.we] (o := .cells #[.int .i64 0, .int .i64 0, .int .i64 0, .int .i64 0, .int .i64 0, .int .i64 0, .int .i64 0, .int .i64 0, .slice none 0 0, .int .i64 0, .int .i64 0, .slice none 0 0, .slice none 0 0, .slice none 0 0, .slice none 0 0, .slice none 0 0, .slice none 0 0, .int .u8 c.kd, .int .i64 c.id, .int .i64 c.us, .int .i64 c.cl, .int .i64 c.a, .int .i64 c.b, .int .i64 c.c, .bool c.p, .bool c.q, .bool c.r, .bool c.tn, .int .i64 c.wa, .int .i64 c.pr, .bool c.he, .slice Y c.af.length cy, .int .u8 c.st, .int .i64 c.ca, .int .i64 c.ci, .int .i64 c.b0, .int .i64 c.b1, .int .i64 c.b2, .int .i64 c.b3, .int .i64 c.b4, .int .i64 c.b5, .int .i64 c.fr, .int .i64 c.to, .int .i64 c.n, .bool c.we] 51))
  have HB := Lib.hid (below_alloc (o := .cells #[.int .i64 0, .int .i64 0, .int .i64 0, .int .i64 0, .int .i64 0, .int .i64 0, .int .i64 0, .int .i64 0, .slice none 0 0, .int .i64 0, .int .i64 0, .slice none 0 0, .slice none 0 0, .slice none 0 0, .slice none 0 0, .slice none 0 0, .slice none 0 0, .int .u8 d.kd, .int .i64 d.id, .int .i64 d.us, .int .i64 d.cl, .int .i64 d.a, .int .i64 d.b, .int .i64 d.c, .bool d.p, .bool d.q, .bool d.r, .bool d.tn, .int .i64 d.wa, .int .i64 d.pr, .bool d.he, .slice Z d.af.length cz, .int .u8 d.st, .int .i64 d.ca, .int .i64 d.ci, .int .i64 d.b0, .int .i64 d.b1, .int .i64 d.b2, .int .i64 d.b3, .int .i64 d.b4, .int .i64 d.b5, .int .i64 d.fr, .int .i64 d.to, .int .i64 d.n, .bool d.we] 51) (below_alloc (o := .cells #[.int .i64 0, .int .i64 0, .int .i64 0, .int .i64 0, .int .i64 0, .int .i64 0, .int .i64 0, .int .i64 0, .slice none 0 0, .int .i64 0, .int .i64 0, .slice none 0 0, .slice none 0 0, .slice none 0 0, .slice none 0 0, .slice none 0 0, .slice none 0 0, .int .u8 c.kd, .int .i64 c.id, .int .i64 c.us, .int .i64 c.cl, .int .i64 c.a, .int .i64 c.b, .int .i64 c.c, .bool c.p, .bool c.q, .bool c.r, .bool c.tn, .int .i64 c.wa, .int .i64 c.pr, .bool c.he, .slice Y c.af.length cy, .int .u8 c.st, .int .i64 c.ca, .int .i64 c.ci, .int .i64 c.b0, .int .i64 c.b1, .int .i64 c.b2, .int .i64 c.b3, .int .i64 c.b4, .int .i64 c.b5, .int .i64 c.fr, .int .i64 c.to, .int .i64 c.n, .bool c.we] 51) (Below.refl w.heap.size w)))
  generalize (w.alloc (.cells #[.int .i64 0, .int .i64 0, .int .i64 0, .int .i64 0, .int .i64 0, .int .i64 0, .int .i64 0, .int .i64 0, .slice none 0 0, .int .i64 0, .int .i64 0, .slice none 0 0, .slice none 0 0, .slice none 0 0, .slice none 0 0, .slice none 0 0, .slice none 0 0, .int .u8 c.kd, .int .i64 c.id, .int .i64 c.us, .int .i64 c.cl, .int .i64 c.a, .int .i64 c.b, .int .i64 c.c, .bool c.p, .bool c.q, .bool c.r, .bool c.tn, .int .i64 c.wa, .int .i64 c.pr, .bool c.he, .slice Y c.af.length cy, .int .u8 c.st, .int .i64 c.ca, .int .i64 c.ci, .int .i64 c.b0, .int .i64 c.b1, .int .i64 c.b2, .int .i64 c.b3, .int .i64 c.b4, .int .i64 c.b5, .int .i64 c.fr, .int .i64 c.to, .int .i64 c.n, .bool c.we] 51)).alloc (.cells #[.int .i64 0, .int .i64 0, .int .i64 0, .int .i64 0, .int .i64 0, .int .i64 0, .int .i64 0, .int .i64 0, .slice none 0 0, .int .i64 0, .int .i64 0, .slice none 0 0, .slice none 0 0, .slice none 0 0, .slice none 0 0, .slice none 0 0, .slice none 0 0, .int .u8 d.kd, .int .i64 d.id, .int .i64 d.us, .int .i64 d.cl, .int .i64 d.a, .int .i64 d.b, .int .i64 d.c, .bool d.p, .bool d.q, .bool d.r, .bool d.tn, .int .i64 d.wa, .int .i64 d.pr, .bool d.he, .slice Z d.af.length cz, .int .u8 d.st, .int .i64 d.ca, .int .i64 d.ci, .int .i64 d.b0, .int .i64 d.b1, .int .i64 d.b2, .int .i64 d.b3, .int .i64 d.b4, .int .i64 d.b5, .int .i64 d.fr, .int .i64 d.to, .int .i64 d.n, .bool d.we] 51) = WB at *
  have HRA := Lib.hid (show WB.rangeAt w.heap.size 1 [.int .i64 0, .int .i64 0, .int .i64 0, .int .i64 0, .int .i64 0, .int .i64 0, .int .i64 0, .slice none 0 0, .int .i64 0, .int .i64 0, .slice none 0 0, .slice none 0 0, .slice none 0 0, .slice none 0 0, .slice none 0 0, .slice none 0 0] from range_part (n := 16) KA.out rfl)
  have HRB := Lib.hid (show WB.rangeAt (w.heap.size + 1) 1 [.int .i64 0, .int .i64 0, .int .i64 0, .int .i64 0, .int .i64 0, .int .i64 0, .int .i64 0, .slice none 0 0, .int .i64 0, .int .i64 0, .slice none 0 0, .slice none 0 0, .slice none 0 0, .slice none 0 0, .slice none 0 0, .slice none 0 0] from range_part (n := 16) KB.out rfl)
  go_cut [5, 6] from 11 to 14 (fun s5 s6 wx => ∃ g5 g6 : Nat, s5 = .pointer (some ⟨g5, 0, none⟩) ∧ s6 = .pointer (some ⟨g6, 0, none⟩) ∧ Blk wx g5 49 (List.toArray [.int .i64 0, .int .i64 0, .int .i64 0, .int .i64 0, .int .i64 0, .int .i64 0, .int .i64 0, .slice none 0 0, .int .i64 0, .int .i64 0, .slice none 0 0, .slice none 0 0, .slice none 0 0, .slice none 0 0, .slice none 0 0, .slice none 0 0]) ∧ Blk wx g6 49 (List.toArray [.int .i64 0, .int .i64 0, .int .i64 0, .int .i64 0, .int .i64 0, .int .i64 0, .int .i64 0, .slice none 0 0, .int .i64 0, .int .i64 0, .slice none 0 0, .slice none 0 0, .slice none 0 0, .slice none 0 0, .slice none 0 0, .slice none 0 0]) ∧ Below WB.heap.size WB wx)
  case first =>
    refine wp_region_noPanic ?_
    refine wp_region_held_drew (S := (fun W => Below WB.heap.size WB W)) (by kernel_rfl) ?_ (fun hHeld => ?_)
    · exact (Below.refl _ _).drew
    refine' wpAnyH_take (i := 0) (v := ?v1) rfl (by kernel_rfl) (by kernel_rfl) (by kernel_rfl) (fun _ _ _ h => h) (Or.inl ⟨by rfl, ?y1⟩) (by assumption) ?r1
    case y1 => (intro W hSw; (try dsimp only at hSw); go_simp; try with_reducible rfl)
    (try simp only [Act.put, List.setIfInBounds_toArray, List.set_cons_zero, List.set_cons_succ])
    refine' wpAnyH_take (i := 1) (v := _) rfl (by kernel_rfl) (by kernel_rfl) (by kernel_rfl) (fun _ _ _ h => h) (yieldsIf_load_mid (by rfl) _ _ rfl _ _ rfl [.int .i64 0, .int .i64 0, .int .i64 0, .int .i64 0, .int .i64 0, .int .i64 0, .int .i64 0, .slice none 0 0, .int .i64 0, .int .i64 0, .slice none 0 0, .slice none 0 0, .slice none 0 0, .slice none 0 0, .slice none 0 0, .slice none 0 0] _ (fun W hW => range_up HRA.out hW) Try.underlying49 rfl (by kernel_rfl)) (by assumption) ?r2
    (try simp only [Act.put, List.setIfInBounds_toArray, List.set_cons_zero, List.set_cons_succ])
    refine' wpAnyH_take (i := 2) (v := ?v3) rfl (by kernel_rfl) (by kernel_rfl) (by kernel_rfl) (fun _ _ _ h => h) (Or.inl ⟨by rfl, ?y3⟩) (by assumption) ?r3
    case y3 => (intro W hSw; (try dsimp only at hSw); go_simp; try with_reducible rfl)
    (try simp only [Act.put, List.setIfInBounds_toArray, List.set_cons_zero, List.set_cons_succ])
    refine' wpAnyH_take (i := 3) (v := _) rfl (by kernel_rfl) (by kernel_rfl) (by kernel_rfl) (fun _ _ _ h => h) (yieldsIf_load_mid (by rfl) _ _ rfl _ _ rfl [.int .i64 0, .int .i64 0, .int .i64 0, .int .i64 0, .int .i64 0, .int .i64 0, .int .i64 0, .slice none 0 0, .int .i64 0, .int .i64 0, .slice none 0 0, .slice none 0 0, .slice none 0 0, .slice none 0 0, .slice none 0 0, .slice none 0 0] _ (fun W hW => range_up HRB.out hW) Try.underlying49 rfl (by kernel_rfl)) (by assumption) ?r4
    (try simp only [Act.put, List.setIfInBounds_toArray, List.set_cons_zero, List.set_cons_succ])
    refine wpAnyH_ready (rs := [4, 5]) (by kernel_rfl) (by simp) ?_
    refine AllReadyH.cons (i := 4) rfl (fun K hK => ?_) ?_
    · go_simp
      refine hK.out _ _ ?_ (fun hHeld => ?_)
      · exact (Below.drew (below_alloc2 (by simp) ((Below.refl WB.heap.size WB)) (.cells #[.int .i64 0, .int .i64 0, .int .i64 0, .int .i64 0, .int .i64 0, .int .i64 0, .int .i64 0, .slice none 0 0, .int .i64 0, .int .i64 0, .slice none 0 0, .slice none 0 0, .slice none 0 0, .slice none 0 0, .slice none 0 0, .slice none 0 0] 49)))
      clear hK K
      (try simp only [Act.put, List.setIfInBounds_toArray, List.set_cons_zero, List.set_cons_succ])
      refine wpAnyH_ready (rs := [5]) (by kernel_rfl) (by simp) ?_
      refine AllReadyH.cons (i := 5) rfl (fun K hK => ?_) ?_
      · go_simp
        refine hK.out _ _ ?_ (fun hHeld => ?_)
        · exact (Below.drew (below_alloc2 (by simp) ((below_alloc2 (by simp) ((Below.refl WB.heap.size WB)) (.cells #[.int .i64 0, .int .i64 0, .int .i64 0, .int .i64 0, .int .i64 0, .int .i64 0, .int .i64 0, .slice none 0 0, .int .i64 0, .int .i64 0, .slice none 0 0, .slice none 0 0, .slice none 0 0, .slice none 0 0, .slice none 0 0, .slice none 0 0] 49))) (.cells #[.int .i64 0, .int .i64 0, .int .i64 0, .int .i64 0, .int .i64 0, .int .i64 0, .int .i64 0, .slice none 0 0, .int .i64 0, .int .i64 0, .slice none 0 0, .slice none 0 0, .slice none 0 0, .slice none 0 0, .slice none 0 0, .slice none 0 0] 49)))
        clear hK K
        (try simp only [Act.put, List.setIfInBounds_toArray, List.set_cons_zero, List.set_cons_succ])
        refine wpAnyH_ready (rs := [6]) (by kernel_rfl) (by simp) ?_
        refine AllReadyH.cons (i := 6) rfl (fun K hK => ?_) ?_
        · rw [if_pos (by rfl)]
          simp only [List.getElem_toArray, List.getElem_cons_zero, List.getElem_cons_succ]
          refine wp_store_mid _ _ _ rfl (WB.heap.size) 0 (List.toArray [.int .i64 0, .int .i64 0, .int .i64 0, .int .i64 0, .int .i64 0, .int .i64 0, .int .i64 0, .slice none 0 0, .int .i64 0, .int .i64 0, .slice none 0 0, .slice none 0 0, .slice none 0 0, .slice none 0 0, .slice none 0 0, .slice none 0 0]) rfl rfl (there_of (Blk.drew (Blk.alloc (Blk.new WB 49 #[.int .i64 0, .int .i64 0, .int .i64 0, .int .i64 0, .int .i64 0, .int .i64 0, .int .i64 0, .slice none 0 0, .int .i64 0, .int .i64 0, .slice none 0 0, .slice none 0 0, .slice none 0 0, .slice none 0 0, .slice none 0 0, .slice none 0 0]) (.cells #[.int .i64 0, .int .i64 0, .int .i64 0, .int .i64 0, .int .i64 0, .int .i64 0, .int .i64 0, .slice none 0 0, .int .i64 0, .int .i64 0, .slice none 0 0, .slice none 0 0, .slice none 0 0, .slice none 0 0, .slice none 0 0, .slice none 0 0] 49))) (Nat.le_of_ble_eq_true rfl)) (by kernel_rfl) (by kernel_rfl) ?_
          simp only [Act.put, List.getElem_toArray, List.getElem_cons_zero, List.getElem_cons_succ, List.setIfInBounds_toArray, List.set_cons_zero, List.set_cons_succ, List.toList_toArray]
          have j5 : Blk (World.setCells (World.drew (World.alloc (World.alloc WB (.cells #[.int .i64 0, .int .i64 0, .int .i64 0, .int .i64 0, .int .i64 0, .int .i64 0, .int .i64 0, .slice none 0 0, .int .i64 0, .int .i64 0, .slice none 0 0, .slice none 0 0, .slice none 0 0, .slice none 0 0, .slice none 0 0, .slice none 0 0] 49)) (.cells #[.int .i64 0, .int .i64 0, .int .i64 0, .int .i64 0, .int .i64 0, .int .i64 0, .int .i64 0, .slice none 0 0, .int .i64 0, .int .i64 0, .slice none 0 0, .slice none 0 0, .slice none 0 0, .slice none 0 0, .slice none 0 0, .slice none 0 0] 49))) (WB.heap.size) 0 [.int .i64 0, .int .i64 0, .int .i64 0, .int .i64 0, .int .i64 0, .int .i64 0, .int .i64 0, .slice none 0 0, .int .i64 0, .int .i64 0, .slice none 0 0, .slice none 0 0, .slice none 0 0, .slice none 0 0, .slice none 0 0, .slice none 0 0]) (WB.heap.size) 49 (List.toArray [.int .i64 0, .int .i64 0, .int .i64 0, .int .i64 0, .int .i64 0, .int .i64 0, .int .i64 0, .slice none 0 0, .int .i64 0, .int .i64 0, .slice none 0 0, .slice none 0 0, .slice none 0 0, .slice none 0 0, .slice none 0 0, .slice none 0 0]) := blk_all (Blk.drew (Blk.alloc (Blk.new WB 49 #[.int .i64 0, .int .i64 0, .int .i64 0, .int .i64 0, .int .i64 0, .int .i64 0, .int .i64 0, .slice none 0 0, .int .i64 0, .int .i64 0, .slice none 0 0, .slice none 0 0, .slice none 0 0, .slice none 0 0, .slice none 0 0, .slice none 0 0]) (.cells #[.int .i64 0, .int .i64 0, .int .i64 0, .int .i64 0, .int .i64 0, .int .i64 0, .int .i64 0, .slice none 0 0, .int .i64 0, .int .i64 0, .slice none 0 0, .slice none 0 0, .slice none 0 0, .slice none 0 0, .slice none 0 0, .slice none 0 0] 49))) set_state
          have j6 : Blk (World.setCells (World.drew (World.alloc (World.alloc WB (.cells #[.int .i64 0, .int .i64 0, .int .i64 0, .int .i64 0, .int .i64 0, .int .i64 0, .int .i64 0, .slice none 0 0, .int .i64 0, .int .i64 0, .slice none 0 0, .slice none 0 0, .slice none 0 0, .slice none 0 0, .slice none 0 0, .slice none 0 0] 49)) (.cells #[.int .i64 0, .int .i64 0, .int .i64 0, .int .i64 0, .int .i64 0, .int .i64 0, .int .i64 0, .slice none 0 0, .int .i64 0, .int .i64 0, .slice none 0 0, .slice none 0 0, .slice none 0 0, .slice none 0 0, .slice none 0 0, .slice none 0 0] 49))) (WB.heap.size) 0 [.int .i64 0, .int .i64 0, .int .i64 0, .int .i64 0, .int .i64 0, .int .i64 0, .int .i64 0, .slice none 0 0, .int .i64 0, .int .i64 0, .slice none 0 0, .slice none 0 0, .slice none 0 0, .slice none 0 0, .slice none 0 0, .slice none 0 0]) (WB.heap.size + 1) 49 #[.int .i64 0, .int .i64 0, .int .i64 0, .int .i64 0, .int .i64 0, .int .i64 0, .int .i64 0, .slice none 0 0, .int .i64 0, .int .i64 0, .slice none 0 0, .slice none 0 0, .slice none 0 0, .slice none 0 0, .slice none 0 0, .slice none 0 0] := blk_sets_far (by simp) (Blk.drew (blk_new_of (W := (World.alloc WB (.cells #[.int .i64 0, .int .i64 0, .int .i64 0, .int .i64 0, .int .i64 0, .int .i64 0, .int .i64 0, .slice none 0 0, .int .i64 0, .int .i64 0, .slice none 0 0, .slice none 0 0, .slice none 0 0, .slice none 0 0, .slice none 0 0, .slice none 0 0] 49))) (by simp) 49 #[.int .i64 0, .int .i64 0, .int .i64 0, .int .i64 0, .int .i64 0, .int .i64 0, .int .i64 0, .slice none 0 0, .int .i64 0, .int .i64 0, .slice none 0 0, .slice none 0 0, .slice none 0 0, .slice none 0 0, .slice none 0 0, .slice none 0 0]))
          have jB : Below WB.heap.size WB (World.setCells (World.drew (World.alloc (World.alloc WB (.cells #[.int .i64 0, .int .i64 0, .int .i64 0, .int .i64 0, .int .i64 0, .int .i64 0, .int .i64 0, .slice none 0 0, .int .i64 0, .int .i64 0, .slice none 0 0, .slice none 0 0, .slice none 0 0, .slice none 0 0, .slice none 0 0, .slice none 0 0] 49)) (.cells #[.int .i64 0, .int .i64 0, .int .i64 0, .int .i64 0, .int .i64 0, .int .i64 0, .int .i64 0, .slice none 0 0, .int .i64 0, .int .i64 0, .slice none 0 0, .slice none 0 0, .slice none 0 0, .slice none 0 0, .slice none 0 0, .slice none 0 0] 49))) (WB.heap.size) 0 [.int .i64 0, .int .i64 0, .int .i64 0, .int .i64 0, .int .i64 0, .int .i64 0, .int .i64 0, .slice none 0 0, .int .i64 0, .int .i64 0, .slice none 0 0, .slice none 0 0, .slice none 0 0, .slice none 0 0, .slice none 0 0, .slice none 0 0]) := below_sets (by simp) (Below.drew (below_alloc2 (by simp) ((below_alloc2 (by simp) ((Below.refl WB.heap.size WB)) (.cells #[.int .i64 0, .int .i64 0, .int .i64 0, .int .i64 0, .int .i64 0, .int .i64 0, .int .i64 0, .slice none 0 0, .int .i64 0, .int .i64 0, .slice none 0 0, .slice none 0 0, .slice none 0 0, .slice none 0 0, .slice none 0 0, .slice none 0 0] 49))) (.cells #[.int .i64 0, .int .i64 0, .int .i64 0, .int .i64 0, .int .i64 0, .int .i64 0, .int .i64 0, .slice none 0 0, .int .i64 0, .int .i64 0, .slice none 0 0, .slice none 0 0, .slice none 0 0, .slice none 0 0, .slice none 0 0, .slice none 0 0] 49)))
          generalize World.setCells _ _ _ _ = w6 at *
          refine hK.out _ _ ?_ (fun hHeld => ?_)
          · exact jB
          clear hK K
          (try simp only [Act.put, List.setIfInBounds_toArray, List.set_cons_zero, List.set_cons_succ])
          refine wpAnyH_ready (rs := [7]) (by kernel_rfl) (by simp) ?_
          refine AllReadyH.cons (i := 7) rfl (fun K hK => ?_) ?_
          · rw [if_pos (by rfl)]
            simp only [List.getElem_toArray, List.getElem_cons_zero, List.getElem_cons_succ]
            refine wp_store_mid _ _ _ rfl (WB.heap.size + 1) 0 (List.toArray [.int .i64 0, .int .i64 0, .int .i64 0, .int .i64 0, .int .i64 0, .int .i64 0, .int .i64 0, .slice none 0 0, .int .i64 0, .int .i64 0, .slice none 0 0, .slice none 0 0, .slice none 0 0, .slice none 0 0, .slice none 0 0, .slice none 0 0]) rfl rfl (there_of j6 (Nat.le_of_ble_eq_true rfl)) (by kernel_rfl) (by kernel_rfl) ?_
            simp only [Act.put, List.getElem_toArray, List.getElem_cons_zero, List.getElem_cons_succ, List.setIfInBounds_toArray, List.set_cons_zero, List.set_cons_succ, List.toList_toArray]
            refine hK.out _ _ ?_ (fun hHeld => ?_)
            · exact (below_sets (by have := jB.size; omega) (jB))
            clear hK K
            (try simp only [Act.put, List.setIfInBounds_toArray, List.set_cons_zero, List.set_cons_succ])
            refine wpAnyH_done (by kernel_rfl) ?_ _
            refine NoPanic.normal ?_
            go_wp2_with fail
            go_meet
            exact ⟨_, _, rfl, rfl, (blk_sets_far (by have := Blk.lt j5; omega) j5), (blk_all j6 set_state), (below_sets (by have := jB.size; omega) (jB))⟩
          exact AllReadyH.nil
        exact AllReadyH.nil
      exact AllReadyH.nil
    refine AllReadyH.cons (i := 5) rfl (fun K hK => ?_) ?_
    · go_simp
      refine hK.out _ _ ?_ (fun hHeld => ?_)
      · exact (Below.drew (below_alloc2 (by simp) ((Below.refl WB.heap.size WB)) (.cells #[.int .i64 0, .int .i64 0, .int .i64 0, .int .i64 0, .int .i64 0, .int .i64 0, .int .i64 0, .slice none 0 0, .int .i64 0, .int .i64 0, .slice none 0 0, .slice none 0 0, .slice none 0 0, .slice none 0 0, .slice none 0 0, .slice none 0 0] 49)))
      clear hK K
      (try simp only [Act.put, List.setIfInBounds_toArray, List.set_cons_zero, List.set_cons_succ])
      refine wpAnyH_ready (rs := [4]) (by kernel_rfl) (by simp) ?_
      refine AllReadyH.cons (i := 4) rfl (fun K hK => ?_) ?_
      · go_simp
        refine hK.out _ _ ?_ (fun hHeld => ?_)
        · exact (Below.drew (below_alloc2 (by simp) ((below_alloc2 (by simp) ((Below.refl WB.heap.size WB)) (.cells #[.int .i64 0, .int .i64 0, .int .i64 0, .int .i64 0, .int .i64 0, .int .i64 0, .int .i64 0, .slice none 0 0, .int .i64 0, .int .i64 0, .slice none 0 0, .slice none 0 0, .slice none 0 0, .slice none 0 0, .slice none 0 0, .slice none 0 0] 49))) (.cells #[.int .i64 0, .int .i64 0, .int .i64 0, .int .i64 0, .int .i64 0, .int .i64 0, .int .i64 0, .slice none 0 0, .int .i64 0, .int .i64 0, .slice none 0 0, .slice none 0 0, .slice none 0 0, .slice none 0 0, .slice none 0 0, .slice none 0 0] 49)))
        clear hK K
        (try simp only [Act.put, List.setIfInBounds_toArray, List.set_cons_zero, List.set_cons_succ])
        refine wpAnyH_ready (rs := [6]) (by kernel_rfl) (by simp) ?_
        refine AllReadyH.cons (i := 6) rfl (fun K hK => ?_) ?_
        · rw [if_pos (by rfl)]
          simp only [List.getElem_toArray, List.getElem_cons_zero, List.getElem_cons_succ]
          refine wp_store_mid _ _ _ rfl (WB.heap.size + 1) 0 (List.toArray [.int .i64 0, .int .i64 0, .int .i64 0, .int .i64 0, .int .i64 0, .int .i64 0, .int .i64 0, .slice none 0 0, .int .i64 0, .int .i64 0, .slice none 0 0, .slice none 0 0, .slice none 0 0, .slice none 0 0, .slice none 0 0, .slice none 0 0]) rfl rfl (there_of (Blk.drew (blk_new_of (W := (World.alloc WB (.cells #[.int .i64 0, .int .i64 0, .int .i64 0, .int .i64 0, .int .i64 0, .int .i64 0, .int .i64 0, .slice none 0 0, .int .i64 0, .int .i64 0, .slice none 0 0, .slice none 0 0, .slice none 0 0, .slice none 0 0, .slice none 0 0, .slice none 0 0] 49))) (by simp) 49 #[.int .i64 0, .int .i64 0, .int .i64 0, .int .i64 0, .int .i64 0, .int .i64 0, .int .i64 0, .slice none 0 0, .int .i64 0, .int .i64 0, .slice none 0 0, .slice none 0 0, .slice none 0 0, .slice none 0 0, .slice none 0 0, .slice none 0 0])) (Nat.le_of_ble_eq_true rfl)) (by kernel_rfl) (by kernel_rfl) ?_
          simp only [Act.put, List.getElem_toArray, List.getElem_cons_zero, List.getElem_cons_succ, List.setIfInBounds_toArray, List.set_cons_zero, List.set_cons_succ, List.toList_toArray]
          have j5 : Blk (World.setCells (World.drew (World.alloc (World.alloc WB (.cells #[.int .i64 0, .int .i64 0, .int .i64 0, .int .i64 0, .int .i64 0, .int .i64 0, .int .i64 0, .slice none 0 0, .int .i64 0, .int .i64 0, .slice none 0 0, .slice none 0 0, .slice none 0 0, .slice none 0 0, .slice none 0 0, .slice none 0 0] 49)) (.cells #[.int .i64 0, .int .i64 0, .int .i64 0, .int .i64 0, .int .i64 0, .int .i64 0, .int .i64 0, .slice none 0 0, .int .i64 0, .int .i64 0, .slice none 0 0, .slice none 0 0, .slice none 0 0, .slice none 0 0, .slice none 0 0, .slice none 0 0] 49))) (WB.heap.size + 1) 0 [.int .i64 0, .int .i64 0, .int .i64 0, .int .i64 0, .int .i64 0, .int .i64 0, .int .i64 0, .slice none 0 0, .int .i64 0, .int .i64 0, .slice none 0 0, .slice none 0 0, .slice none 0 0, .slice none 0 0, .slice none 0 0, .slice none 0 0]) (WB.heap.size + 1) 49 (List.toArray [.int .i64 0, .int .i64 0, .int .i64 0, .int .i64 0, .int .i64 0, .int .i64 0, .int .i64 0, .slice none 0 0, .int .i64 0, .int .i64 0, .slice none 0 0, .slice none 0 0, .slice none 0 0, .slice none 0 0, .slice none 0 0, .slice none 0 0]) := blk_all (Blk.drew (blk_new_of (W := (World.alloc WB (.cells #[.int .i64 0, .int .i64 0, .int .i64 0, .int .i64 0, .int .i64 0, .int .i64 0, .int .i64 0, .slice none 0 0, .int .i64 0, .int .i64 0, .slice none 0 0, .slice none 0 0, .slice none 0 0, .slice none 0 0, .slice none 0 0, .slice none 0 0] 49))) (by simp) 49 #[.int .i64 0, .int .i64 0, .int .i64 0, .int .i64 0, .int .i64 0, .int .i64 0, .int .i64 0, .slice none 0 0, .int .i64 0, .int .i64 0, .slice none 0 0, .slice none 0 0, .slice none 0 0, .slice none 0 0, .slice none 0 0, .slice none 0 0])) set_state
          have j6 : Blk (World.setCells (World.drew (World.alloc (World.alloc WB (.cells #[.int .i64 0, .int .i64 0, .int .i64 0, .int .i64 0, .int .i64 0, .int .i64 0, .int .i64 0, .slice none 0 0, .int .i64 0, .int .i64 0, .slice none 0 0, .slice none 0 0, .slice none 0 0, .slice none 0 0, .slice none 0 0, .slice none 0 0] 49)) (.cells #[.int .i64 0, .int .i64 0, .int .i64 0, .int .i64 0, .int .i64 0, .int .i64 0, .int .i64 0, .slice none 0 0, .int .i64 0, .int .i64 0, .slice none 0 0, .slice none 0 0, .slice none 0 0, .slice none 0 0, .slice none 0 0, .slice none 0 0] 49))) (WB.heap.size + 1) 0 [.int .i64 0, .int .i64 0, .int .i64 0, .int .i64 0, .int .i64 0, .int .i64 0, .int .i64 0, .slice none 0 0, .int .i64 0, .int .i64 0, .slice none 0 0, .slice none 0 0, .slice none 0 0, .slice none 0 0, .slice none 0 0, .slice none 0 0]) (WB.heap.size) 49 #[.int .i64 0, .int .i64 0, .int .i64 0, .int .i64 0, .int .i64 0, .int .i64 0, .int .i64 0, .slice none 0 0, .int .i64 0, .int .i64 0, .slice none 0 0, .slice none 0 0, .slice none 0 0, .slice none 0 0, .slice none 0 0, .slice none 0 0] := blk_sets_far (by simp) (Blk.drew (Blk.alloc (Blk.new WB 49 #[.int .i64 0, .int .i64 0, .int .i64 0, .int .i64 0, .int .i64 0, .int .i64 0, .int .i64 0, .slice none 0 0, .int .i64 0, .int .i64 0, .slice none 0 0, .slice none 0 0, .slice none 0 0, .slice none 0 0, .slice none 0 0, .slice none 0 0]) (.cells #[.int .i64 0, .int .i64 0, .int .i64 0, .int .i64 0, .int .i64 0, .int .i64 0, .int .i64 0, .slice none 0 0, .int .i64 0, .int .i64 0, .slice none 0 0, .slice none 0 0, .slice none 0 0, .slice none 0 0, .slice none 0 0, .slice none 0 0] 49)))
          have jB : Below WB.heap.size WB (World.setCells (World.drew (World.alloc (World.alloc WB (.cells #[.int .i64 0, .int .i64 0, .int .i64 0, .int .i64 0, .int .i64 0, .int .i64 0, .int .i64 0, .slice none 0 0, .int .i64 0, .int .i64 0, .slice none 0 0, .slice none 0 0, .slice none 0 0, .slice none 0 0, .slice none 0 0, .slice none 0 0] 49)) (.cells #[.int .i64 0, .int .i64 0, .int .i64 0, .int .i64 0, .int .i64 0, .int .i64 0, .int .i64 0, .slice none 0 0, .int .i64 0, .int .i64 0, .slice none 0 0, .slice none 0 0, .slice none 0 0, .slice none 0 0, .slice none 0 0, .slice none 0 0] 49))) (WB.heap.size + 1) 0 [.int .i64 0, .int .i64 0, .int .i64 0, .int .i64 0, .int .i64 0, .int .i64 0, .int .i64 0, .slice none 0 0, .int .i64 0, .int .i64 0, .slice none 0 0, .slice none 0 0, .slice none 0 0, .slice none 0 0, .slice none 0 0, .slice none 0 0]) := below_sets (by simp) (Below.drew (below_alloc2 (by simp) ((below_alloc2 (by simp) ((Below.refl WB.heap.size WB)) (.cells #[.int .i64 0, .int .i64 0, .int .i64 0, .int .i64 0, .int .i64 0, .int .i64 0, .int .i64 0, .slice none 0 0, .int .i64 0, .int .i64 0, .slice none 0 0, .slice none 0 0, .slice none 0 0, .slice none 0 0, .slice none 0 0, .slice none 0 0] 49))) (.cells #[.int .i64 0, .int .i64 0, .int .i64 0, .int .i64 0, .int .i64 0, .int .i64 0, .int .i64 0, .slice none 0 0, .int .i64 0, .int .i64 0, .slice none 0 0, .slice none 0 0, .slice none 0 0, .slice none 0 0, .slice none 0 0, .slice none 0 0] 49)))
          generalize World.setCells _ _ _ _ = w6 at *
          refine hK.out _ _ ?_ (fun hHeld => ?_)
          · exact jB
          clear hK K
          (try simp only [Act.put, List.setIfInBounds_toArray, List.set_cons_zero, List.set_cons_succ])
          refine wpAnyH_ready (rs := [7]) (by kernel_rfl) (by simp) ?_
          refine AllReadyH.cons (i := 7) rfl (fun K hK => ?_) ?_
          · rw [if_pos (by rfl)]
            simp only [List.getElem_toArray, List.getElem_cons_zero, List.getElem_cons_succ]
            refine wp_store_mid _ _ _ rfl (WB.heap.size) 0 (List.toArray [.int .i64 0, .int .i64 0, .int .i64 0, .int .i64 0, .int .i64 0, .int .i64 0, .int .i64 0, .slice none 0 0, .int .i64 0, .int .i64 0, .slice none 0 0, .slice none 0 0, .slice none 0 0, .slice none 0 0, .slice none 0 0, .slice none 0 0]) rfl rfl (there_of j6 (Nat.le_of_ble_eq_true rfl)) (by kernel_rfl) (by kernel_rfl) ?_
            simp only [Act.put, List.getElem_toArray, List.getElem_cons_zero, List.getElem_cons_succ, List.setIfInBounds_toArray, List.set_cons_zero, List.set_cons_succ, List.toList_toArray]
            refine hK.out _ _ ?_ (fun hHeld => ?_)
            · exact (below_sets (by have := jB.size; omega) (jB))
            clear hK K
            (try simp only [Act.put, List.setIfInBounds_toArray, List.set_cons_zero, List.set_cons_succ])
            refine wpAnyH_done (by kernel_rfl) ?_ _
            refine NoPanic.normal ?_
            go_wp2_with fail
            go_meet
            exact ⟨_, _, rfl, rfl, (blk_sets_far (by have := Blk.lt j5; omega) j5), (blk_all j6 set_state), (below_sets (by have := jB.size; omega) (jB))⟩
          exact AllReadyH.nil
        exact AllReadyH.nil
      exact AllReadyH.nil
    exact AllReadyH.nil
  case rest =>
    obtain ⟨g5, g6, rfl, rfl, k5, k6, hB5⟩ := hcut
    have KA2 := Lib.hid (KA.out.below hB5 KA.out.lt)
    have KB2 := Lib.hid (KB.out.below hB5 KB.out.lt)
    have HB2 := Lib.hid (below_up HB.out hB5)
    have K5 := Lib.hid k5
    have K6 := Lib.hid k6
    have a0 : wc.cell? ⟨w.heap.size, 0, none⟩ = some (.int .i64 0) := KA2.out.cell 0
    have b0 : wc.cell? ⟨w.heap.size + 1, 0, none⟩ = some (.int .i64 0) := KB2.out.cell 0
    have p0 : wc.cell? ⟨g5, 0, none⟩ = some (.int .i64 0) := k5.cell 0
    have p1 : wc.cell? ⟨g5, 1, none⟩ = some (.int .i64 0) := k5.cell 1
    have p2 : wc.cell? ⟨g5, 2, none⟩ = some (.int .i64 0) := k5.cell 2
    have p3 : wc.cell? ⟨g5, 3, none⟩ = some (.int .i64 0) := k5.cell 3
    have p4 : wc.cell? ⟨g5, 4, none⟩ = some (.int .i64 0) := k5.cell 4
    have p5 : wc.cell? ⟨g5, 5, none⟩ = some (.int .i64 0) := k5.cell 5
    have p6 : wc.cell? ⟨g5, 6, none⟩ = some (.int .i64 0) := k5.cell 6
    have p7 : wc.cell? ⟨g5, 7, none⟩ = some (.slice none 0 0) := k5.cell 7
    have q0 : wc.cell? ⟨g6, 0, none⟩ = some (.int .i64 0) := k6.cell 0
    have q1 : wc.cell? ⟨g6, 1, none⟩ = some (.int .i64 0) := k6.cell 1
    have q2 : wc.cell? ⟨g6, 2, none⟩ = some (.int .i64 0) := k6.cell 2
    have q3 : wc.cell? ⟨g6, 3, none⟩ = some (.int .i64 0) := k6.cell 3
    have q4 : wc.cell? ⟨g6, 4, none⟩ = some (.int .i64 0) := k6.cell 4
    have q5 : wc.cell? ⟨g6, 5, none⟩ = some (.int .i64 0) := k6.cell 5
    have q6 : wc.cell? ⟨g6, 6, none⟩ = some (.int .i64 0) := k6.cell 6
    have q7 : wc.cell? ⟨g6, 7, none⟩ = some (.slice none 0 0) := k6.cell 7
    clear hB5 k5 k6 KA KB HB HRA HRB
    go_wp2_with fail
    refine (configsZ _).mono ?_
    rintro e w2 ⟨rfl, hB2⟩
    have KA3 := Lib.hid (KA2.out.below hB2 KA2.out.lt)
    have KB3 := Lib.hid (KB2.out.below hB2 KB2.out.lt)
    have HB3 := Lib.hid (below_up HB2.out hB2)
    have K5_3 := Lib.hid (K5.out.below hB2 K5.out.lt)
    have K6_3 := Lib.hid (K6.out.below hB2 K6.out.lt)
    clear hB2 KA2 KB2 HB2 K5 K6 a0 b0 p0 q0 p1 q1 p2 q2 p3 q3 p4 q4 p5 q5 p6 q6 p7 q7
    have p8 : w2.cell? ⟨g5, 8, none⟩ = some (.int .i64 0) := K5_3.out.cell 8
    have p9 : w2.cell? ⟨g5, 9, none⟩ = some (.int .i64 0) := K5_3.out.cell 9
    have p10 : w2.cell? ⟨g5, 10, none⟩ = some (.slice none 0 0) := K5_3.out.cell 10
    have q8 : w2.cell? ⟨g6, 8, none⟩ = some (.int .i64 0) := K6_3.out.cell 8
    have q9 : w2.cell? ⟨g6, 9, none⟩ = some (.int .i64 0) := K6_3.out.cell 9
    have q10 : w2.cell? ⟨g6, 10, none⟩ = some (.slice none 0 0) := K6_3.out.cell 10
    go_wp2_with fail
    refine (jobsNil _).mono ?_
    rintro e w3 ⟨rfl, hB3⟩
    have KA4 := Lib.hid (KA3.out.below hB3 KA3.out.lt)
    have KB4 := Lib.hid (KB3.out.below hB3 KB3.out.lt)
    have HB4 := Lib.hid (below_up HB3.out hB3)
    have K5_4 := Lib.hid (K5_3.out.below hB3 K5_3.out.lt)
    have K6_4 := Lib.hid (K6_3.out.below hB3 K6_3.out.lt)
    clear hB3 KA3 KB3 HB3 K5_3 K6_3 p8 q8 p9 q9 p10 q10
    have p11 : w3.cell? ⟨g5, 11, none⟩ = some (.slice none 0 0) := K5_4.out.cell 11
    have q11 : w3.cell? ⟨g6, 11, none⟩ = some (.slice none 0 0) := K6_4.out.cell 11
    go_wp2_with fail
    refine (partsNil _).mono ?_
    rintro e w4 ⟨rfl, hB4⟩
    have KA5 := Lib.hid (KA4.out.below hB4 KA4.out.lt)
    have KB5 := Lib.hid (KB4.out.below hB4 KB4.out.lt)
    have HB5 := Lib.hid (below_up HB4.out hB4)
    have K5_5 := Lib.hid (K5_4.out.below hB4 K5_4.out.lt)
    have K6_5 := Lib.hid (K6_4.out.below hB4 K6_4.out.lt)
    clear hB4 KA4 KB4 HB4 K5_4 K6_4 p11 q11
    have p12 : w4.cell? ⟨g5, 12, none⟩ = some (.slice none 0 0) := K5_5.out.cell 12
    have q12 : w4.cell? ⟨g6, 12, none⟩ = some (.slice none 0 0) := K6_5.out.cell 12
    go_wp2_with fail
    refine (keepsNil _).mono ?_
    rintro e w5 ⟨rfl, hB5⟩
    have KA6 := Lib.hid (KA5.out.below hB5 KA5.out.lt)
    have KB6 := Lib.hid (KB5.out.below hB5 KB5.out.lt)
    have HB6 := Lib.hid (below_up HB5.out hB5)
    have K5_6 := Lib.hid (K5_5.out.below hB5 K5_5.out.lt)
    have K6_6 := Lib.hid (K6_5.out.below hB5 K6_5.out.lt)
    clear hB5 KA5 KB5 HB5 K5_5 K6_5 p12 q12
    have p13 : w5.cell? ⟨g5, 13, none⟩ = some (.slice none 0 0) := K5_6.out.cell 13
    have q13 : w5.cell? ⟨g6, 13, none⟩ = some (.slice none 0 0) := K6_6.out.cell 13
    go_wp2_with fail
    refine (nilEq _).mono ?_
    rintro e w6 ⟨rfl, hB6⟩
    have KA7 := Lib.hid (KA6.out.below hB6 KA6.out.lt)
    have KB7 := Lib.hid (KB6.out.below hB6 KB6.out.lt)
    have HB7 := Lib.hid (below_up HB6.out hB6)
    have K5_7 := Lib.hid (K5_6.out.below hB6 K5_6.out.lt)
    have K6_7 := Lib.hid (K6_6.out.below hB6 K6_6.out.lt)
    clear hB6 KA6 KB6 HB6 K5_6 K6_6 p13 q13
    have p14 : w6.cell? ⟨g5, 14, none⟩ = some (.slice none 0 0) := K5_7.out.cell 14
    have q14 : w6.cell? ⟨g6, 14, none⟩ = some (.slice none 0 0) := K6_7.out.cell 14
    go_wp2_with fail
    refine (nilEq _).mono ?_
    rintro e w7 ⟨rfl, hB7⟩
    have KA8 := Lib.hid (KA7.out.below hB7 KA7.out.lt)
    have KB8 := Lib.hid (KB7.out.below hB7 KB7.out.lt)
    have HB8 := Lib.hid (below_up HB7.out hB7)
    have K5_8 := Lib.hid (K5_7.out.below hB7 K5_7.out.lt)
    have K6_8 := Lib.hid (K6_7.out.below hB7 K6_7.out.lt)
    clear hB7 KA7 KB7 HB7 K5_7 K6_7 p14 q14
    have p15 : w7.cell? ⟨g5, 15, none⟩ = some (.slice none 0 0) := K5_8.out.cell 15
    have q15 : w7.cell? ⟨g6, 15, none⟩ = some (.slice none 0 0) := K6_8.out.cell 15
    go_wp2_with fail
    refine (nilEq _).mono ?_
    rintro e w8 ⟨rfl, hB8⟩
    have KA9 := Lib.hid (KA8.out.below hB8 KA8.out.lt)
    have KB9 := Lib.hid (KB8.out.below hB8 KB8.out.lt)
    have HB9 := Lib.hid (below_up HB8.out hB8)
    have K5_9 := Lib.hid (K5_8.out.below hB8 K5_8.out.lt)
    have K6_9 := Lib.hid (K6_8.out.below hB8 K6_8.out.lt)
    clear hB8 KA8 KB8 HB8 K5_8 K6_8 p15 q15


    go_wp2_with fail
    have HRA := Lib.hid (show w8.rangeAt w.heap.size 17 [.int .u8 c.kd, .int .i64 c.id, .int .i64 c.us, .int .i64 c.cl, .int .i64 c.a, .int .i64 c.b, .int .i64 c.c, .bool c.p, .bool c.q, .bool c.r, .bool c.tn, .int .i64 c.wa, .int .i64 c.pr, .bool c.he, .slice Y c.af.length cy, .int .u8 c.st, .int .i64 c.ca, .int .i64 c.ci, .int .i64 c.b0, .int .i64 c.b1, .int .i64 c.b2, .int .i64 c.b3, .int .i64 c.b4, .int .i64 c.b5, .int .i64 c.fr, .int .i64 c.to, .int .i64 c.n, .bool c.we] from range_part (n := 28) KA9.out rfl)
    have HRB := Lib.hid (show w8.rangeAt (w.heap.size + 1) 17 [.int .u8 d.kd, .int .i64 d.id, .int .i64 d.us, .int .i64 d.cl, .int .i64 d.a, .int .i64 d.b, .int .i64 d.c, .bool d.p, .bool d.q, .bool d.r, .bool d.tn, .int .i64 d.wa, .int .i64 d.pr, .bool d.he, .slice Z d.af.length cz, .int .u8 d.st, .int .i64 d.ca, .int .i64 d.ci, .int .i64 d.b0, .int .i64 d.b1, .int .i64 d.b2, .int .i64 d.b3, .int .i64 d.b4, .int .i64 d.b5, .int .i64 d.fr, .int .i64 d.to, .int .i64 d.n, .bool d.we] from range_part (n := 28) KB9.out rfl)
    go_cut [9, 10] from 81 to 84 (fun s5 s6 wx => ∃ g5 g6 : Nat, s5 = .pointer (some ⟨g5, 0, none⟩) ∧ s6 = .pointer (some ⟨g6, 0, none⟩) ∧ Blk wx g5 34 (List.toArray [.int .u8 c.kd, .int .i64 c.id, .int .i64 c.us, .int .i64 c.cl, .int .i64 c.a, .int .i64 c.b, .int .i64 c.c, .bool c.p, .bool c.q, .bool c.r, .bool c.tn, .int .i64 c.wa, .int .i64 c.pr, .bool c.he, .slice Y c.af.length cy, .int .u8 c.st, .int .i64 c.ca, .int .i64 c.ci, .int .i64 c.b0, .int .i64 c.b1, .int .i64 c.b2, .int .i64 c.b3, .int .i64 c.b4, .int .i64 c.b5, .int .i64 c.fr, .int .i64 c.to, .int .i64 c.n, .bool c.we]) ∧ Blk wx g6 34 (List.toArray [.int .u8 d.kd, .int .i64 d.id, .int .i64 d.us, .int .i64 d.cl, .int .i64 d.a, .int .i64 d.b, .int .i64 d.c, .bool d.p, .bool d.q, .bool d.r, .bool d.tn, .int .i64 d.wa, .int .i64 d.pr, .bool d.he, .slice Z d.af.length cz, .int .u8 d.st, .int .i64 d.ca, .int .i64 d.ci, .int .i64 d.b0, .int .i64 d.b1, .int .i64 d.b2, .int .i64 d.b3, .int .i64 d.b4, .int .i64 d.b5, .int .i64 d.fr, .int .i64 d.to, .int .i64 d.n, .bool d.we]) ∧ Below w8.heap.size w8 wx)
    case first =>
      refine wp_region_noPanic ?_
      refine wp_region_held_drew (S := (fun W => Below w8.heap.size w8 W)) (by kernel_rfl) ?_ (fun hHeld => ?_)
      · exact (Below.refl _ _).drew
      refine' wpAnyH_take (i := 0) (v := ?v5) rfl (by kernel_rfl) (by kernel_rfl) (by kernel_rfl) (fun _ _ _ h => h) (Or.inl ⟨by rfl, ?y5⟩) (by assumption) ?r5
      case y5 => (intro W hSw; (try dsimp only at hSw); go_simp; try with_reducible rfl)
      (try simp only [Act.put, List.setIfInBounds_toArray, List.set_cons_zero, List.set_cons_succ])
      refine' wpAnyH_take (i := 1) (v := _) rfl (by kernel_rfl) (by kernel_rfl) (by kernel_rfl) (fun _ _ _ h => h) (yieldsIf_load_mid (by rfl) _ _ rfl _ _ rfl [.int .u8 c.kd, .int .i64 c.id, .int .i64 c.us, .int .i64 c.cl, .int .i64 c.a, .int .i64 c.b, .int .i64 c.c, .bool c.p, .bool c.q, .bool c.r, .bool c.tn, .int .i64 c.wa, .int .i64 c.pr, .bool c.he, .slice Y c.af.length cy, .int .u8 c.st, .int .i64 c.ca, .int .i64 c.ci, .int .i64 c.b0, .int .i64 c.b1, .int .i64 c.b2, .int .i64 c.b3, .int .i64 c.b4, .int .i64 c.b5, .int .i64 c.fr, .int .i64 c.to, .int .i64 c.n, .bool c.we] _ (fun W hW => range_up HRA.out hW) Try.underlying34 rfl (by kernel_rfl)) (by assumption) ?r6
      (try simp only [Act.put, List.setIfInBounds_toArray, List.set_cons_zero, List.set_cons_succ])
      refine' wpAnyH_take (i := 2) (v := ?v7) rfl (by kernel_rfl) (by kernel_rfl) (by kernel_rfl) (fun _ _ _ h => h) (Or.inl ⟨by rfl, ?y7⟩) (by assumption) ?r7
      case y7 => (intro W hSw; (try dsimp only at hSw); go_simp; try with_reducible rfl)
      (try simp only [Act.put, List.setIfInBounds_toArray, List.set_cons_zero, List.set_cons_succ])
      refine' wpAnyH_take (i := 3) (v := _) rfl (by kernel_rfl) (by kernel_rfl) (by kernel_rfl) (fun _ _ _ h => h) (yieldsIf_load_mid (by rfl) _ _ rfl _ _ rfl [.int .u8 d.kd, .int .i64 d.id, .int .i64 d.us, .int .i64 d.cl, .int .i64 d.a, .int .i64 d.b, .int .i64 d.c, .bool d.p, .bool d.q, .bool d.r, .bool d.tn, .int .i64 d.wa, .int .i64 d.pr, .bool d.he, .slice Z d.af.length cz, .int .u8 d.st, .int .i64 d.ca, .int .i64 d.ci, .int .i64 d.b0, .int .i64 d.b1, .int .i64 d.b2, .int .i64 d.b3, .int .i64 d.b4, .int .i64 d.b5, .int .i64 d.fr, .int .i64 d.to, .int .i64 d.n, .bool d.we] _ (fun W hW => range_up HRB.out hW) Try.underlying34 rfl (by kernel_rfl)) (by assumption) ?r8
      (try simp only [Act.put, List.setIfInBounds_toArray, List.set_cons_zero, List.set_cons_succ])
      refine wpAnyH_ready (rs := [4, 5]) (by kernel_rfl) (by simp) ?_
      refine AllReadyH.cons (i := 4) rfl (fun K hK => ?_) ?_
      · go_simp
        refine hK.out _ _ ?_ (fun hHeld => ?_)
        · exact (Below.drew (below_alloc2 (by simp) ((Below.refl w8.heap.size w8)) (.cells #[.int .u8 0, .int .i64 0, .int .i64 0, .int .i64 0, .int .i64 0, .int .i64 0, .int .i64 0, .bool false, .bool false, .bool false, .bool false, .int .i64 0, .int .i64 0, .bool false, .slice none 0 0, .int .u8 0, .int .i64 0, .int .i64 0, .int .i64 0, .int .i64 0, .int .i64 0, .int .i64 0, .int .i64 0, .int .i64 0, .int .i64 0, .int .i64 0, .int .i64 0, .bool false] 34)))
        clear hK K
        (try simp only [Act.put, List.setIfInBounds_toArray, List.set_cons_zero, List.set_cons_succ])
        refine wpAnyH_ready (rs := [5]) (by kernel_rfl) (by simp) ?_
        refine AllReadyH.cons (i := 5) rfl (fun K hK => ?_) ?_
        · go_simp
          refine hK.out _ _ ?_ (fun hHeld => ?_)
          · exact (Below.drew (below_alloc2 (by simp) ((below_alloc2 (by simp) ((Below.refl w8.heap.size w8)) (.cells #[.int .u8 0, .int .i64 0, .int .i64 0, .int .i64 0, .int .i64 0, .int .i64 0, .int .i64 0, .bool false, .bool false, .bool false, .bool false, .int .i64 0, .int .i64 0, .bool false, .slice none 0 0, .int .u8 0, .int .i64 0, .int .i64 0, .int .i64 0, .int .i64 0, .int .i64 0, .int .i64 0, .int .i64 0, .int .i64 0, .int .i64 0, .int .i64 0, .int .i64 0, .bool false] 34))) (.cells #[.int .u8 0, .int .i64 0, .int .i64 0, .int .i64 0, .int .i64 0, .int .i64 0, .int .i64 0, .bool false, .bool false, .bool false, .bool false, .int .i64 0, .int .i64 0, .bool false, .slice none 0 0, .int .u8 0, .int .i64 0, .int .i64 0, .int .i64 0, .int .i64 0, .int .i64 0, .int .i64 0, .int .i64 0, .int .i64 0, .int .i64 0, .int .i64 0, .int .i64 0, .bool false] 34)))
          clear hK K
          (try simp only [Act.put, List.setIfInBounds_toArray, List.set_cons_zero, List.set_cons_succ])
          refine wpAnyH_ready (rs := [6]) (by kernel_rfl) (by simp) ?_
          refine AllReadyH.cons (i := 6) rfl (fun K hK => ?_) ?_
          · rw [if_pos (by rfl)]
            simp only [List.getElem_toArray, List.getElem_cons_zero, List.getElem_cons_succ]
            refine wp_store_mid _ _ _ rfl (w8.heap.size) 0 (List.toArray [.int .u8 c.kd, .int .i64 c.id, .int .i64 c.us, .int .i64 c.cl, .int .i64 c.a, .int .i64 c.b, .int .i64 c.c, .bool c.p, .bool c.q, .bool c.r, .bool c.tn, .int .i64 c.wa, .int .i64 c.pr, .bool c.he, .slice Y c.af.length cy, .int .u8 c.st, .int .i64 c.ca, .int .i64 c.ci, .int .i64 c.b0, .int .i64 c.b1, .int .i64 c.b2, .int .i64 c.b3, .int .i64 c.b4, .int .i64 c.b5, .int .i64 c.fr, .int .i64 c.to, .int .i64 c.n, .bool c.we]) rfl rfl (there_of (Blk.drew (Blk.alloc (Blk.new w8 34 #[.int .u8 0, .int .i64 0, .int .i64 0, .int .i64 0, .int .i64 0, .int .i64 0, .int .i64 0, .bool false, .bool false, .bool false, .bool false, .int .i64 0, .int .i64 0, .bool false, .slice none 0 0, .int .u8 0, .int .i64 0, .int .i64 0, .int .i64 0, .int .i64 0, .int .i64 0, .int .i64 0, .int .i64 0, .int .i64 0, .int .i64 0, .int .i64 0, .int .i64 0, .bool false]) (.cells #[.int .u8 0, .int .i64 0, .int .i64 0, .int .i64 0, .int .i64 0, .int .i64 0, .int .i64 0, .bool false, .bool false, .bool false, .bool false, .int .i64 0, .int .i64 0, .bool false, .slice none 0 0, .int .u8 0, .int .i64 0, .int .i64 0, .int .i64 0, .int .i64 0, .int .i64 0, .int .i64 0, .int .i64 0, .int .i64 0, .int .i64 0, .int .i64 0, .int .i64 0, .bool false] 34))) (Nat.le_of_ble_eq_true rfl)) (by kernel_rfl) (by kernel_rfl) ?_
            simp only [Act.put, List.getElem_toArray, List.getElem_cons_zero, List.getElem_cons_succ, List.setIfInBounds_toArray, List.set_cons_zero, List.set_cons_succ, List.toList_toArray]
            have j5 : Blk (World.setCells (World.drew (World.alloc (World.alloc w8 (.cells #[.int .u8 0, .int .i64 0, .int .i64 0, .int .i64 0, .int .i64 0, .int .i64 0, .int .i64 0, .bool false, .bool false, .bool false, .bool false, .int .i64 0, .int .i64 0, .bool false, .slice none 0 0, .int .u8 0, .int .i64 0, .int .i64 0, .int .i64 0, .int .i64 0, .int .i64 0, .int .i64 0, .int .i64 0, .int .i64 0, .int .i64 0, .int .i64 0, .int .i64 0, .bool false] 34)) (.cells #[.int .u8 0, .int .i64 0, .int .i64 0, .int .i64 0, .int .i64 0, .int .i64 0, .int .i64 0, .bool false, .bool false, .bool false, .bool false, .int .i64 0, .int .i64 0, .bool false, .slice none 0 0, .int .u8 0, .int .i64 0, .int .i64 0, .int .i64 0, .int .i64 0, .int .i64 0, .int .i64 0, .int .i64 0, .int .i64 0, .int .i64 0, .int .i64 0, .int .i64 0, .bool false] 34))) (w8.heap.size) 0 [.int .u8 c.kd, .int .i64 c.id, .int .i64 c.us, .int .i64 c.cl, .int .i64 c.a, .int .i64 c.b, .int .i64 c.c, .bool c.p, .bool c.q, .bool c.r, .bool c.tn, .int .i64 c.wa, .int .i64 c.pr, .bool c.he, .slice Y c.af.length cy, .int .u8 c.st, .int .i64 c.ca, .int .i64 c.ci, .int .i64 c.b0, .int .i64 c.b1, .int .i64 c.b2, .int .i64 c.b3, .int .i64 c.b4, .int .i64 c.b5, .int .i64 c.fr, .int .i64 c.to, .int .i64 c.n, .bool c.we]) (w8.heap.size) 34 (List.toArray [.int .u8 c.kd, .int .i64 c.id, .int .i64 c.us, .int .i64 c.cl, .int .i64 c.a, .int .i64 c.b, .int .i64 c.c, .bool c.p, .bool c.q, .bool c.r, .bool c.tn, .int .i64 c.wa, .int .i64 c.pr, .bool c.he, .slice Y c.af.length cy, .int .u8 c.st, .int .i64 c.ca, .int .i64 c.ci, .int .i64 c.b0, .int .i64 c.b1, .int .i64 c.b2, .int .i64 c.b3, .int .i64 c.b4, .int .i64 c.b5, .int .i64 c.fr, .int .i64 c.to, .int .i64 c.n, .bool c.we]) := blk_all (Blk.drew (Blk.alloc (Blk.new w8 34 #[.int .u8 0, .int .i64 0, .int .i64 0, .int .i64 0, .int .i64 0, .int .i64 0, .int .i64 0, .bool false, .bool false, .bool false, .bool false, .int .i64 0, .int .i64 0, .bool false, .slice none 0 0, .int .u8 0, .int .i64 0, .int .i64 0, .int .i64 0, .int .i64 0, .int .i64 0, .int .i64 0, .int .i64 0, .int .i64 0, .int .i64 0, .int .i64 0, .int .i64 0, .bool false]) (.cells #[.int .u8 0, .int .i64 0, .int .i64 0, .int .i64 0, .int .i64 0, .int .i64 0, .int .i64 0, .bool false, .bool false, .bool false, .bool false, .int .i64 0, .int .i64 0, .bool false, .slice none 0 0, .int .u8 0, .int .i64 0, .int .i64 0, .int .i64 0, .int .i64 0, .int .i64 0, .int .i64 0, .int .i64 0, .int .i64 0, .int .i64 0, .int .i64 0, .int .i64 0, .bool false] 34))) (set_cmd c Y cy)
            have j6 : Blk (World.setCells (World.drew (World.alloc (World.alloc w8 (.cells #[.int .u8 0, .int .i64 0, .int .i64 0, .int .i64 0, .int .i64 0, .int .i64 0, .int .i64 0, .bool false, .bool false, .bool false, .bool false, .int .i64 0, .int .i64 0, .bool false, .slice none 0 0, .int .u8 0, .int .i64 0, .int .i64 0, .int .i64 0, .int .i64 0, .int .i64 0, .int .i64 0, .int .i64 0, .int .i64 0, .int .i64 0, .int .i64 0, .int .i64 0, .bool false] 34)) (.cells #[.int .u8 0, .int .i64 0, .int .i64 0, .int .i64 0, .int .i64 0, .int .i64 0, .int .i64 0, .bool false, .bool false, .bool false, .bool false, .int .i64 0, .int .i64 0, .bool false, .slice none 0 0, .int .u8 0, .int .i64 0, .int .i64 0, .int .i64 0, .int .i64 0, .int .i64 0, .int .i64 0, .int .i64 0, .int .i64 0, .int .i64 0, .int .i64 0, .int .i64 0, .bool false] 34))) (w8.heap.size) 0 [.int .u8 c.kd, .int .i64 c.id, .int .i64 c.us, .int .i64 c.cl, .int .i64 c.a, .int .i64 c.b, .int .i64 c.c, .bool c.p, .bool c.q, .bool c.r, .bool c.tn, .int .i64 c.wa, .int .i64 c.pr, .bool c.he, .slice Y c.af.length cy, .int .u8 c.st, .int .i64 c.ca, .int .i64 c.ci, .int .i64 c.b0, .int .i64 c.b1, .int .i64 c.b2, .int .i64 c.b3, .int .i64 c.b4, .int .i64 c.b5, .int .i64 c.fr, .int .i64 c.to, .int .i64 c.n, .bool c.we]) (w8.heap.size + 1) 34 #[.int .u8 0, .int .i64 0, .int .i64 0, .int .i64 0, .int .i64 0, .int .i64 0, .int .i64 0, .bool false, .bool false, .bool false, .bool false, .int .i64 0, .int .i64 0, .bool false, .slice none 0 0, .int .u8 0, .int .i64 0, .int .i64 0, .int .i64 0, .int .i64 0, .int .i64 0, .int .i64 0, .int .i64 0, .int .i64 0, .int .i64 0, .int .i64 0, .int .i64 0, .bool false] := blk_sets_far (by simp) (Blk.drew (blk_new_of (W := (World.alloc w8 (.cells #[.int .u8 0, .int .i64 0, .int .i64 0, .int .i64 0, .int .i64 0, .int .i64 0, .int .i64 0, .bool false, .bool false, .bool false, .bool false, .int .i64 0, .int .i64 0, .bool false, .slice none 0 0, .int .u8 0, .int .i64 0, .int .i64 0, .int .i64 0, .int .i64 0, .int .i64 0, .int .i64 0, .int .i64 0, .int .i64 0, .int .i64 0, .int .i64 0, .int .i64 0, .bool false] 34))) (by simp) 34 #[.int .u8 0, .int .i64 0, .int .i64 0, .int .i64 0, .int .i64 0, .int .i64 0, .int .i64 0, .bool false, .bool false, .bool false, .bool false, .int .i64 0, .int .i64 0, .bool false, .slice none 0 0, .int .u8 0, .int .i64 0, .int .i64 0, .int .i64 0, .int .i64 0, .int .i64 0, .int .i64 0, .int .i64 0, .int .i64 0, .int .i64 0, .int .i64 0, .int .i64 0, .bool false]))
            have jB : Below w8.heap.size w8 (World.setCells (World.drew (World.alloc (World.alloc w8 (.cells #[.int .u8 0, .int .i64 0, .int .i64 0, .int .i64 0, .int .i64 0, .int .i64 0, .int .i64 0, .bool false, .bool false, .bool false, .bool false, .int .i64 0, .int .i64 0, .bool false, .slice none 0 0, .int .u8 0, .int .i64 0, .int .i64 0, .int .i64 0, .int .i64 0, .int .i64 0, .int .i64 0, .int .i64 0, .int .i64 0, .int .i64 0, .int .i64 0, .int .i64 0, .bool false] 34)) (.cells #[.int .u8 0, .int .i64 0, .int .i64 0, .int .i64 0, .int .i64 0, .int .i64 0, .int .i64 0, .bool false, .bool false, .bool false, .bool false, .int .i64 0, .int .i64 0, .bool false, .slice none 0 0, .int .u8 0, .int .i64 0, .int .i64 0, .int .i64 0, .int .i64 0, .int .i64 0, .int .i64 0, .int .i64 0, .int .i64 0, .int .i64 0, .int .i64 0, .int .i64 0, .bool false] 34))) (w8.heap.size) 0 [.int .u8 c.kd, .int .i64 c.id, .int .i64 c.us, .int .i64 c.cl, .int .i64 c.a, .int .i64 c.b, .int .i64 c.c, .bool c.p, .bool c.q, .bool c.r, .bool c.tn, .int .i64 c.wa, .int .i64 c.pr, .bool c.he, .slice Y c.af.length cy, .int .u8 c.st, .int .i64 c.ca, .int .i64 c.ci, .int .i64 c.b0, .int .i64 c.b1, .int .i64 c.b2, .int .i64 c.b3, .int .i64 c.b4, .int .i64 c.b5, .int .i64 c.fr, .int .i64 c.to, .int .i64 c.n, .bool c.we]) := below_sets (by simp) (Below.drew (below_alloc2 (by simp) ((below_alloc2 (by simp) ((Below.refl w8.heap.size w8)) (.cells #[.int .u8 0, .int .i64 0, .int .i64 0, .int .i64 0, .int .i64 0, .int .i64 0, .int .i64 0, .bool false, .bool false, .bool false, .bool false, .int .i64 0, .int .i64 0, .bool false, .slice none 0 0, .int .u8 0, .int .i64 0, .int .i64 0, .int .i64 0, .int .i64 0, .int .i64 0, .int .i64 0, .int .i64 0, .int .i64 0, .int .i64 0, .int .i64 0, .int .i64 0, .bool false] 34))) (.cells #[.int .u8 0, .int .i64 0, .int .i64 0, .int .i64 0, .int .i64 0, .int .i64 0, .int .i64 0, .bool false, .bool false, .bool false, .bool false, .int .i64 0, .int .i64 0, .bool false, .slice none 0 0, .int .u8 0, .int .i64 0, .int .i64 0, .int .i64 0, .int .i64 0, .int .i64 0, .int .i64 0, .int .i64 0, .int .i64 0, .int .i64 0, .int .i64 0, .int .i64 0, .bool false] 34)))
            generalize World.setCells _ _ _ _ = w6 at *
            refine hK.out _ _ ?_ (fun hHeld => ?_)
            · exact jB
            clear hK K
            (try simp only [Act.put, List.setIfInBounds_toArray, List.set_cons_zero, List.set_cons_succ])
            refine wpAnyH_ready (rs := [7]) (by kernel_rfl) (by simp) ?_
            refine AllReadyH.cons (i := 7) rfl (fun K hK => ?_) ?_
            · rw [if_pos (by rfl)]
              simp only [List.getElem_toArray, List.getElem_cons_zero, List.getElem_cons_succ]
              refine wp_store_mid _ _ _ rfl (w8.heap.size + 1) 0 (List.toArray [.int .u8 d.kd, .int .i64 d.id, .int .i64 d.us, .int .i64 d.cl, .int .i64 d.a, .int .i64 d.b, .int .i64 d.c, .bool d.p, .bool d.q, .bool d.r, .bool d.tn, .int .i64 d.wa, .int .i64 d.pr, .bool d.he, .slice Z d.af.length cz, .int .u8 d.st, .int .i64 d.ca, .int .i64 d.ci, .int .i64 d.b0, .int .i64 d.b1, .int .i64 d.b2, .int .i64 d.b3, .int .i64 d.b4, .int .i64 d.b5, .int .i64 d.fr, .int .i64 d.to, .int .i64 d.n, .bool d.we]) rfl rfl (there_of j6 (Nat.le_of_ble_eq_true rfl)) (by kernel_rfl) (by kernel_rfl) ?_
              simp only [Act.put, List.getElem_toArray, List.getElem_cons_zero, List.getElem_cons_succ, List.setIfInBounds_toArray, List.set_cons_zero, List.set_cons_succ, List.toList_toArray]
              refine hK.out _ _ ?_ (fun hHeld => ?_)
              · exact (below_sets (by have := jB.size; omega) (jB))
              clear hK K
              (try simp only [Act.put, List.setIfInBounds_toArray, List.set_cons_zero, List.set_cons_succ])
              refine wpAnyH_done (by kernel_rfl) ?_ _
              refine NoPanic.normal ?_
              go_wp2_with fail
              go_meet
              exact ⟨_, _, rfl, rfl, (blk_sets_far (by have := Blk.lt j5; omega) j5), (blk_all j6 (set_cmd d Z cz)), (below_sets (by have := jB.size; omega) (jB))⟩
            exact AllReadyH.nil
          exact AllReadyH.nil
        exact AllReadyH.nil
      refine AllReadyH.cons (i := 5) rfl (fun K hK => ?_) ?_
      · go_simp
        refine hK.out _ _ ?_ (fun hHeld => ?_)
        · exact (Below.drew (below_alloc2 (by simp) ((Below.refl w8.heap.size w8)) (.cells #[.int .u8 0, .int .i64 0, .int .i64 0, .int .i64 0, .int .i64 0, .int .i64 0, .int .i64 0, .bool false, .bool false, .bool false, .bool false, .int .i64 0, .int .i64 0, .bool false, .slice none 0 0, .int .u8 0, .int .i64 0, .int .i64 0, .int .i64 0, .int .i64 0, .int .i64 0, .int .i64 0, .int .i64 0, .int .i64 0, .int .i64 0, .int .i64 0, .int .i64 0, .bool false] 34)))
        clear hK K
        (try simp only [Act.put, List.setIfInBounds_toArray, List.set_cons_zero, List.set_cons_succ])
        refine wpAnyH_ready (rs := [4]) (by kernel_rfl) (by simp) ?_
        refine AllReadyH.cons (i := 4) rfl (fun K hK => ?_) ?_
        · go_simp
          refine hK.out _ _ ?_ (fun hHeld => ?_)
          · exact (Below.drew (below_alloc2 (by simp) ((below_alloc2 (by simp) ((Below.refl w8.heap.size w8)) (.cells #[.int .u8 0, .int .i64 0, .int .i64 0, .int .i64 0, .int .i64 0, .int .i64 0, .int .i64 0, .bool false, .bool false, .bool false, .bool false, .int .i64 0, .int .i64 0, .bool false, .slice none 0 0, .int .u8 0, .int .i64 0, .int .i64 0, .int .i64 0, .int .i64 0, .int .i64 0, .int .i64 0, .int .i64 0, .int .i64 0, .int .i64 0, .int .i64 0, .int .i64 0, .bool false] 34))) (.cells #[.int .u8 0, .int .i64 0, .int .i64 0, .int .i64 0, .int .i64 0, .int .i64 0, .int .i64 0, .bool false, .bool false, .bool false, .bool false, .int .i64 0, .int .i64 0, .bool false, .slice none 0 0, .int .u8 0, .int .i64 0, .int .i64 0, .int .i64 0, .int .i64 0, .int .i64 0, .int .i64 0, .int .i64 0, .int .i64 0, .int .i64 0, .int .i64 0, .int .i64 0, .bool false] 34)))
          clear hK K
          (try simp only [Act.put, List.setIfInBounds_toArray, List.set_cons_zero, List.set_cons_succ])
          refine wpAnyH_ready (rs := [6]) (by kernel_rfl) (by simp) ?_
          refine AllReadyH.cons (i := 6) rfl (fun K hK => ?_) ?_
          · rw [if_pos (by rfl)]
            simp only [List.getElem_toArray, List.getElem_cons_zero, List.getElem_cons_succ]
            refine wp_store_mid _ _ _ rfl (w8.heap.size + 1) 0 (List.toArray [.int .u8 c.kd, .int .i64 c.id, .int .i64 c.us, .int .i64 c.cl, .int .i64 c.a, .int .i64 c.b, .int .i64 c.c, .bool c.p, .bool c.q, .bool c.r, .bool c.tn, .int .i64 c.wa, .int .i64 c.pr, .bool c.he, .slice Y c.af.length cy, .int .u8 c.st, .int .i64 c.ca, .int .i64 c.ci, .int .i64 c.b0, .int .i64 c.b1, .int .i64 c.b2, .int .i64 c.b3, .int .i64 c.b4, .int .i64 c.b5, .int .i64 c.fr, .int .i64 c.to, .int .i64 c.n, .bool c.we]) rfl rfl (there_of (Blk.drew (blk_new_of (W := (World.alloc w8 (.cells #[.int .u8 0, .int .i64 0, .int .i64 0, .int .i64 0, .int .i64 0, .int .i64 0, .int .i64 0, .bool false, .bool false, .bool false, .bool false, .int .i64 0, .int .i64 0, .bool false, .slice none 0 0, .int .u8 0, .int .i64 0, .int .i64 0, .int .i64 0, .int .i64 0, .int .i64 0, .int .i64 0, .int .i64 0, .int .i64 0, .int .i64 0, .int .i64 0, .int .i64 0, .bool false] 34))) (by simp) 34 #[.int .u8 0, .int .i64 0, .int .i64 0, .int .i64 0, .int .i64 0, .int .i64 0, .int .i64 0, .bool false, .bool false, .bool false, .bool false, .int .i64 0, .int .i64 0, .bool false, .slice none 0 0, .int .u8 0, .int .i64 0, .int .i64 0, .int .i64 0, .int .i64 0, .int .i64 0, .int .i64 0, .int .i64 0, .int .i64 0, .int .i64 0, .int .i64 0, .int .i64 0, .bool false])) (Nat.le_of_ble_eq_true rfl)) (by kernel_rfl) (by kernel_rfl) ?_
            simp only [Act.put, List.getElem_toArray, List.getElem_cons_zero, List.getElem_cons_succ, List.setIfInBounds_toArray, List.set_cons_zero, List.set_cons_succ, List.toList_toArray]
            have j5 : Blk (World.setCells (World.drew (World.alloc (World.alloc w8 (.cells #[.int .u8 0, .int .i64 0, .int .i64 0, .int .i64 0, .int .i64 0, .int .i64 0, .int .i64 0, .bool false, .bool false, .bool false, .bool false, .int .i64 0, .int .i64 0, .bool false, .slice none 0 0, .int .u8 0, .int .i64 0, .int .i64 0, .int .i64 0, .int .i64 0, .int .i64 0, .int .i64 0, .int .i64 0, .int .i64 0, .int .i64 0, .int .i64 0, .int .i64 0, .bool false] 34)) (.cells #[.int .u8 0, .int .i64 0, .int .i64 0, .int .i64 0, .int .i64 0, .int .i64 0, .int .i64 0, .bool false, .bool false, .bool false, .bool false, .int .i64 0, .int .i64 0, .bool false, .slice none 0 0, .int .u8 0, .int .i64 0, .int .i64 0, .int .i64 0, .int .i64 0, .int .i64 0, .int .i64 0, .int .i64 0, .int .i64 0, .int .i64 0, .int .i64 0, .int .i64 0, .bool false] 34))) (w8.heap.size + 1) 0 [.int .u8 c.kd, .int .i64 c.id, .int .i64 c.us, .int .i64 c.cl, .int .i64 c.a, .int .i64 c.b, .int .i64 c.c, .bool c.p, .bool c.q, .bool c.r, .bool c.tn, .int .i64 c.wa, .int .i64 c.pr, .bool c.he, .slice Y c.af.length cy, .int .u8 c.st, .int .i64 c.ca, .int .i64 c.ci, .int .i64 c.b0, .int .i64 c.b1, .int .i64 c.b2, .int .i64 c.b3, .int .i64 c.b4, .int .i64 c.b5, .int .i64 c.fr, .int .i64 c.to, .int .i64 c.n, .bool c.we]) (w8.heap.size + 1) 34 (List.toArray [.int .u8 c.kd, .int .i64 c.id, .int .i64 c.us, .int .i64 c.cl, .int .i64 c.a, .int .i64 c.b, .int .i64 c.c, .bool c.p, .bool c.q, .bool c.r, .bool c.tn, .int .i64 c.wa, .int .i64 c.pr, .bool c.he, .slice Y c.af.length cy, .int .u8 c.st, .int .i64 c.ca, .int .i64 c.ci, .int .i64 c.b0, .int .i64 c.b1, .int .i64 c.b2, .int .i64 c.b3, .int .i64 c.b4, .int .i64 c.b5, .int .i64 c.fr, .int .i64 c.to, .int .i64 c.n, .bool c.we]) := blk_all (Blk.drew (blk_new_of (W := (World.alloc w8 (.cells #[.int .u8 0, .int .i64 0, .int .i64 0, .int .i64 0, .int .i64 0, .int .i64 0, .int .i64 0, .bool false, .bool false, .bool false, .bool false, .int .i64 0, .int .i64 0, .bool false, .slice none 0 0, .int .u8 0, .int .i64 0, .int .i64 0, .int .i64 0, .int .i64 0, .int .i64 0, .int .i64 0, .int .i64 0, .int .i64 0, .int .i64 0, .int .i64 0, .int .i64 0, .bool false] 34))) (by simp) 34 #[.int .u8 0, .int .i64 0, .int .i64 0, .int .i64 0, .int .i64 0, .int .i64 0, .int .i64 0, .bool false, .bool false, .bool false, .bool false, .int .i64 0, .int .i64 0, .bool false, .slice none 0 0, .int .u8 0, .int .i64 0, .int .i64 0, .int .i64 0, .int .i64 0, .int .i64 0, .int .i64 0, .int .i64 0, .int .i64 0, .int .i64 0, .int .i64 0, .int .i64 0, .bool false])) (set_cmd c Y cy)
            have j6 : Blk (World.setCells (World.drew (World.alloc (World.alloc w8 (.cells #[.int .u8 0, .int .i64 0, .int .i64 0, .int .i64 0, .int .i64 0, .int .i64 0, .int .i64 0, .bool false, .bool false, .bool false, .bool false, .int .i64 0, .int .i64 0, .bool false, .slice none 0 0, .int .u8 0, .int .i64 0, .int .i64 0, .int .i64 0, .int .i64 0, .int .i64 0, .int .i64 0, .int .i64 0, .int .i64 0, .int .i64 0, .int .i64 0, .int .i64 0, .bool false] 34)) (.cells #[.int .u8 0, .int .i64 0, .int .i64 0, .int .i64 0, .int .i64 0, .int .i64 0, .int .i64 0, .bool false, .bool false, .bool false, .bool false, .int .i64 0, .int .i64 0, .bool false, .slice none 0 0, .int .u8 0, .int .i64 0, .int .i64 0, .int .i64 0, .int .i64 0, .int .i64 0, .int .i64 0, .int .i64 0, .int .i64 0, .int .i64 0, .int .i64 0, .int .i64 0, .bool false] 34))) (w8.heap.size + 1) 0 [.int .u8 c.kd, .int .i64 c.id, .int .i64 c.us, .int .i64 c.cl, .int .i64 c.a, .int .i64 c.b, .int .i64 c.c, .bool c.p, .bool c.q, .bool c.r, .bool c.tn, .int .i64 c.wa, .int .i64 c.pr, .bool c.he, .slice Y c.af.length cy, .int .u8 c.st, .int .i64 c.ca, .int .i64 c.ci, .int .i64 c.b0, .int .i64 c.b1, .int .i64 c.b2, .int .i64 c.b3, .int .i64 c.b4, .int .i64 c.b5, .int .i64 c.fr, .int .i64 c.to, .int .i64 c.n, .bool c.we]) (w8.heap.size) 34 #[.int .u8 0, .int .i64 0, .int .i64 0, .int .i64 0, .int .i64 0, .int .i64 0, .int .i64 0, .bool false, .bool false, .bool false, .bool false, .int .i64 0, .int .i64 0, .bool false, .slice none 0 0, .int .u8 0, .int .i64 0, .int .i64 0, .int .i64 0, .int .i64 0, .int .i64 0, .int .i64 0, .int .i64 0, .int .i64 0, .int .i64 0, .int .i64 0, .int .i64 0, .bool false] := blk_sets_far (by simp) (Blk.drew (Blk.alloc (Blk.new w8 34 #[.int .u8 0, .int .i64 0, .int .i64 0, .int .i64 0, .int .i64 0, .int .i64 0, .int .i64 0, .bool false, .bool false, .bool false, .bool false, .int .i64 0, .int .i64 0, .bool false, .slice none 0 0, .int .u8 0, .int .i64 0, .int .i64 0, .int .i64 0, .int .i64 0, .int .i64 0, .int .i64 0, .int .i64 0, .int .i64 0, .int .i64 0, .int .i64 0, .int .i64 0, .bool false]) (.cells #[.int .u8 0, .int .i64 0, .int .i64 0, .int .i64 0, .int .i64 0, .int .i64 0, .int .i64 0, .bool false, .bool false, .bool false, .bool false, .int .i64 0, .int .i64 0, .bool false, .slice none 0 0, .int .u8 0, .int .i64 0, .int .i64 0, .int .i64 0, .int .i64 0, .int .i64 0, .int .i64 0, .int .i64 0, .int .i64 0, .int .i64 0, .int .i64 0, .int .i64 0, .bool false] 34)))
            have jB : Below w8.heap.size w8 (World.setCells (World.drew (World.alloc (World.alloc w8 (.cells #[.int .u8 0, .int .i64 0, .int .i64 0, .int .i64 0, .int .i64 0, .int .i64 0, .int .i64 0, .bool false, .bool false, .bool false, .bool false, .int .i64 0, .int .i64 0, .bool false, .slice none 0 0, .int .u8 0, .int .i64 0, .int .i64 0, .int .i64 0, .int .i64 0, .int .i64 0, .int .i64 0, .int .i64 0, .int .i64 0, .int .i64 0, .int .i64 0, .int .i64 0, .bool false] 34)) (.cells #[.int .u8 0, .int .i64 0, .int .i64 0, .int .i64 0, .int .i64 0, .int .i64 0, .int .i64 0, .bool false, .bool false, .bool false, .bool false, .int .i64 0, .int .i64 0, .bool false, .slice none 0 0, .int .u8 0, .int .i64 0, .int .i64 0, .int .i64 0, .int .i64 0, .int .i64 0, .int .i64 0, .int .i64 0, .int .i64 0, .int .i64 0, .int .i64 0, .int .i64 0, .bool false] 34))) (w8.heap.size + 1) 0 [.int .u8 c.kd, .int .i64 c.id, .int .i64 c.us, .int .i64 c.cl, .int .i64 c.a, .int .i64 c.b, .int .i64 c.c, .bool c.p, .bool c.q, .bool c.r, .bool c.tn, .int .i64 c.wa, .int .i64 c.pr, .bool c.he, .slice Y c.af.length cy, .int .u8 c.st, .int .i64 c.ca, .int .i64 c.ci, .int .i64 c.b0, .int .i64 c.b1, .int .i64 c.b2, .int .i64 c.b3, .int .i64 c.b4, .int .i64 c.b5, .int .i64 c.fr, .int .i64 c.to, .int .i64 c.n, .bool c.we]) := below_sets (by simp) (Below.drew (below_alloc2 (by simp) ((below_alloc2 (by simp) ((Below.refl w8.heap.size w8)) (.cells #[.int .u8 0, .int .i64 0, .int .i64 0, .int .i64 0, .int .i64 0, .int .i64 0, .int .i64 0, .bool false, .bool false, .bool false, .bool false, .int .i64 0, .int .i64 0, .bool false, .slice none 0 0, .int .u8 0, .int .i64 0, .int .i64 0, .int .i64 0, .int .i64 0, .int .i64 0, .int .i64 0, .int .i64 0, .int .i64 0, .int .i64 0, .int .i64 0, .int .i64 0, .bool false] 34))) (.cells #[.int .u8 0, .int .i64 0, .int .i64 0, .int .i64 0, .int .i64 0, .int .i64 0, .int .i64 0, .bool false, .bool false, .bool false, .bool false, .int .i64 0, .int .i64 0, .bool false, .slice none 0 0, .int .u8 0, .int .i64 0, .int .i64 0, .int .i64 0, .int .i64 0, .int .i64 0, .int .i64 0, .int .i64 0, .int .i64 0, .int .i64 0, .int .i64 0, .int .i64 0, .bool false] 34)))
            generalize World.setCells _ _ _ _ = w6 at *
            refine hK.out _ _ ?_ (fun hHeld => ?_)
            · exact jB
            clear hK K
            (try simp only [Act.put, List.setIfInBounds_toArray, List.set_cons_zero, List.set_cons_succ])
            refine wpAnyH_ready (rs := [7]) (by kernel_rfl) (by simp) ?_
            refine AllReadyH.cons (i := 7) rfl (fun K hK => ?_) ?_
            · rw [if_pos (by rfl)]
              simp only [List.getElem_toArray, List.getElem_cons_zero, List.getElem_cons_succ]
              refine wp_store_mid _ _ _ rfl (w8.heap.size) 0 (List.toArray [.int .u8 d.kd, .int .i64 d.id, .int .i64 d.us, .int .i64 d.cl, .int .i64 d.a, .int .i64 d.b, .int .i64 d.c, .bool d.p, .bool d.q, .bool d.r, .bool d.tn, .int .i64 d.wa, .int .i64 d.pr, .bool d.he, .slice Z d.af.length cz, .int .u8 d.st, .int .i64 d.ca, .int .i64 d.ci, .int .i64 d.b0, .int .i64 d.b1, .int .i64 d.b2, .int .i64 d.b3, .int .i64 d.b4, .int .i64 d.b5, .int .i64 d.fr, .int .i64 d.to, .int .i64 d.n, .bool d.we]) rfl rfl (there_of j6 (Nat.le_of_ble_eq_true rfl)) (by kernel_rfl) (by kernel_rfl) ?_
              simp only [Act.put, List.getElem_toArray, List.getElem_cons_zero, List.getElem_cons_succ, List.setIfInBounds_toArray, List.set_cons_zero, List.set_cons_succ, List.toList_toArray]
              refine hK.out _ _ ?_ (fun hHeld => ?_)
              · exact (below_sets (by have := jB.size; omega) (jB))
              clear hK K
              (try simp only [Act.put, List.setIfInBounds_toArray, List.set_cons_zero, List.set_cons_succ])
              refine wpAnyH_done (by kernel_rfl) ?_ _
              refine NoPanic.normal ?_
              go_wp2_with fail
              go_meet
              exact ⟨_, _, rfl, rfl, (blk_sets_far (by have := Blk.lt j5; omega) j5), (blk_all j6 (set_cmd d Z cz)), (below_sets (by have := jB.size; omega) (jB))⟩
            exact AllReadyH.nil
          exact AllReadyH.nil
        exact AllReadyH.nil
      exact AllReadyH.nil
    case rest =>
      obtain ⟨g9, g10, rfl, rfl, k5, k6, hB5⟩ := hcut
      have K9 := Lib.hid k5
      have K10 := Lib.hid k6
      have HBc := Lib.hid (below_up HB9.out hB5)
      have HV := Lib.hid (cv_eq c d)
      have p0 : wc.cell? ⟨g9, 0, none⟩ = some (.int .u8 c.kd) := k5.cell 0
      have p1 : wc.cell? ⟨g9, 1, none⟩ = some (.int .i64 c.id) := k5.cell 1
      have p2 : wc.cell? ⟨g9, 2, none⟩ = some (.int .i64 c.us) := k5.cell 2
      have p3 : wc.cell? ⟨g9, 3, none⟩ = some (.int .i64 c.cl) := k5.cell 3
      have p4 : wc.cell? ⟨g9, 4, none⟩ = some (.int .i64 c.a) := k5.cell 4
      have p5 : wc.cell? ⟨g9, 5, none⟩ = some (.int .i64 c.b) := k5.cell 5
      have p6 : wc.cell? ⟨g9, 6, none⟩ = some (.int .i64 c.c) := k5.cell 6
      have p7 : wc.cell? ⟨g9, 7, none⟩ = some (.bool c.p) := k5.cell 7
      have p8 : wc.cell? ⟨g9, 8, none⟩ = some (.bool c.q) := k5.cell 8
      have p9 : wc.cell? ⟨g9, 9, none⟩ = some (.bool c.r) := k5.cell 9
      have p10 : wc.cell? ⟨g9, 10, none⟩ = some (.bool c.tn) := k5.cell 10
      have p11 : wc.cell? ⟨g9, 11, none⟩ = some (.int .i64 c.wa) := k5.cell 11
      have p12 : wc.cell? ⟨g9, 12, none⟩ = some (.int .i64 c.pr) := k5.cell 12
      have p13 : wc.cell? ⟨g9, 13, none⟩ = some (.bool c.he) := k5.cell 13
      have p14 : wc.cell? ⟨g9, 14, none⟩ = some (.slice Y c.af.length cy) := k5.cell 14
      have p15 : wc.cell? ⟨g9, 15, none⟩ = some (.int .u8 c.st) := k5.cell 15
      have p16 : wc.cell? ⟨g9, 16, none⟩ = some (.int .i64 c.ca) := k5.cell 16
      have q0 : wc.cell? ⟨g10, 0, none⟩ = some (.int .u8 d.kd) := k6.cell 0
      have q1 : wc.cell? ⟨g10, 1, none⟩ = some (.int .i64 d.id) := k6.cell 1
      have q2 : wc.cell? ⟨g10, 2, none⟩ = some (.int .i64 d.us) := k6.cell 2
      have q3 : wc.cell? ⟨g10, 3, none⟩ = some (.int .i64 d.cl) := k6.cell 3
      have q4 : wc.cell? ⟨g10, 4, none⟩ = some (.int .i64 d.a) := k6.cell 4
      have q5 : wc.cell? ⟨g10, 5, none⟩ = some (.int .i64 d.b) := k6.cell 5
      have q6 : wc.cell? ⟨g10, 6, none⟩ = some (.int .i64 d.c) := k6.cell 6
      have q7 : wc.cell? ⟨g10, 7, none⟩ = some (.bool d.p) := k6.cell 7
      have q8 : wc.cell? ⟨g10, 8, none⟩ = some (.bool d.q) := k6.cell 8
      have q9 : wc.cell? ⟨g10, 9, none⟩ = some (.bool d.r) := k6.cell 9
      have q10 : wc.cell? ⟨g10, 10, none⟩ = some (.bool d.tn) := k6.cell 10
      have q11 : wc.cell? ⟨g10, 11, none⟩ = some (.int .i64 d.wa) := k6.cell 11
      have q12 : wc.cell? ⟨g10, 12, none⟩ = some (.int .i64 d.pr) := k6.cell 12
      have q13 : wc.cell? ⟨g10, 13, none⟩ = some (.bool d.he) := k6.cell 13
      have q14 : wc.cell? ⟨g10, 14, none⟩ = some (.slice Z d.af.length cz) := k6.cell 14
      have q15 : wc.cell? ⟨g10, 15, none⟩ = some (.int .u8 d.st) := k6.cell 15
      have q16 : wc.cell? ⟨g10, 16, none⟩ = some (.int .i64 d.ca) := k6.cell 16
      clear hB5 k5 k6 KA9 KB9 HB9 HRA HRB K5_9 K6_9
      have qb := eq_box HW.out.1 HW.out.2
      have qs := eq_span HW.out.1 HW.out.2
      have HJ := Lib.hid (rjobs c d Y Z cy cz HW.out.1 HW.out.2 hl hm wc (HYZ.out.1.up HBc.out) (HYZ.out.2.up HBc.out))
      cases e0 : (c.kd == d.kd)
      · go_wp2_with fail
        go_ret
        exact ⟨by rw [HV.out]; simp only [e0, Bool.true_and, Bool.false_and]; rfl, HBc.out⟩
      · go_wp2_with fail
        refine HJ.out.mono ?_
        rintro e wd ⟨rfl, hBd⟩
        have k5 := K9.out.below hBd K9.out.lt
        have k6 := K10.out.below hBd K10.out.lt
        have HBd := Lib.hid (below_up HBc.out hBd)
        clear p0 q0 p1 q1 p2 q2 p3 q3 p4 q4 p5 q5 p6 q6 p7 q7 p8 q8 p9 q9 p10 q10 p11 q11 p12 q12 p13 q13 p14 q14 p15 q15 p16 q16
        have p17 : wd.cell? ⟨g9, 17, none⟩ = some (.int .i64 c.ci) := k5.cell 17
        have p18 : wd.cell? ⟨g9, 18, none⟩ = some (.int .i64 c.b0) := k5.cell 18
        have p19 : wd.cell? ⟨g9, 19, none⟩ = some (.int .i64 c.b1) := k5.cell 19
        have p20 : wd.cell? ⟨g9, 20, none⟩ = some (.int .i64 c.b2) := k5.cell 20
        have p21 : wd.cell? ⟨g9, 21, none⟩ = some (.int .i64 c.b3) := k5.cell 21
        have p22 : wd.cell? ⟨g9, 22, none⟩ = some (.int .i64 c.b4) := k5.cell 22
        have p23 : wd.cell? ⟨g9, 23, none⟩ = some (.int .i64 c.b5) := k5.cell 23
        have p24 : wd.cell? ⟨g9, 24, none⟩ = some (.int .i64 c.fr) := k5.cell 24
        have p25 : wd.cell? ⟨g9, 25, none⟩ = some (.int .i64 c.to) := k5.cell 25
        have p26 : wd.cell? ⟨g9, 26, none⟩ = some (.int .i64 c.n) := k5.cell 26
        have p27 : wd.cell? ⟨g9, 27, none⟩ = some (.bool c.we) := k5.cell 27
        have q17 : wd.cell? ⟨g10, 17, none⟩ = some (.int .i64 d.ci) := k6.cell 17
        have q18 : wd.cell? ⟨g10, 18, none⟩ = some (.int .i64 d.b0) := k6.cell 18
        have q19 : wd.cell? ⟨g10, 19, none⟩ = some (.int .i64 d.b1) := k6.cell 19
        have q20 : wd.cell? ⟨g10, 20, none⟩ = some (.int .i64 d.b2) := k6.cell 20
        have q21 : wd.cell? ⟨g10, 21, none⟩ = some (.int .i64 d.b3) := k6.cell 21
        have q22 : wd.cell? ⟨g10, 22, none⟩ = some (.int .i64 d.b4) := k6.cell 22
        have q23 : wd.cell? ⟨g10, 23, none⟩ = some (.int .i64 d.b5) := k6.cell 23
        have q24 : wd.cell? ⟨g10, 24, none⟩ = some (.int .i64 d.fr) := k6.cell 24
        have q25 : wd.cell? ⟨g10, 25, none⟩ = some (.int .i64 d.to) := k6.cell 25
        have q26 : wd.cell? ⟨g10, 26, none⟩ = some (.int .i64 d.n) := k6.cell 26
        have q27 : wd.cell? ⟨g10, 27, none⟩ = some (.bool d.we) := k6.cell 27
        clear k5 k6 hBd HJ K9 K10
        cases e1 : jobB c d
        · go_wp2_with fail
          go_ret
          exact ⟨by rw [HV.out]; simp only [e0, e1, Bool.true_and, Bool.false_and]; rfl, HBd.out⟩
        · cases e2 : (c.ci == d.ci)
          · go_wp2_with fail
            go_ret
            exact ⟨by rw [HV.out]; simp only [e0, e1, e2, Bool.true_and, Bool.false_and]; rfl, HBd.out⟩
          · cases e3 : boxB c d
            · go_wp2_with fail
              go_ret
              exact ⟨by rw [HV.out]; simp only [e0, e1, e2, e3, Bool.true_and, Bool.false_and]; rfl, HBd.out⟩
            · cases e4 : spanB c d
              · go_wp2_with fail
                go_ret
                exact ⟨by rw [HV.out]; simp only [e0, e1, e2, e3, e4, Bool.true_and, Bool.false_and]; rfl, HBd.out⟩
              · cases e5 : (c.n == d.n)
                · go_wp2_with fail
                  go_ret
                  exact ⟨by rw [HV.out]; simp only [e0, e1, e2, e3, e4, e5, Bool.true_and, Bool.false_and]; rfl, HBd.out⟩
                · go_wp2_with fail
                  go_ret
                  exact ⟨by rw [HV.out]; simp only [e0, e1, e2, e3, e4, e5, Bool.true_and]; rfl, HBd.out⟩

end Go.Proofs.Ytfdldbfjeamlcaa.RecSame
