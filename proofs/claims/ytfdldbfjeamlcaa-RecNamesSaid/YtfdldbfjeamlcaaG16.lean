/- Several texts joined: tidehallref28.SameState. -/
import Derived.Test.YtfdldbfjeamlcaaG15
import Derived.BigQuiet
import Derived.Test.YtfdldbfjeamlcaaG4
import Derived.Test.YtfdldbfjeamlcaaG10
import Derived.Lib.QuietBelow
import Derived.Deep.QuietTactic
import Derived.Deep.MidRow
import Derived.Deep.DeepCutAuto
import Derived.Lib.SliceRun
import Derived.Test.YtfdldbfjeamlcaaG1
/-! tidehallref28.SameState. -/
namespace Go.Proofs.Ytfdldbfjeamlcaa.RecF3
open Go.Sort Go.RowKit RecGuard Mem RecMem RecByte RecNum RecEach RecMath RecCommand RecCmdJ RecEq RecKeys RecEqA RecJobs RecJobsA RecVal RecEqual RecEqual2 RecEqJ RecCfgs RecSame RecOwn RecSameA QuietRow RecF1

set_option linter.unusedVariables false
set_option linter.unusedSimpArgs false

/-- Lists of a state that are no longer than any may be. -/
structure RTopS (s : SV) : Prop where
  C : s.cs.length ≤ 9223372036854775807
  J : s.js.length ≤ 9223372036854775807
  P : s.ps.length ≤ 9223372036854775807
  K : s.ks.length ≤ 9223372036854775807
  D : s.dn.length ≤ 9223372036854775807
  S : s.sh.length ≤ 9223372036854775807
  U : s.cu.length ≤ 9223372036854775807
  A : ∀ j ∈ s.js, j.q.af.length ≤ 9223372036854775807
theorem rtop_st {r : RV} (h : RTop r) : RTopS r.s := ⟨h.C, h.J, h.P, h.K, h.D, h.S, h.U, h.A⟩
def Kept4 (W : World) (w : World) (g5 g6 : Nat) (s t : SV) (x y : SA) : Prop := Blk W g5 44 (List.toArray [.int .i64 s.d0, .int .i64 s.d1, .int .i64 s.d2, .int .i64 s.bo, .int .i64 s.fr, .int .i64 s.tr, .int .i64 s.ag, .slice x.C s.cs.length x.cc]) ∧ Blk W g6 44 (List.toArray [.int .i64 t.d0, .int .i64 t.d1, .int .i64 t.d2, .int .i64 t.bo, .int .i64 t.fr, .int .i64 t.tr, .int .i64 t.ag, .slice y.C t.cs.length y.cc]) ∧ Blk W w.heap.size 49 #[.int .i64 s.d0, .int .i64 s.d1, .int .i64 s.d2, .int .i64 s.bo, .int .i64 s.fr, .int .i64 s.tr, .int .i64 s.ag, .slice x.C s.cs.length x.cc, .int .i64 s.nw, .int .i64 s.nx, .slice x.J s.js.length x.cj, .slice x.P s.ps.length x.cp, .slice x.K s.ks.length x.ck, .slice x.D s.dn.length x.cd, .slice x.S s.sh.length x.cs, .slice x.U s.cu.length x.cu] ∧ Blk W (w.heap.size + 1) 49 #[.int .i64 t.d0, .int .i64 t.d1, .int .i64 t.d2, .int .i64 t.bo, .int .i64 t.fr, .int .i64 t.tr, .int .i64 t.ag, .slice y.C t.cs.length y.cc, .int .i64 t.nw, .int .i64 t.nx, .slice y.J t.js.length y.cj, .slice y.P t.ps.length y.cp, .slice y.K t.ks.length y.ck, .slice y.D t.dn.length y.cd, .slice y.S t.sh.length y.cs, .slice y.U t.cu.length y.cu]
theorem Kept4.up {W W2 w : World} {g5 g6 : Nat} {s t : SV} {x y : SA} (h : Kept4 W w g5 g6 s t x y) (hB : Below W.heap.size W W2) : Kept4 W2 w g5 g6 s t x y := ⟨h.1.below hB h.1.lt, h.2.1.below hB h.2.1.lt, h.2.2.1.below hB h.2.2.1.lt, h.2.2.2.below hB h.2.2.2.lt⟩
theorem set_c8 (s : SV) (x : SA) : setA #[.int .i64 0, .int .i64 0, .int .i64 0, .int .i64 0, .int .i64 0, .int .i64 0, .int .i64 0, .slice none 0 0] 0 [.int .i64 s.d0, .int .i64 s.d1, .int .i64 s.d2, .int .i64 s.bo, .int .i64 s.fr, .int .i64 s.tr, .int .i64 s.ag, .slice x.C s.cs.length x.cc] = (List.toArray [.int .i64 s.d0, .int .i64 s.d1, .int .i64 s.d2, .int .i64 s.bo, .int .i64 s.fr, .int .i64 s.tr, .int .i64 s.ag, .slice x.C s.cs.length x.cc]) := by
  simp only [setA, List.setIfInBounds_toArray, List.set_cons_zero, List.set_cons_succ]
theorem sv_last {s t : SV} (h1 : s.d0 = t.d0 ∧ s.d1 = t.d1 ∧ s.d2 = t.d2) (h2 : s.bo = t.bo) (h3 : s.fr = t.fr) (h4 : s.tr = t.tr) (h5 : s.ag = t.ag) (h6 : s.cs = t.cs) (h7 : s.nw = t.nw) (h8 : s.nx = t.nx) (h9 : s.js = t.js) (h10 : s.ps = t.ps) (h11 : s.ks = t.ks) (h12 : s.dn = t.dn) (h13 : s.sh = t.sh) : decide (s = t) = decide (s.cu = t.cu) := by
  rw [Bool.eq_iff_iff, decide_eq_true_eq, decide_eq_true_eq]
  obtain ⟨_, _, _, _, _, _, _, _, _, _, _, _, _, _, _, _⟩ := s
  obtain ⟨_, _, _, _, _, _, _, _, _, _, _, _, _, _, _, _⟩ := t
  simp only at h1 h2 h3 h4 h5 h6 h7 h8 h9 h10 h11 h12 h13 ⊢
  obtain ⟨rfl, rfl, rfl⟩ := h1
  subst h2 h3 h4 h5 h6 h7 h8 h9 h10 h11 h12 h13
  constructor
  · intro e; injection e
  · rintro rfl; rfl
set_option maxRecDepth 100000 in
set_option maxHeartbeats 12000000 in
theorem rsameState28 (s t : SV) (x y : SA) (hs : SWf s) (ht : SWf t) (hl : RTopS s) (hm : RTopS t) (w : World) (hx : StAt w s x) (hy : StAt w t y) :
    Calls Try.prog 57 #[.agg #[.int .i64 s.d0, .int .i64 s.d1, .int .i64 s.d2, .int .i64 s.bo, .int .i64 s.fr, .int .i64 s.tr, .int .i64 s.ag, .slice x.C s.cs.length x.cc, .int .i64 s.nw, .int .i64 s.nx, .slice x.J s.js.length x.cj, .slice x.P s.ps.length x.cp, .slice x.K s.ks.length x.ck, .slice x.D s.dn.length x.cd, .slice x.S s.sh.length x.cs, .slice x.U s.cu.length x.cu], .agg #[.int .i64 t.d0, .int .i64 t.d1, .int .i64 t.d2, .int .i64 t.bo, .int .i64 t.fr, .int .i64 t.tr, .int .i64 t.ag, .slice y.C t.cs.length y.cc, .int .i64 t.nw, .int .i64 t.nx, .slice y.J t.js.length y.cj, .slice y.P t.ps.length y.cp, .slice y.K t.ks.length y.ck, .slice y.D t.dn.length y.cd, .slice y.S t.sh.length y.cs, .slice y.U t.cu.length y.cu]] w fun e w' => e = .returned (.bool (decide (s = t))) ∧ Below w.heap.size w w' := by
  have qd := eq_dims hs ht
  have HI := Lib.hid (And.intro hx hy)
  have HW := Lib.hid (And.intro hs ht)
  have HT := Lib.hid (And.intro hl hm)
  clear hx hy hs ht hl hm
  go_enter Try.func57, Try.ntmps57
  go_upto_region 1 with fail
  have KA := Lib.hid ((Blk.new w 49 #[.int .i64 s.d0, .int .i64 s.d1, .int .i64 s.d2, .int .i64 s.bo, .int .i64 s.fr, .int .i64 s.tr, .int .i64 s.ag, .slice x.C s.cs.length x.cc, .int .i64 s.nw, .int .i64 s.nx, .slice x.J s.js.length x.cj, .slice x.P s.ps.length x.cp, .slice x.K s.ks.length x.ck, .slice x.D s.dn.length x.cd, .slice x.S s.sh.length x.cs, .slice x.U s.cu.length x.cu]).alloc (.cells #[.int .i64 t.d0, .int .i64 t.d1, .int .i64 t.d2, .int .i64 t.bo, .int .i64 t.fr, .int .i64 t.tr, .int .i64 t.ag, .slice y.C t.cs.length y.cc, .int .i64 t.nw, .int .i64 t.nx, .slice y.J t.js.length y.cj, .slice y.P t.ps.length y.cp, .slice y.K t.ks.length y.ck, .slice y.D t.dn.length y.cd, .slice y.S t.sh.length y.cs, .slice y.U t.cu.length y.cu] 49))
  have KB := Lib.hid (blk1 w 49 #[.int .i64 t.d0, .int .i64 t.d1, .int .i64 t.d2, .int .i64 t.bo, .int .i64 t.fr, .int .i64 t.tr, .int .i64 t.ag, .slice y.C t.cs.length y.cc, .int .i64 t.nw, .int .i64 t.nx, .slice y.J t.js.length y.cj, .slice y.P t.ps.length y.cp, .slice y.K t.ks.length y.ck, .slice y.D t.dn.length y.cd, .slice y.S t.sh.length y.cs, .slice y.U t.cu.length y.cu] (o := .cells #[.int .i64 s.d0, .int .i64 s.d1, .int .i64 s.d2, .int .i64 s.bo, .int .i64 s.fr, .int .i64 s.tr, .int .i64 s.ag, .slice x.C s.cs.length x.cc, .int .i64 s.nw, .int .i64 s.nx, .slice x.J s.js.length x.cj, .slice x.P s.ps.length x.cp, .slice x.K s.ks.length x.ck, .slice x.D s.dn.length x.cd, .slice x.S s.sh.length x.cs, .slice x.U s.cu.length x.cu] 49))
  have HB := Lib.hid (below_alloc (o := .cells #[.int .i64 t.d0, .int .i64 t.d1, .int .i64 t.d2, .int .i64 t.bo, .int .i64 t.fr, .int .i64 t.tr, .int .i64 t.ag, .slice y.C t.cs.length y.cc, .int .i64 t.nw, .int .i64 t.nx, .slice y.J t.js.length y.cj, .slice y.P t.ps.length y.cp, .slice y.K t.ks.length y.ck, .slice y.D t.dn.length y.cd, .slice y.S t.sh.length y.cs, .slice y.U t.cu.length y.cu] 49) (below_alloc (o := .cells #[.int .i64 s.d0, .int .i64 s.d1, .int .i64 s.d2, .int .i64 s.bo, .int .i64 s.fr, .int .i64 s.tr, .int .i64 s.ag, .slice x.C s.cs.length x.cc, .int .i64 s.nw, .int .i64 s.nx, .slice x.J s.js.length x.cj, .slice x.P s.ps.length x.cp, .slice x.K s.ks.length x.ck, .slice x.D s.dn.length x.cd, .slice x.S s.sh.length x.cs, .slice x.U s.cu.length x.cu] 49) (Below.refl w.heap.size w)))
  generalize ((w.alloc (.cells #[.int .i64 s.d0, .int .i64 s.d1, .int .i64 s.d2, .int .i64 s.bo, .int .i64 s.fr, .int .i64 s.tr, .int .i64 s.ag, .slice x.C s.cs.length x.cc, .int .i64 s.nw, .int .i64 s.nx, .slice x.J s.js.length x.cj, .slice x.P s.ps.length x.cp, .slice x.K s.ks.length x.ck, .slice x.D s.dn.length x.cd, .slice x.S s.sh.length x.cs, .slice x.U s.cu.length x.cu] 49)).alloc (.cells #[.int .i64 t.d0, .int .i64 t.d1, .int .i64 t.d2, .int .i64 t.bo, .int .i64 t.fr, .int .i64 t.tr, .int .i64 t.ag, .slice y.C t.cs.length y.cc, .int .i64 t.nw, .int .i64 t.nx, .slice y.J t.js.length y.cj, .slice y.P t.ps.length y.cp, .slice y.K t.ks.length y.ck, .slice y.D t.dn.length y.cd, .slice y.S t.sh.length y.cs, .slice y.U t.cu.length y.cu] 49)) = W0 at *
  have R1 := Lib.hid (show W0.rangeAt w.heap.size 0 [.int .i64 s.d0, .int .i64 s.d1, .int .i64 s.d2, .int .i64 s.bo, .int .i64 s.fr, .int .i64 s.tr, .int .i64 s.ag, .slice x.C s.cs.length x.cc] from range_part (n := 8) KA.out rfl)
  have x1 := box_full (W := W0) 44 #[.int .i64 0, .int .i64 0, .int .i64 0, .int .i64 0, .int .i64 0, .int .i64 0, .int .i64 0, .slice none 0 0] (vs := [.int .i64 s.d0, .int .i64 s.d1, .int .i64 s.d2, .int .i64 s.bo, .int .i64 s.fr, .int .i64 s.tr, .int .i64 s.ag, .slice x.C s.cs.length x.cc]) rfl
  go_upto_region 2 with (first | (refine wpList_load_mid rfl 44 _ rfl _ _ rfl _ _ R1.out Try.underlying44 rfl (by kernel_rfl) ?_) | (refine wpList_store_mid rfl 44 _ _ rfl W0.heap.size 0 (List.toArray [.int .i64 s.d0, .int .i64 s.d1, .int .i64 s.d2, .int .i64 s.bo, .int .i64 s.fr, .int .i64 s.tr, .int .i64 s.ag, .slice x.C s.cs.length x.cc]) rfl rfl (there_of (Blk.new W0 44 #[.int .i64 0, .int .i64 0, .int .i64 0, .int .i64 0, .int .i64 0, .int .i64 0, .int .i64 0, .slice none 0 0]) (Nat.le_of_ble_eq_true rfl)) (by kernel_rfl) (by kernel_rfl) ?_; simp only [List.toList_toArray]; generalize World.setCells _ _ _ _ = W1 at *; (try simp only [Act.put])))
  have HB2 := Lib.hid (below_up HB.out x1.2)
  have KA2 := Lib.hid (KA.out.below x1.2 KA.out.lt)
  have KB2 := Lib.hid (KB.out.below x1.2 KB.out.lt)
  obtain ⟨g5, hg5⟩ : ∃ n, n = W0.heap.size := ⟨_, rfl⟩
  rw [← hg5] at x1
  rw [← hg5]
  have K5 := Lib.hid x1.1
  clear x1 R1 KA KB HB hg5
  have R2 := Lib.hid (show W1.rangeAt (w.heap.size + 1) 0 [.int .i64 t.d0, .int .i64 t.d1, .int .i64 t.d2, .int .i64 t.bo, .int .i64 t.fr, .int .i64 t.tr, .int .i64 t.ag, .slice y.C t.cs.length y.cc] from range_part (n := 8) KB2.out rfl)
  have x2 := box_full (W := W1) 44 #[.int .i64 0, .int .i64 0, .int .i64 0, .int .i64 0, .int .i64 0, .int .i64 0, .int .i64 0, .slice none 0 0] (vs := [.int .i64 t.d0, .int .i64 t.d1, .int .i64 t.d2, .int .i64 t.bo, .int .i64 t.fr, .int .i64 t.tr, .int .i64 t.ag, .slice y.C t.cs.length y.cc]) rfl
  go_upto_region 3 with (first | (refine wpList_load_mid rfl 44 _ rfl _ _ rfl _ _ R2.out Try.underlying44 rfl (by kernel_rfl) ?_) | (refine wpList_store_mid rfl 44 _ _ rfl W1.heap.size 0 (List.toArray [.int .i64 t.d0, .int .i64 t.d1, .int .i64 t.d2, .int .i64 t.bo, .int .i64 t.fr, .int .i64 t.tr, .int .i64 t.ag, .slice y.C t.cs.length y.cc]) rfl rfl (there_of (Blk.new W1 44 #[.int .i64 0, .int .i64 0, .int .i64 0, .int .i64 0, .int .i64 0, .int .i64 0, .int .i64 0, .slice none 0 0]) (Nat.le_of_ble_eq_true rfl)) (by kernel_rfl) (by kernel_rfl) ?_; simp only [List.toList_toArray]; generalize World.setCells _ _ _ _ = W9 at *; (try simp only [Act.put])))
  have HT9 := Lib.hid (below_up HB2.out x2.2)
  have HK9 := Lib.hid (show Kept4 W9 w g5 W1.heap.size s t x y from ⟨K5.out.below x2.2 K5.out.lt, x2.1, KA2.out.below x2.2 KA2.out.lt, KB2.out.below x2.2 KB2.out.lt⟩)
  obtain ⟨g6, hg6⟩ : ∃ n, n = W1.heap.size := ⟨_, rfl⟩
  rw [← hg6] at HK9
  rw [← hg6]
  clear x2 R2 KA2 KB2 HB2 K5 hg6
  have HI9 := Lib.hid (And.intro (HI.out.1.up HT9.out) (HI.out.2.up HT9.out))
  clear HI
  have p0 : W9.cell? ⟨g5, 0, none⟩ = some (.int .i64 s.d0) := HK9.out.1.cell 0
  have p1 : W9.cell? ⟨g5, 1, none⟩ = some (.int .i64 s.d1) := HK9.out.1.cell 1
  have p2 : W9.cell? ⟨g5, 2, none⟩ = some (.int .i64 s.d2) := HK9.out.1.cell 2
  have p3 : W9.cell? ⟨g5, 3, none⟩ = some (.int .i64 s.bo) := HK9.out.1.cell 3
  have p4 : W9.cell? ⟨g5, 4, none⟩ = some (.int .i64 s.fr) := HK9.out.1.cell 4
  have p5 : W9.cell? ⟨g5, 5, none⟩ = some (.int .i64 s.tr) := HK9.out.1.cell 5
  have p6 : W9.cell? ⟨g5, 6, none⟩ = some (.int .i64 s.ag) := HK9.out.1.cell 6
  have p7 : W9.cell? ⟨g5, 7, none⟩ = some (.slice x.C s.cs.length x.cc) := HK9.out.1.cell 7
  have q0 : W9.cell? ⟨g6, 0, none⟩ = some (.int .i64 t.d0) := HK9.out.2.1.cell 0
  have q1 : W9.cell? ⟨g6, 1, none⟩ = some (.int .i64 t.d1) := HK9.out.2.1.cell 1
  have q2 : W9.cell? ⟨g6, 2, none⟩ = some (.int .i64 t.d2) := HK9.out.2.1.cell 2
  have q3 : W9.cell? ⟨g6, 3, none⟩ = some (.int .i64 t.bo) := HK9.out.2.1.cell 3
  have q4 : W9.cell? ⟨g6, 4, none⟩ = some (.int .i64 t.fr) := HK9.out.2.1.cell 4
  have q5 : W9.cell? ⟨g6, 5, none⟩ = some (.int .i64 t.tr) := HK9.out.2.1.cell 5
  have q6 : W9.cell? ⟨g6, 6, none⟩ = some (.int .i64 t.ag) := HK9.out.2.1.cell 6
  have q7 : W9.cell? ⟨g6, 7, none⟩ = some (.slice y.C t.cs.length y.cc) := HK9.out.2.1.cell 7
  by_cases h_dims : (s.d0 = t.d0 ∧ s.d1 = t.d1 ∧ s.d2 = t.d2)
  rotate_left
  · have HNE := Lib.hid (show s ≠ t from fun e => h_dims (by rw [e]; exact ⟨rfl, rfl, rfl⟩))
    have e_d : dimsB s t = false := decide_eq_false h_dims
    simp only [e_d] at qd
    clear h_dims
    go_wp2_with fail
    go_ret
    exact ⟨by rw [decide_eq_false HNE.out]; rfl, HT9.out⟩
  have e_d : dimsB s t = true := decide_eq_true h_dims
  simp only [e_d] at qd
  have HE_dims := Lib.hid h_dims
  clear h_dims
  by_cases h_bo : s.bo = t.bo
  rotate_left
  · have HNE := Lib.hid (show s ≠ t from fun e => h_bo (by rw [e]))
    have e_bo : (s.bo != t.bo) = true := by simpa using h_bo
    clear h_bo
    go_wp2_with fail
    go_ret
    exact ⟨by rw [decide_eq_false HNE.out]; rfl, HT9.out⟩
  have e_bo : (s.bo != t.bo) = false := by simpa using h_bo
  have HE_bo := Lib.hid h_bo
  clear h_bo
  by_cases h_fr : s.fr = t.fr
  rotate_left
  · have HNE := Lib.hid (show s ≠ t from fun e => h_fr (by rw [e]))
    have e_fr : (s.fr != t.fr) = true := by simpa using h_fr
    clear h_fr
    go_wp2_with fail
    go_ret
    exact ⟨by rw [decide_eq_false HNE.out]; rfl, HT9.out⟩
  have e_fr : (s.fr != t.fr) = false := by simpa using h_fr
  have HE_fr := Lib.hid h_fr
  clear h_fr
  by_cases h_tr : s.tr = t.tr
  rotate_left
  · have HNE := Lib.hid (show s ≠ t from fun e => h_tr (by rw [e]))
    have e_tr : (s.tr != t.tr) = true := by simpa using h_tr
    clear h_tr
    go_wp2_with fail
    go_ret
    exact ⟨by rw [decide_eq_false HNE.out]; rfl, HT9.out⟩
  have e_tr : (s.tr != t.tr) = false := by simpa using h_tr
  have HE_tr := Lib.hid h_tr
  clear h_tr
  by_cases h_ag : s.ag = t.ag
  rotate_left
  · have HNE := Lib.hid (show s ≠ t from fun e => h_ag (by rw [e]))
    have e_ag : (s.ag != t.ag) = true := by simpa using h_ag
    clear h_ag
    go_wp2_with fail
    go_ret
    exact ⟨by rw [decide_eq_false HNE.out]; rfl, HT9.out⟩
  have e_ag : (s.ag != t.ag) = false := by simpa using h_ag
  have HE_ag := Lib.hid h_ag
  clear h_ag
  by_cases h_Lcs : s.cs.length = t.cs.length
  rotate_left
  · have HNE := Lib.hid (show s ≠ t from fun e => h_Lcs (by rw [e]))
    have e_cs : ((s.cs.length : Int) != (t.cs.length : Int)) = true := by simp; omega
    clear h_Lcs
    go_wp2_with fail
    go_ret
    exact ⟨by rw [decide_eq_false HNE.out]; rfl, HT9.out⟩
  have e_cs : ((s.cs.length : Int) != (t.cs.length : Int)) = false := by simp [h_Lcs]
  have HE_Lcs := Lib.hid h_Lcs
  clear h_Lcs
  have HN_cs := Lib.hid HE_Lcs.out
  go_wp2_with fail
  clear p0 q0 p1 q1 p2 q2 p3 q3 p4 q4 p5 q5 p6 q6 p7 q7 e_d qd e_bo e_fr e_tr e_ag e_cs
  have hub : s.cs.length ≤ 9223372036854775807 := HT.out.1.C
  go_loopw [7] (fun i wr => ∃ k : Nat, k ≤ s.cs.length ∧ i = .int .i64 k ∧ Hid (∀ (j : Nat) (a b : KV), j < k → s.cs[j]? = some a → t.cs[j]? = some b → a = b) ∧ Hid (Below W9.heap.size W9 wr))
    (fun i _ => s.cs.length - (intOf i).toNat)
  case atStart => exact ⟨0, Nat.zero_le _, rfl, (fun j a b h => by omega), Below.refl _ _⟩
  case round =>
    obtain ⟨k, hk, rfl, hP, hB⟩ := hrel
    have HK := Lib.hid (HK9.out.up hB.out)
    have p7 : wr.cell? ⟨g5, 7, none⟩ = some (.slice x.C s.cs.length x.cc) := HK.out.1.cell 7
    have q7 : wr.cell? ⟨g6, 7, none⟩ = some (.slice y.C t.cs.length y.cc) := HK.out.2.1.cell 7
    by_cases hlt : k < s.cs.length
    · have hg : s.cs[k]? = some s.cs[k] := List.getElem?_eq_getElem hlt
      generalize s.cs[k] = u at hg
      have hkm : k < t.cs.length := by have := HN_cs.out; omega
      have hg2 : t.cs[k]? = some t.cs[k] := List.getElem?_eq_getElem hkm
      generalize t.cs[k] = v at hg2
      have hki : (k : Int) < (s.cs.length : Int) := by omega
      have hki2 : (k : Int) < (t.cs.length : Int) := by omega
      have hki0 : (0 : Int) ≤ (k : Int) := by omega
      obtain ⟨b, o, cs1, e91, hb, _, r1, e1⟩ := SlcAt.up kStays (HI9.out.1.C) hB.out k u hg
      obtain ⟨b', o', cs2, e92, hb', _, r2, e2⟩ := SlcAt.up kStays (HI9.out.2.C) hB.out k v hg2
      rw [e91] at p7
      rw [e92] at q7
      obtain rfl : cs1 = kL u := e1
      obtain rfl : cs2 = kL v := e2
      have hq := fun W : World => eq_cls (HW.out.1.2.1 u (List.mem_of_getElem? hg)) (HW.out.2.2.1 v (List.mem_of_getElem? hg2)) W
      have HR := Lib.hid (And.intro r1 r2)
      have HG := Lib.hid (And.intro hg hg2)
      clear hg hg2 r1 r2 hb hb' e91 e92
      cases he : decide (u = v)
      · simp only [he] at hq
        have EV := Lib.hid (show s ≠ t from fun e => list_ne HG.out.1 HG.out.2 (of_decide_eq_false he) (by rw [e]))
        clear he
        go_wp2_with fail
        have kq0 := cell_regrown p7
        have kq1 := cell_regrown q7
        refine wp_region_quiet_below (by kernel_rfl) (by kernel_rfl) ?_
        repeat (first | (refine quiet_load_mid (by rfl) 154 _ rfl _ _ rfl _ HR.out.1 _ Try.underlying154 rfl (by kernel_rfl) ?_; simp only [Act.put, List.setIfInBounds_toArray, List.set_cons_zero, List.set_cons_succ]) | (refine quiet_load_mid (by rfl) 154 _ rfl _ _ rfl _ HR.out.2 _ Try.underlying154 rfl (by kernel_rfl) ?_; simp only [Act.put, List.setIfInBounds_toArray, List.set_cons_zero, List.set_cons_succ]) | go_big_quiet_step (first | fail))
        refine wpQuiet_nil ?_
        intro _ hw'
        obtain ⟨⟨dq, osq⟩, hw''⟩ := hw'
        subst hw''
        have hBq := below_regrown wr dq osq
        clear kq0 kq1
        generalize grow (redrawn wr dq) osq = wq at *
        clear p7 q7
        go_wp2_with fail
        go_ret
        exact ⟨by rw [decide_eq_false EV.out]; rfl, below_up HT9.out (below_up hB.out hBq)⟩
      · simp only [he] at hq
        have HE := Lib.hid (of_decide_eq_true he)
        clear he
        go_wp2_with fail
        have kq0 := cell_regrown p7
        have kq1 := cell_regrown q7
        refine wp_region_quiet_below (by kernel_rfl) (by kernel_rfl) ?_
        repeat (first | (refine quiet_load_mid (by rfl) 154 _ rfl _ _ rfl _ HR.out.1 _ Try.underlying154 rfl (by kernel_rfl) ?_; simp only [Act.put, List.setIfInBounds_toArray, List.set_cons_zero, List.set_cons_succ]) | (refine quiet_load_mid (by rfl) 154 _ rfl _ _ rfl _ HR.out.2 _ Try.underlying154 rfl (by kernel_rfl) ?_; simp only [Act.put, List.setIfInBounds_toArray, List.set_cons_zero, List.set_cons_succ]) | go_big_quiet_step (first | fail))
        refine wpQuiet_nil ?_
        intro _ hw'
        obtain ⟨⟨dq, osq⟩, hw''⟩ := hw'
        subst hw''
        have hBq := below_regrown wr dq osq
        clear kq0 kq1
        generalize grow (redrawn wr dq) osq = wq at *
        clear p7 q7
        go_wp2_with fail
        go_roundw
        case rel => exact ⟨k + 1, by omega, by go_num, (fun j a b hj hu hv => by
            rcases Nat.lt_or_ge j k with h | h
            · exact hP.out j a b h hu hv
            · obtain rfl : j = k := by omega
              rw [HG.out.1] at hu; rw [HG.out.2] at hv; cases hu; cases hv; exact HE.out), below_up hB.out hBq⟩
        case measure => simp [intOf]; omega
    · obtain rfl : k = s.cs.length := by omega
      have HE_cs := Lib.hid (show s.cs = t.cs from list_eq HN_cs.out hP.out)
      have HT9b := Lib.hid (below_up HT9.out hB.out)
      have HI9b := Lib.hid (And.intro (HI9.out.1.up hB.out) (HI9.out.2.up hB.out))
      clear hP HT9 HI9 HK9 hlt hk hub
      go_upto_region 10 with fail
      clear p7 q7 hB
      have HK9 := Lib.hid HK.out
      have HT9 := Lib.hid HT9b.out
      have HI9 := Lib.hid HI9b.out
      clear HK HT9b HI9b
      generalize wr = W9 at *
      have m8 : W9.cell? ⟨w.heap.size, 8, none⟩ = some (.int .i64 s.nw) := HK9.out.2.2.1.cell 8
      have m9 : W9.cell? ⟨w.heap.size, 9, none⟩ = some (.int .i64 s.nx) := HK9.out.2.2.1.cell 9
      have m10 : W9.cell? ⟨w.heap.size, 10, none⟩ = some (.slice x.J s.js.length x.cj) := HK9.out.2.2.1.cell 10
      have m11 : W9.cell? ⟨w.heap.size, 11, none⟩ = some (.slice x.P s.ps.length x.cp) := HK9.out.2.2.1.cell 11
      have m12 : W9.cell? ⟨w.heap.size, 12, none⟩ = some (.slice x.K s.ks.length x.ck) := HK9.out.2.2.1.cell 12
      have n8 : W9.cell? ⟨w.heap.size + 1, 8, none⟩ = some (.int .i64 t.nw) := HK9.out.2.2.2.cell 8
      have n9 : W9.cell? ⟨w.heap.size + 1, 9, none⟩ = some (.int .i64 t.nx) := HK9.out.2.2.2.cell 9
      have n10 : W9.cell? ⟨w.heap.size + 1, 10, none⟩ = some (.slice y.J t.js.length y.cj) := HK9.out.2.2.2.cell 10
      have n11 : W9.cell? ⟨w.heap.size + 1, 11, none⟩ = some (.slice y.P t.ps.length y.cp) := HK9.out.2.2.2.cell 11
      have n12 : W9.cell? ⟨w.heap.size + 1, 12, none⟩ = some (.slice y.K t.ks.length y.ck) := HK9.out.2.2.2.cell 12
      by_cases h_nw : s.nw = t.nw
      rotate_left
      · have HNE := Lib.hid (show s ≠ t from fun e => h_nw (by rw [e]))
        have e_nw : (s.nw != t.nw) = true := by simpa using h_nw
        clear h_nw
        go_wp2_with fail
        go_ret
        exact ⟨by rw [decide_eq_false HNE.out]; rfl, HT9.out⟩
      have e_nw : (s.nw != t.nw) = false := by simpa using h_nw
      have HE_nw := Lib.hid h_nw
      clear h_nw
      by_cases h_nx : s.nx = t.nx
      rotate_left
      · have HNE := Lib.hid (show s ≠ t from fun e => h_nx (by rw [e]))
        have e_nx : (s.nx != t.nx) = true := by simpa using h_nx
        clear h_nx
        go_wp2_with fail
        go_ret
        exact ⟨by rw [decide_eq_false HNE.out]; rfl, HT9.out⟩
      have e_nx : (s.nx != t.nx) = false := by simpa using h_nx
      have HE_nx := Lib.hid h_nx
      clear h_nx
      by_cases h_Ljs : s.js.length = t.js.length
      rotate_left
      · have HNE := Lib.hid (show s ≠ t from fun e => h_Ljs (by rw [e]))
        have e_js : ((s.js.length : Int) != (t.js.length : Int)) = true := by simp; omega
        clear h_Ljs
        go_wp2_with fail
        go_ret
        exact ⟨by rw [decide_eq_false HNE.out]; rfl, HT9.out⟩
      have e_js : ((s.js.length : Int) != (t.js.length : Int)) = false := by simp [h_Ljs]
      have HE_Ljs := Lib.hid h_Ljs
      clear h_Ljs
      by_cases h_Lps : s.ps.length = t.ps.length
      rotate_left
      · have HNE := Lib.hid (show s ≠ t from fun e => h_Lps (by rw [e]))
        have e_ps : ((s.ps.length : Int) != (t.ps.length : Int)) = true := by simp; omega
        clear h_Lps
        go_wp2_with fail
        go_ret
        exact ⟨by rw [decide_eq_false HNE.out]; rfl, HT9.out⟩
      have e_ps : ((s.ps.length : Int) != (t.ps.length : Int)) = false := by simp [h_Lps]
      have HE_Lps := Lib.hid h_Lps
      clear h_Lps
      by_cases h_Lks : s.ks.length = t.ks.length
      rotate_left
      · have HNE := Lib.hid (show s ≠ t from fun e => h_Lks (by rw [e]))
        have e_ks : ((s.ks.length : Int) != (t.ks.length : Int)) = true := by simp; omega
        clear h_Lks
        go_wp2_with fail
        go_ret
        exact ⟨by rw [decide_eq_false HNE.out]; rfl, HT9.out⟩
      have e_ks : ((s.ks.length : Int) != (t.ks.length : Int)) = false := by simp [h_Lks]
      have HE_Lks := Lib.hid h_Lks
      clear h_Lks
      have HN_js := Lib.hid HE_Ljs.out
      have HN_ps := Lib.hid HE_Lps.out
      have HN_ks := Lib.hid HE_Lks.out
      go_wp2_with fail
      clear m8 m9 m10 m11 m12 n8 n9 n10 n11 n12 e_nw e_nx e_js e_ps e_ks
      have hub : s.js.length ≤ 9223372036854775807 := HT.out.1.J
      go_loopw [8] (fun i wr => ∃ k : Nat, k ≤ s.js.length ∧ i = .int .i64 k ∧ Hid (∀ (j : Nat) (a b : JV), j < k → s.js[j]? = some a → t.js[j]? = some b → a = b) ∧ Hid (Below W9.heap.size W9 wr))
        (fun i _ => s.js.length - (intOf i).toNat)
      case atStart => exact ⟨0, Nat.zero_le _, rfl, (fun j a b h => by omega), Below.refl _ _⟩
      case round =>
        obtain ⟨k, hk, rfl, hP, hB⟩ := hrel
        have HK := Lib.hid (HK9.out.up hB.out)
        have m10 : wr.cell? ⟨w.heap.size, 10, none⟩ = some (.slice x.J s.js.length x.cj) := HK.out.2.2.1.cell 10
        have n10 : wr.cell? ⟨w.heap.size + 1, 10, none⟩ = some (.slice y.J t.js.length y.cj) := HK.out.2.2.2.cell 10
        by_cases hlt : k < s.js.length
        · have hg : s.js[k]? = some s.js[k] := List.getElem?_eq_getElem hlt
          generalize s.js[k] = u at hg
          have hkm : k < t.js.length := by have := HN_js.out; omega
          have hg2 : t.js[k]? = some t.js[k] := List.getElem?_eq_getElem hkm
          generalize t.js[k] = v at hg2
          have hki : (k : Int) < (s.js.length : Int) := by omega
          have hki2 : (k : Int) < (t.js.length : Int) := by omega
          have hki0 : (0 : Int) ≤ (k : Int) := by omega
          obtain ⟨b, o, cs1, e91, hb, _, r1, e1⟩ := SlcAt.up jStays (HI9.out.1.J) hB.out k u hg
          obtain ⟨b', o', cs2, e92, hb', _, r2, e2⟩ := SlcAt.up jStays (HI9.out.2.J) hB.out k v hg2
          rw [e91] at m10
          rw [e92] at n10
          obtain ⟨Yu, cu, e1, hcu, hYu⟩ := e1
          obtain ⟨Yv, cv, e2, hcv, hYv⟩ := e2
          obtain rfl : cs1 = jL u Yu cu := e1
          obtain rfl : cs2 = jL v Yv cv := e2
          have HU := Lib.hid (And.intro hYu hYv)
          have HJ0 := Lib.hid (fun (B : Bool) (hB : decide (u = v) = B) (W : World) (h1 : IntsAt W Yu u.q.af) (h2 : IntsAt W Yv v.q.af) => rsameJobV u v Yu Yv cu cv B hB (HW.out.1.2.2.1 u (List.mem_of_getElem? hg)) (HW.out.2.2.2.1 v (List.mem_of_getElem? hg2)) (HT.out.1.A u (List.mem_of_getElem? hg)) (HT.out.2.A v (List.mem_of_getElem? hg2)) W h1 h2)
          clear hYu hYv hcu hcv
          have HR := Lib.hid (And.intro r1 r2)
          have HG := Lib.hid (And.intro hg hg2)
          clear hg hg2 r1 r2 hb hb' e91 e92
          cases he : decide (u = v)
          · have HJ := Lib.hid (HJ0.out _ he)
            clear HJ0
            have EV := Lib.hid (show s ≠ t from fun e => list_ne HG.out.1 HG.out.2 (of_decide_eq_false he) (by rw [e]))
            clear he
            go_wp2_with fail
            have kq0 := cell_regrown m10
            have kq1 := cell_regrown n10
            refine wp_region_quiet_below (by kernel_rfl) (by kernel_rfl) ?_
            repeat (first | (refine quiet_load_mid (by rfl) 28 _ rfl _ _ rfl _ HR.out.1 _ Try.underlying28 rfl (by kernel_rfl) ?_; simp only [Act.put, List.setIfInBounds_toArray, List.set_cons_zero, List.set_cons_succ]) | (refine quiet_load_mid (by rfl) 28 _ rfl _ _ rfl _ HR.out.2 _ Try.underlying28 rfl (by kernel_rfl) ?_; simp only [Act.put, List.setIfInBounds_toArray, List.set_cons_zero, List.set_cons_succ]) | go_big_quiet_step (first | fail | exact Calls.regrown_of (HJ.out _ (HU.out.1.up (below_regrown _ _ _)) (HU.out.2.up (below_regrown _ _ _)))))
            refine wpQuiet_nil ?_
            intro _ hw'
            obtain ⟨⟨dq, osq⟩, hw''⟩ := hw'
            subst hw''
            have hBq := below_regrown wr dq osq
            clear kq0 kq1
            generalize grow (redrawn wr dq) osq = wq at *
            clear m10 n10
            go_wp2_with fail
            go_ret
            exact ⟨by rw [decide_eq_false EV.out]; rfl, below_up HT9.out (below_up hB.out hBq)⟩
          · have HJ := Lib.hid (HJ0.out _ he)
            clear HJ0
            have HE := Lib.hid (of_decide_eq_true he)
            clear he
            go_wp2_with fail
            have kq0 := cell_regrown m10
            have kq1 := cell_regrown n10
            refine wp_region_quiet_below (by kernel_rfl) (by kernel_rfl) ?_
            repeat (first | (refine quiet_load_mid (by rfl) 28 _ rfl _ _ rfl _ HR.out.1 _ Try.underlying28 rfl (by kernel_rfl) ?_; simp only [Act.put, List.setIfInBounds_toArray, List.set_cons_zero, List.set_cons_succ]) | (refine quiet_load_mid (by rfl) 28 _ rfl _ _ rfl _ HR.out.2 _ Try.underlying28 rfl (by kernel_rfl) ?_; simp only [Act.put, List.setIfInBounds_toArray, List.set_cons_zero, List.set_cons_succ]) | go_big_quiet_step (first | fail | exact Calls.regrown_of (HJ.out _ (HU.out.1.up (below_regrown _ _ _)) (HU.out.2.up (below_regrown _ _ _)))))
            refine wpQuiet_nil ?_
            intro _ hw'
            obtain ⟨⟨dq, osq⟩, hw''⟩ := hw'
            subst hw''
            have hBq := below_regrown wr dq osq
            clear kq0 kq1
            generalize grow (redrawn wr dq) osq = wq at *
            clear m10 n10
            go_wp2_with fail
            go_roundw
            case rel => exact ⟨k + 1, by omega, by go_num, (fun j a b hj hu hv => by
                rcases Nat.lt_or_ge j k with h | h
                · exact hP.out j a b h hu hv
                · obtain rfl : j = k := by omega
                  rw [HG.out.1] at hu; rw [HG.out.2] at hv; cases hu; cases hv; exact HE.out), below_up hB.out hBq⟩
            case measure => simp [intOf]; omega
        · obtain rfl : k = s.js.length := by omega
          have HE_js := Lib.hid (show s.js = t.js from list_eq HN_js.out hP.out)
          have HT9b := Lib.hid (below_up HT9.out hB.out)
          have HI9b := Lib.hid (And.intro (HI9.out.1.up hB.out) (HI9.out.2.up hB.out))
          clear hP HT9 HI9 HK9 hlt hk hub
          go_upto_region 17 with fail
          clear m10 n10 hB
          have HK9 := Lib.hid HK.out
          have HT9 := Lib.hid HT9b.out
          have HI9 := Lib.hid HI9b.out
          clear HK HT9b HI9b
          generalize wr = W9 at *
          go_wp2_with fail
          have hub : s.ps.length ≤ 9223372036854775807 := HT.out.1.P
          go_loopw [9] (fun i wr => ∃ k : Nat, k ≤ s.ps.length ∧ i = .int .i64 k ∧ Hid (∀ (j : Nat) (a b : PV), j < k → s.ps[j]? = some a → t.ps[j]? = some b → a = b) ∧ Hid (Below W9.heap.size W9 wr))
            (fun i _ => s.ps.length - (intOf i).toNat)
          case atStart => exact ⟨0, Nat.zero_le _, rfl, (fun j a b h => by omega), Below.refl _ _⟩
          case round =>
            obtain ⟨k, hk, rfl, hP, hB⟩ := hrel
            have HK := Lib.hid (HK9.out.up hB.out)
            have m11 : wr.cell? ⟨w.heap.size, 11, none⟩ = some (.slice x.P s.ps.length x.cp) := HK.out.2.2.1.cell 11
            have n11 : wr.cell? ⟨w.heap.size + 1, 11, none⟩ = some (.slice y.P t.ps.length y.cp) := HK.out.2.2.2.cell 11
            by_cases hlt : k < s.ps.length
            · have hg : s.ps[k]? = some s.ps[k] := List.getElem?_eq_getElem hlt
              generalize s.ps[k] = u at hg
              have hkm : k < t.ps.length := by have := HN_ps.out; omega
              have hg2 : t.ps[k]? = some t.ps[k] := List.getElem?_eq_getElem hkm
              generalize t.ps[k] = v at hg2
              have hki : (k : Int) < (s.ps.length : Int) := by omega
              have hki2 : (k : Int) < (t.ps.length : Int) := by omega
              have hki0 : (0 : Int) ≤ (k : Int) := by omega
              obtain ⟨b, o, cs1, e91, hb, _, r1, e1⟩ := SlcAt.up pStays (HI9.out.1.P) hB.out k u hg
              obtain ⟨b', o', cs2, e92, hb', _, r2, e2⟩ := SlcAt.up pStays (HI9.out.2.P) hB.out k v hg2
              rw [e91] at m11
              rw [e92] at n11
              obtain rfl : cs1 = pL u := e1
              obtain rfl : cs2 = pL v := e2
              have hq := fun W : World => eq_part (HW.out.1.2.2.2.1 u (List.mem_of_getElem? hg)) (HW.out.2.2.2.2.1 v (List.mem_of_getElem? hg2)) W
              have HR := Lib.hid (And.intro r1 r2)
              have HG := Lib.hid (And.intro hg hg2)
              clear hg hg2 r1 r2 hb hb' e91 e92
              cases he : decide (u = v)
              · simp only [he] at hq
                have EV := Lib.hid (show s ≠ t from fun e => list_ne HG.out.1 HG.out.2 (of_decide_eq_false he) (by rw [e]))
                clear he
                go_wp2_with fail
                have kq0 := cell_regrown m11
                have kq1 := cell_regrown n11
                refine wp_region_quiet_below (by kernel_rfl) (by kernel_rfl) ?_
                repeat (first | (refine quiet_load_mid (by rfl) 109 _ rfl _ _ rfl _ HR.out.1 _ Try.underlying109 rfl (by kernel_rfl) ?_; simp only [Act.put, List.setIfInBounds_toArray, List.set_cons_zero, List.set_cons_succ]) | (refine quiet_load_mid (by rfl) 109 _ rfl _ _ rfl _ HR.out.2 _ Try.underlying109 rfl (by kernel_rfl) ?_; simp only [Act.put, List.setIfInBounds_toArray, List.set_cons_zero, List.set_cons_succ]) | go_big_quiet_step (first | fail))
                refine wpQuiet_nil ?_
                intro _ hw'
                obtain ⟨⟨dq, osq⟩, hw''⟩ := hw'
                subst hw''
                have hBq := below_regrown wr dq osq
                clear kq0 kq1
                generalize grow (redrawn wr dq) osq = wq at *
                clear m11 n11
                go_wp2_with fail
                go_ret
                exact ⟨by rw [decide_eq_false EV.out]; rfl, below_up HT9.out (below_up hB.out hBq)⟩
              · simp only [he] at hq
                have HE := Lib.hid (of_decide_eq_true he)
                clear he
                go_wp2_with fail
                have kq0 := cell_regrown m11
                have kq1 := cell_regrown n11
                refine wp_region_quiet_below (by kernel_rfl) (by kernel_rfl) ?_
                repeat (first | (refine quiet_load_mid (by rfl) 109 _ rfl _ _ rfl _ HR.out.1 _ Try.underlying109 rfl (by kernel_rfl) ?_; simp only [Act.put, List.setIfInBounds_toArray, List.set_cons_zero, List.set_cons_succ]) | (refine quiet_load_mid (by rfl) 109 _ rfl _ _ rfl _ HR.out.2 _ Try.underlying109 rfl (by kernel_rfl) ?_; simp only [Act.put, List.setIfInBounds_toArray, List.set_cons_zero, List.set_cons_succ]) | go_big_quiet_step (first | fail))
                refine wpQuiet_nil ?_
                intro _ hw'
                obtain ⟨⟨dq, osq⟩, hw''⟩ := hw'
                subst hw''
                have hBq := below_regrown wr dq osq
                clear kq0 kq1
                generalize grow (redrawn wr dq) osq = wq at *
                clear m11 n11
                go_wp2_with fail
                go_roundw
                case rel => exact ⟨k + 1, by omega, by go_num, (fun j a b hj hu hv => by
                    rcases Nat.lt_or_ge j k with h | h
                    · exact hP.out j a b h hu hv
                    · obtain rfl : j = k := by omega
                      rw [HG.out.1] at hu; rw [HG.out.2] at hv; cases hu; cases hv; exact HE.out), below_up hB.out hBq⟩
                case measure => simp [intOf]; omega
            · obtain rfl : k = s.ps.length := by omega
              have HE_ps := Lib.hid (show s.ps = t.ps from list_eq HN_ps.out hP.out)
              have HT9b := Lib.hid (below_up HT9.out hB.out)
              have HI9b := Lib.hid (And.intro (HI9.out.1.up hB.out) (HI9.out.2.up hB.out))
              clear hP HT9 HI9 HK9 hlt hk hub
              go_upto_region 22 with fail
              clear m11 n11 hB
              have HK9 := Lib.hid HK.out
              have HT9 := Lib.hid HT9b.out
              have HI9 := Lib.hid HI9b.out
              clear HK HT9b HI9b
              generalize wr = W9 at *
              go_wp2_with fail
              have hub : s.ks.length ≤ 9223372036854775807 := HT.out.1.K
              go_loopw [10] (fun i wr => ∃ k : Nat, k ≤ s.ks.length ∧ i = .int .i64 k ∧ Hid (∀ (j : Nat) (a b : EV), j < k → s.ks[j]? = some a → t.ks[j]? = some b → a = b) ∧ Hid (Below W9.heap.size W9 wr))
                (fun i _ => s.ks.length - (intOf i).toNat)
              case atStart => exact ⟨0, Nat.zero_le _, rfl, (fun j a b h => by omega), Below.refl _ _⟩
              case round =>
                obtain ⟨k, hk, rfl, hP, hB⟩ := hrel
                have HK := Lib.hid (HK9.out.up hB.out)
                have m12 : wr.cell? ⟨w.heap.size, 12, none⟩ = some (.slice x.K s.ks.length x.ck) := HK.out.2.2.1.cell 12
                have n12 : wr.cell? ⟨w.heap.size + 1, 12, none⟩ = some (.slice y.K t.ks.length y.ck) := HK.out.2.2.2.cell 12
                by_cases hlt : k < s.ks.length
                · have hg : s.ks[k]? = some s.ks[k] := List.getElem?_eq_getElem hlt
                  generalize s.ks[k] = u at hg
                  have hkm : k < t.ks.length := by have := HN_ks.out; omega
                  have hg2 : t.ks[k]? = some t.ks[k] := List.getElem?_eq_getElem hkm
                  generalize t.ks[k] = v at hg2
                  have hki : (k : Int) < (s.ks.length : Int) := by omega
                  have hki2 : (k : Int) < (t.ks.length : Int) := by omega
                  have hki0 : (0 : Int) ≤ (k : Int) := by omega
                  obtain ⟨b, o, cs1, e91, hb, _, r1, e1⟩ := SlcAt.up eStays (HI9.out.1.K) hB.out k u hg
                  obtain ⟨b', o', cs2, e92, hb', _, r2, e2⟩ := SlcAt.up eStays (HI9.out.2.K) hB.out k v hg2
                  rw [e91] at m12
                  rw [e92] at n12
                  obtain rfl : cs1 = eL u := e1
                  obtain rfl : cs2 = eL v := e2
                  have hq := fun W : World => eq_keep (HW.out.1.2.2.2.2.1 u (List.mem_of_getElem? hg)) (HW.out.2.2.2.2.2.1 v (List.mem_of_getElem? hg2)) W
                  have HR := Lib.hid (And.intro r1 r2)
                  have HG := Lib.hid (And.intro hg hg2)
                  clear hg hg2 r1 r2 hb hb' e91 e92
                  cases he : decide (u = v)
                  · simp only [he] at hq
                    have EV := Lib.hid (show s ≠ t from fun e => list_ne HG.out.1 HG.out.2 (of_decide_eq_false he) (by rw [e]))
                    clear he
                    go_wp2_with fail
                    have kq0 := cell_regrown m12
                    have kq1 := cell_regrown n12
                    refine wp_region_quiet_below (by kernel_rfl) (by kernel_rfl) ?_
                    repeat (first | (refine quiet_load_mid (by rfl) 112 _ rfl _ _ rfl _ HR.out.1 _ Try.underlying112 rfl (by kernel_rfl) ?_; simp only [Act.put, List.setIfInBounds_toArray, List.set_cons_zero, List.set_cons_succ]) | (refine quiet_load_mid (by rfl) 112 _ rfl _ _ rfl _ HR.out.2 _ Try.underlying112 rfl (by kernel_rfl) ?_; simp only [Act.put, List.setIfInBounds_toArray, List.set_cons_zero, List.set_cons_succ]) | go_big_quiet_step (first | fail))
                    refine wpQuiet_nil ?_
                    intro _ hw'
                    obtain ⟨⟨dq, osq⟩, hw''⟩ := hw'
                    subst hw''
                    have hBq := below_regrown wr dq osq
                    clear kq0 kq1
                    generalize grow (redrawn wr dq) osq = wq at *
                    clear m12 n12
                    go_wp2_with fail
                    go_ret
                    exact ⟨by rw [decide_eq_false EV.out]; rfl, below_up HT9.out (below_up hB.out hBq)⟩
                  · simp only [he] at hq
                    have HE := Lib.hid (of_decide_eq_true he)
                    clear he
                    go_wp2_with fail
                    have kq0 := cell_regrown m12
                    have kq1 := cell_regrown n12
                    refine wp_region_quiet_below (by kernel_rfl) (by kernel_rfl) ?_
                    repeat (first | (refine quiet_load_mid (by rfl) 112 _ rfl _ _ rfl _ HR.out.1 _ Try.underlying112 rfl (by kernel_rfl) ?_; simp only [Act.put, List.setIfInBounds_toArray, List.set_cons_zero, List.set_cons_succ]) | (refine quiet_load_mid (by rfl) 112 _ rfl _ _ rfl _ HR.out.2 _ Try.underlying112 rfl (by kernel_rfl) ?_; simp only [Act.put, List.setIfInBounds_toArray, List.set_cons_zero, List.set_cons_succ]) | go_big_quiet_step (first | fail))
                    refine wpQuiet_nil ?_
                    intro _ hw'
                    obtain ⟨⟨dq, osq⟩, hw''⟩ := hw'
                    subst hw''
                    have hBq := below_regrown wr dq osq
                    clear kq0 kq1
                    generalize grow (redrawn wr dq) osq = wq at *
                    clear m12 n12
                    go_wp2_with fail
                    go_roundw
                    case rel => exact ⟨k + 1, by omega, by go_num, (fun j a b hj hu hv => by
                        rcases Nat.lt_or_ge j k with h | h
                        · exact hP.out j a b h hu hv
                        · obtain rfl : j = k := by omega
                          rw [HG.out.1] at hu; rw [HG.out.2] at hv; cases hu; cases hv; exact HE.out), below_up hB.out hBq⟩
                    case measure => simp [intOf]; omega
                · obtain rfl : k = s.ks.length := by omega
                  have HE_ks := Lib.hid (show s.ks = t.ks from list_eq HN_ks.out hP.out)
                  have HT9b := Lib.hid (below_up HT9.out hB.out)
                  have HI9b := Lib.hid (And.intro (HI9.out.1.up hB.out) (HI9.out.2.up hB.out))
                  clear hP HT9 HI9 HK9 hlt hk hub
                  go_upto_region 27 with fail
                  clear m12 n12 hB
                  have HK9 := Lib.hid HK.out
                  have HT9 := Lib.hid HT9b.out
                  have HI9 := Lib.hid HI9b.out
                  clear HK HT9b HI9b
                  generalize wr = W9 at *
                  have m13 : W9.cell? ⟨w.heap.size, 13, none⟩ = some (.slice x.D s.dn.length x.cd) := HK9.out.2.2.1.cell 13
                  have n13 : W9.cell? ⟨w.heap.size + 1, 13, none⟩ = some (.slice y.D t.dn.length y.cd) := HK9.out.2.2.2.cell 13
                  go_wp2_with fail
                  refine (rints28 x.D y.D x.cd y.cd s.dn t.dn HT.out.1.D HT.out.2.D _ HI9.out.1.D HI9.out.2.D).mono ?_
                  rintro e w1 ⟨rfl, hB1⟩
                  have HT1 := Lib.hid (below_up HT9.out hB1)
                  have HI1 := Lib.hid (And.intro (HI9.out.1.up hB1) (HI9.out.2.up hB1))
                  have HK1 := Lib.hid (HK9.out.up hB1)
                  clear hB1 m13 n13 HT9 HI9 HK9
                  cases e1 : decide (s.dn = t.dn)
                  · go_wp2_with fail
                    go_ret
                    exact ⟨by rw [decide_eq_false (fun e => of_decide_eq_false e1 (by rw [e]))]; rfl, HT1.out⟩
                  · have HE_dn := Lib.hid (of_decide_eq_true e1)
                    have m14 : w1.cell? ⟨w.heap.size, 14, none⟩ = some (.slice x.S s.sh.length x.cs) := HK1.out.2.2.1.cell 14
                    have n14 : w1.cell? ⟨w.heap.size + 1, 14, none⟩ = some (.slice y.S t.sh.length y.cs) := HK1.out.2.2.2.cell 14
                    go_wp2_with fail
                    refine (rints28 x.S y.S x.cs y.cs s.sh t.sh HT.out.1.S HT.out.2.S _ HI1.out.1.S HI1.out.2.S).mono ?_
                    rintro e w2 ⟨rfl, hB2⟩
                    have HT2 := Lib.hid (below_up HT1.out hB2)
                    have HI2 := Lib.hid (And.intro (HI1.out.1.up hB2) (HI1.out.2.up hB2))
                    have HK2 := Lib.hid (HK1.out.up hB2)
                    clear hB2 m14 n14 HT1 HI1 HK1 e1
                    cases e2 : decide (s.sh = t.sh)
                    · go_wp2_with fail
                      go_ret
                      exact ⟨by rw [decide_eq_false (fun e => of_decide_eq_false e2 (by rw [e]))]; rfl, HT2.out⟩
                    · have HE_sh := Lib.hid (of_decide_eq_true e2)
                      have m15 : w2.cell? ⟨w.heap.size, 15, none⟩ = some (.slice x.U s.cu.length x.cu) := HK2.out.2.2.1.cell 15
                      have n15 : w2.cell? ⟨w.heap.size + 1, 15, none⟩ = some (.slice y.U t.cu.length y.cu) := HK2.out.2.2.2.cell 15
                      go_wp2_with fail
                      refine (rints28 x.U y.U x.cu y.cu s.cu t.cu HT.out.1.U HT.out.2.U _ HI2.out.1.U HI2.out.2.U).mono ?_
                      rintro e w3 ⟨rfl, hB3⟩
                      have HT3 := Lib.hid (below_up HT2.out hB3)
                      clear hB3 m15 n15 e2 HT2 HI2 HK2
                      go_wp2_with fail
                      go_ret
                      exact ⟨by rw [show decide (s = t) = decide (s.cu = t.cu) from sv_last HE_dims.out HE_bo.out HE_fr.out HE_tr.out HE_ag.out HE_cs.out HE_nw.out HE_nx.out HE_js.out HE_ps.out HE_ks.out HE_dn.out HE_sh.out]; rfl, HT3.out⟩
end Go.Proofs.Ytfdldbfjeamlcaa.RecF3
/-! tidehallref28.Same. -/
namespace Go.Proofs.Ytfdldbfjeamlcaa.RecF4
open Go.RowKit RecGuard Mem RecMem RecByte RecNum RecEach RecMath RecCommand RecCmdJ RecEq RecKeys RecEqA RecJobs RecJobsA RecVal RecEqual RecEqual2 RecEqJ RecCfgs RecSame RecOwn RecSameA RecF1 RecF2 RecF3
set_option linter.unusedVariables false
set_option linter.unusedSimpArgs false

theorem rv_eq3 (r o : RV) : decide (r = o) = ((r.g == o.g) && (decide (r.s = o.s) && decide (r.c = o.c))) := by
  rw [Bool.eq_iff_iff]
  obtain ⟨_, _, _⟩ := r
  obtain ⟨_, _, _⟩ := o
  simp only [decide_eq_true_eq, Bool.and_eq_true, beq_iff_eq, RV.mk.injEq]
set_option maxRecDepth 100000 in
set_option maxHeartbeats 4000000 in
theorem rsame28 (r o : RV) (x y : SA) (Y Z : Option Addr) (cy cz : Nat) (hs : SWf r.s) (ht : SWf o.s) (hc : CWf r.c) (hd : CWf o.c) (hl : RTop r) (hm : RTop o) (w : World) (hx : StAt w r.s x) (hy : StAt w o.s y) (hY : IntsAt w Y r.c.af) (hZ : IntsAt w Z o.c.af) :
    Calls Try.prog 23 #[.agg #[.int .i64 r.g, .int .i64 r.s.d0, .int .i64 r.s.d1, .int .i64 r.s.d2, .int .i64 r.s.bo, .int .i64 r.s.fr, .int .i64 r.s.tr, .int .i64 r.s.ag, .slice x.C r.s.cs.length x.cc, .int .i64 r.s.nw, .int .i64 r.s.nx, .slice x.J r.s.js.length x.cj, .slice x.P r.s.ps.length x.cp, .slice x.K r.s.ks.length x.ck, .slice x.D r.s.dn.length x.cd, .slice x.S r.s.sh.length x.cs, .slice x.U r.s.cu.length x.cu, .int .u8 r.c.kd, .int .i64 r.c.id, .int .i64 r.c.us, .int .i64 r.c.cl, .int .i64 r.c.a, .int .i64 r.c.b, .int .i64 r.c.c, .bool r.c.p, .bool r.c.q, .bool r.c.r, .bool r.c.tn, .int .i64 r.c.wa, .int .i64 r.c.pr, .bool r.c.he, .slice Y r.c.af.length cy, .int .u8 r.c.st, .int .i64 r.c.ca, .int .i64 r.c.ci, .int .i64 r.c.b0, .int .i64 r.c.b1, .int .i64 r.c.b2, .int .i64 r.c.b3, .int .i64 r.c.b4, .int .i64 r.c.b5, .int .i64 r.c.fr, .int .i64 r.c.to, .int .i64 r.c.n, .bool r.c.we], .agg #[.int .i64 o.g, .int .i64 o.s.d0, .int .i64 o.s.d1, .int .i64 o.s.d2, .int .i64 o.s.bo, .int .i64 o.s.fr, .int .i64 o.s.tr, .int .i64 o.s.ag, .slice y.C o.s.cs.length y.cc, .int .i64 o.s.nw, .int .i64 o.s.nx, .slice y.J o.s.js.length y.cj, .slice y.P o.s.ps.length y.cp, .slice y.K o.s.ks.length y.ck, .slice y.D o.s.dn.length y.cd, .slice y.S o.s.sh.length y.cs, .slice y.U o.s.cu.length y.cu, .int .u8 o.c.kd, .int .i64 o.c.id, .int .i64 o.c.us, .int .i64 o.c.cl, .int .i64 o.c.a, .int .i64 o.c.b, .int .i64 o.c.c, .bool o.c.p, .bool o.c.q, .bool o.c.r, .bool o.c.tn, .int .i64 o.c.wa, .int .i64 o.c.pr, .bool o.c.he, .slice Z o.c.af.length cz, .int .u8 o.c.st, .int .i64 o.c.ca, .int .i64 o.c.ci, .int .i64 o.c.b0, .int .i64 o.c.b1, .int .i64 o.c.b2, .int .i64 o.c.b3, .int .i64 o.c.b4, .int .i64 o.c.b5, .int .i64 o.c.fr, .int .i64 o.c.to, .int .i64 o.c.n, .bool o.c.we]] w fun e w' => e = .returned (.bool (decide (r = o))) ∧ Below w.heap.size w w' := by
  have HI := Lib.hid (And.intro hx hy)
  have HYZ := Lib.hid (And.intro hY hZ)
  have HW := Lib.hid (And.intro hs (And.intro ht (And.intro hc hd)))
  have HT := Lib.hid (And.intro hl hm)
  have HV := Lib.hid (rv_eq3 r o)
  clear hY hZ hx hy hs ht hc hd hl hm
  go_enter Try.func23, Try.ntmps23
  go_upto_region 1 with fail
  have KA := Lib.hid ((Blk.new w 51 #[.int .i64 r.g, .int .i64 r.s.d0, .int .i64 r.s.d1, .int .i64 r.s.d2, .int .i64 r.s.bo, .int .i64 r.s.fr, .int .i64 r.s.tr, .int .i64 r.s.ag, .slice x.C r.s.cs.length x.cc, .int .i64 r.s.nw, .int .i64 r.s.nx, .slice x.J r.s.js.length x.cj, .slice x.P r.s.ps.length x.cp, .slice x.K r.s.ks.length x.ck, .slice x.D r.s.dn.length x.cd, .slice x.S r.s.sh.length x.cs, .slice x.U r.s.cu.length x.cu, .int .u8 r.c.kd, .int .i64 r.c.id, .int .i64 r.c.us, .int .i64 r.c.cl, .int .i64 r.c.a, .int .i64 r.c.b, .int .i64 r.c.c, .bool r.c.p, .bool r.c.q, .bool r.c.r, .bool r.c.tn, .int .i64 r.c.wa, .int .i64 r.c.pr, .bool r.c.he, .slice Y r.c.af.length cy, .int .u8 r.c.st, .int .i64 r.c.ca, .int .i64 r.c.ci, .int .i64 r.c.b0, .int .i64 r.c.b1, .int .i64 r.c.b2, .int .i64 r.c.b3, .int .i64 r.c.b4, .int .i64 r.c.b5, .int .i64 r.c.fr, .int .i64 r.c.to, .int .i64 r.c.n, .bool r.c.we]).alloc (.cells #[.int .i64 o.g, .int .i64 o.s.d0, .int .i64 o.s.d1, .int .i64 o.s.d2, .int .i64 o.s.bo, .int .i64 o.s.fr, .int .i64 o.s.tr, .int .i64 o.s.ag, .slice y.C o.s.cs.length y.cc, .int .i64 o.s.nw, .int .i64 o.s.nx, .slice y.J o.s.js.length y.cj, .slice y.P o.s.ps.length y.cp, .slice y.K o.s.ks.length y.ck, .slice y.D o.s.dn.length y.cd, .slice y.S o.s.sh.length y.cs, .slice y.U o.s.cu.length y.cu, .int .u8 o.c.kd, .int .i64 o.c.id, .int .i64 o.c.us, .int .i64 o.c.cl, .int .i64 o.c.a, .int .i64 o.c.b, .int .i64 o.c.c, .bool o.c.p, .bool o.c.q, .bool o.c.r, .bool o.c.tn, .int .i64 o.c.wa, .int .i64 o.c.pr, .bool o.c.he, .slice Z o.c.af.length cz, .int .u8 o.c.st, .int .i64 o.c.ca, .int .i64 o.c.ci, .int .i64 o.c.b0, .int .i64 o.c.b1, .int .i64 o.c.b2, .int .i64 o.c.b3, .int .i64 o.c.b4, .int .i64 o.c.b5, .int .i64 o.c.fr, .int .i64 o.c.to, .int .i64 o.c.n, .bool o.c.we] 51))
  have KB := Lib.hid (blk1 w 51 #[.int .i64 o.g, .int .i64 o.s.d0, .int .i64 o.s.d1, .int .i64 o.s.d2, .int .i64 o.s.bo, .int .i64 o.s.fr, .int .i64 o.s.tr, .int .i64 o.s.ag, .slice y.C o.s.cs.length y.cc, .int .i64 o.s.nw, .int .i64 o.s.nx, .slice y.J o.s.js.length y.cj, .slice y.P o.s.ps.length y.cp, .slice y.K o.s.ks.length y.ck, .slice y.D o.s.dn.length y.cd, .slice y.S o.s.sh.length y.cs, .slice y.U o.s.cu.length y.cu, .int .u8 o.c.kd, .int .i64 o.c.id, .int .i64 o.c.us, .int .i64 o.c.cl, .int .i64 o.c.a, .int .i64 o.c.b, .int .i64 o.c.c, .bool o.c.p, .bool o.c.q, .bool o.c.r, .bool o.c.tn, .int .i64 o.c.wa, .int .i64 o.c.pr, .bool o.c.he, .slice Z o.c.af.length cz, .int .u8 o.c.st, .int .i64 o.c.ca, .int .i64 o.c.ci, .int .i64 o.c.b0, .int .i64 o.c.b1, .int .i64 o.c.b2, .int .i64 o.c.b3, .int .i64 o.c.b4, .int .i64 o.c.b5, .int .i64 o.c.fr, .int .i64 o.c.to, .int .i64 o.c.n, .bool o.c.we] (o := .cells #[.int .i64 r.g, .int .i64 r.s.d0, .int .i64 r.s.d1, .int .i64 r.s.d2, .int .i64 r.s.bo, .int .i64 r.s.fr, .int .i64 r.s.tr, .int .i64 r.s.ag, .slice x.C r.s.cs.length x.cc, .int .i64 r.s.nw, .int .i64 r.s.nx, .slice x.J r.s.js.length x.cj, .slice x.P r.s.ps.length x.cp, .slice x.K r.s.ks.length x.ck, .slice x.D r.s.dn.length x.cd, .slice x.S r.s.sh.length x.cs, .slice x.U r.s.cu.length x.cu, .int .u8 r.c.kd, .int .i64 r.c.id, .int .i64 r.c.us, .int .i64 r.c.cl, .int .i64 r.c.a, .int .i64 r.c.b, .int .i64 r.c.c, .bool r.c.p, .bool r.c.q, .bool r.c.r, .bool r.c.tn, .int .i64 r.c.wa, .int .i64 r.c.pr, .bool r.c.he, .slice Y r.c.af.length cy, .int .u8 r.c.st, .int .i64 r.c.ca, .int .i64 r.c.ci, .int .i64 r.c.b0, .int .i64 r.c.b1, .int .i64 r.c.b2, .int .i64 r.c.b3, .int .i64 r.c.b4, .int .i64 r.c.b5, .int .i64 r.c.fr, .int .i64 r.c.to, .int .i64 r.c.n, .bool r.c.we] 51))
  have HB := Lib.hid (below_alloc (o := .cells #[.int .i64 o.g, .int .i64 o.s.d0, .int .i64 o.s.d1, .int .i64 o.s.d2, .int .i64 o.s.bo, .int .i64 o.s.fr, .int .i64 o.s.tr, .int .i64 o.s.ag, .slice y.C o.s.cs.length y.cc, .int .i64 o.s.nw, .int .i64 o.s.nx, .slice y.J o.s.js.length y.cj, .slice y.P o.s.ps.length y.cp, .slice y.K o.s.ks.length y.ck, .slice y.D o.s.dn.length y.cd, .slice y.S o.s.sh.length y.cs, .slice y.U o.s.cu.length y.cu, .int .u8 o.c.kd, .int .i64 o.c.id, .int .i64 o.c.us, .int .i64 o.c.cl, .int .i64 o.c.a, .int .i64 o.c.b, .int .i64 o.c.c, .bool o.c.p, .bool o.c.q, .bool o.c.r, .bool o.c.tn, .int .i64 o.c.wa, .int .i64 o.c.pr, .bool o.c.he, .slice Z o.c.af.length cz, .int .u8 o.c.st, .int .i64 o.c.ca, .int .i64 o.c.ci, .int .i64 o.c.b0, .int .i64 o.c.b1, .int .i64 o.c.b2, .int .i64 o.c.b3, .int .i64 o.c.b4, .int .i64 o.c.b5, .int .i64 o.c.fr, .int .i64 o.c.to, .int .i64 o.c.n, .bool o.c.we] 51) (below_alloc (o := .cells #[.int .i64 r.g, .int .i64 r.s.d0, .int .i64 r.s.d1, .int .i64 r.s.d2, .int .i64 r.s.bo, .int .i64 r.s.fr, .int .i64 r.s.tr, .int .i64 r.s.ag, .slice x.C r.s.cs.length x.cc, .int .i64 r.s.nw, .int .i64 r.s.nx, .slice x.J r.s.js.length x.cj, .slice x.P r.s.ps.length x.cp, .slice x.K r.s.ks.length x.ck, .slice x.D r.s.dn.length x.cd, .slice x.S r.s.sh.length x.cs, .slice x.U r.s.cu.length x.cu, .int .u8 r.c.kd, .int .i64 r.c.id, .int .i64 r.c.us, .int .i64 r.c.cl, .int .i64 r.c.a, .int .i64 r.c.b, .int .i64 r.c.c, .bool r.c.p, .bool r.c.q, .bool r.c.r, .bool r.c.tn, .int .i64 r.c.wa, .int .i64 r.c.pr, .bool r.c.he, .slice Y r.c.af.length cy, .int .u8 r.c.st, .int .i64 r.c.ca, .int .i64 r.c.ci, .int .i64 r.c.b0, .int .i64 r.c.b1, .int .i64 r.c.b2, .int .i64 r.c.b3, .int .i64 r.c.b4, .int .i64 r.c.b5, .int .i64 r.c.fr, .int .i64 r.c.to, .int .i64 r.c.n, .bool r.c.we] 51) (Below.refl w.heap.size w)))
  generalize (w.alloc (.cells #[.int .i64 r.g, .int .i64 r.s.d0, .int .i64 r.s.d1, .int .i64 r.s.d2, .int .i64 r.s.bo, .int .i64 r.s.fr, .int .i64 r.s.tr, .int .i64 r.s.ag, .slice x.C r.s.cs.length x.cc, .int .i64 r.s.nw, .int .i64 r.s.nx, .slice x.J r.s.js.length x.cj, .slice x.P r.s.ps.length x.cp, .slice x.K r.s.ks.length x.ck, .slice x.D r.s.dn.length x.cd, .slice x.S r.s.sh.length x.cs, .slice x.U r.s.cu.length x.cu, .int .u8 r.c.kd, .int .i64 r.c.id, .int .i64 r.c.us, .int .i64 r.c.cl, .int .i64 r.c.a, .int .i64 r.c.b, .int .i64 r.c.c, .bool r.c.p, .bool r.c.q, .bool r.c.r, .bool r.c.tn, .int .i64 r.c.wa, .int .i64 r.c.pr, .bool r.c.he, .slice Y r.c.af.length cy, .int .u8 r.c.st, .int .i64 r.c.ca, .int .i64 r.c.ci, .int .i64 r.c.b0, .int .i64 r.c.b1, .int .i64 r.c.b2, .int .i64 r.c.b3, .int .i64 r.c.b4, .int .i64 r.c.b5, .int .i64 r.c.fr, .int .i64 r.c.to, .int .i64 r.c.n, .bool r.c.we] 51)).alloc (.cells #[.int .i64 o.g, .int .i64 o.s.d0, .int .i64 o.s.d1, .int .i64 o.s.d2, .int .i64 o.s.bo, .int .i64 o.s.fr, .int .i64 o.s.tr, .int .i64 o.s.ag, .slice y.C o.s.cs.length y.cc, .int .i64 o.s.nw, .int .i64 o.s.nx, .slice y.J o.s.js.length y.cj, .slice y.P o.s.ps.length y.cp, .slice y.K o.s.ks.length y.ck, .slice y.D o.s.dn.length y.cd, .slice y.S o.s.sh.length y.cs, .slice y.U o.s.cu.length y.cu, .int .u8 o.c.kd, .int .i64 o.c.id, .int .i64 o.c.us, .int .i64 o.c.cl, .int .i64 o.c.a, .int .i64 o.c.b, .int .i64 o.c.c, .bool o.c.p, .bool o.c.q, .bool o.c.r, .bool o.c.tn, .int .i64 o.c.wa, .int .i64 o.c.pr, .bool o.c.he, .slice Z o.c.af.length cz, .int .u8 o.c.st, .int .i64 o.c.ca, .int .i64 o.c.ci, .int .i64 o.c.b0, .int .i64 o.c.b1, .int .i64 o.c.b2, .int .i64 o.c.b3, .int .i64 o.c.b4, .int .i64 o.c.b5, .int .i64 o.c.fr, .int .i64 o.c.to, .int .i64 o.c.n, .bool o.c.we] 51) = WB at *
  have a0 : WB.cell? ⟨w.heap.size, 0, none⟩ = some (.int .i64 r.g) := KA.out.cell 0
  have b0 : WB.cell? ⟨w.heap.size + 1, 0, none⟩ = some (.int .i64 o.g) := KB.out.cell 0
  have R1 := Lib.hid (show WB.rangeAt w.heap.size 1 [.int .i64 r.s.d0, .int .i64 r.s.d1, .int .i64 r.s.d2, .int .i64 r.s.bo, .int .i64 r.s.fr, .int .i64 r.s.tr, .int .i64 r.s.ag, .slice x.C r.s.cs.length x.cc, .int .i64 r.s.nw, .int .i64 r.s.nx, .slice x.J r.s.js.length x.cj, .slice x.P r.s.ps.length x.cp, .slice x.K r.s.ks.length x.ck, .slice x.D r.s.dn.length x.cd, .slice x.S r.s.sh.length x.cs, .slice x.U r.s.cu.length x.cu] from range_part (n := 16) KA.out rfl)
  have R2 := Lib.hid (show WB.rangeAt (w.heap.size + 1) 1 [.int .i64 o.s.d0, .int .i64 o.s.d1, .int .i64 o.s.d2, .int .i64 o.s.bo, .int .i64 o.s.fr, .int .i64 o.s.tr, .int .i64 o.s.ag, .slice y.C o.s.cs.length y.cc, .int .i64 o.s.nw, .int .i64 o.s.nx, .slice y.J o.s.js.length y.cj, .slice y.P o.s.ps.length y.cp, .slice y.K o.s.ks.length y.ck, .slice y.D o.s.dn.length y.cd, .slice y.S o.s.sh.length y.cs, .slice y.U o.s.cu.length y.cu] from range_part (n := 16) KB.out rfl)
  cases e0 : (r.g == o.g)
  · go_wp2_with fail
    go_ret
    exact ⟨by rw [HV.out]; simp only [e0, Bool.false_and]; rfl, HB.out⟩
  · go_wp2_with (first | (refine wpList_load_mid_g (by rfl) 49 _ rfl _ _ rfl _ _ R1.out Try.underlying49 rfl (by kernel_rfl) ?_) | (refine wpList_load_mid_g (by rfl) 49 _ rfl _ _ rfl _ _ R2.out Try.underlying49 rfl (by kernel_rfl) ?_))
    refine (rsameState28 r.s o.s x y HW.out.1 HW.out.2.1 (rtop_st HT.out.1) (rtop_st HT.out.2) _ (HI.out.1.up HB.out) (HI.out.2.up HB.out)).mono ?_
    rintro e w1 ⟨rfl, hB1⟩
    have HB1 := Lib.hid (below_up HB.out hB1)
    have R3 := Lib.hid (show w1.rangeAt w.heap.size 17 [.int .u8 r.c.kd, .int .i64 r.c.id, .int .i64 r.c.us, .int .i64 r.c.cl, .int .i64 r.c.a, .int .i64 r.c.b, .int .i64 r.c.c, .bool r.c.p, .bool r.c.q, .bool r.c.r, .bool r.c.tn, .int .i64 r.c.wa, .int .i64 r.c.pr, .bool r.c.he, .slice Y r.c.af.length cy, .int .u8 r.c.st, .int .i64 r.c.ca, .int .i64 r.c.ci, .int .i64 r.c.b0, .int .i64 r.c.b1, .int .i64 r.c.b2, .int .i64 r.c.b3, .int .i64 r.c.b4, .int .i64 r.c.b5, .int .i64 r.c.fr, .int .i64 r.c.to, .int .i64 r.c.n, .bool r.c.we] from range_part (n := 28) (KA.out.below hB1 KA.out.lt) rfl)
    have R4 := Lib.hid (show w1.rangeAt (w.heap.size + 1) 17 [.int .u8 o.c.kd, .int .i64 o.c.id, .int .i64 o.c.us, .int .i64 o.c.cl, .int .i64 o.c.a, .int .i64 o.c.b, .int .i64 o.c.c, .bool o.c.p, .bool o.c.q, .bool o.c.r, .bool o.c.tn, .int .i64 o.c.wa, .int .i64 o.c.pr, .bool o.c.he, .slice Z o.c.af.length cz, .int .u8 o.c.st, .int .i64 o.c.ca, .int .i64 o.c.ci, .int .i64 o.c.b0, .int .i64 o.c.b1, .int .i64 o.c.b2, .int .i64 o.c.b3, .int .i64 o.c.b4, .int .i64 o.c.b5, .int .i64 o.c.fr, .int .i64 o.c.to, .int .i64 o.c.n, .bool o.c.we] from range_part (n := 28) (KB.out.below hB1 KB.out.lt) rfl)
    clear hB1 a0 b0 R1 R2 KA KB HB
    cases e1 : decide (r.s = o.s)
    · go_wp2_with fail
      go_ret
      exact ⟨by rw [HV.out]; simp only [e0, e1, Bool.false_and, Bool.true_and]; rfl, HB1.out⟩
    · go_wp2_with (first | (refine wpList_load_mid_g (by rfl) 34 _ rfl _ _ rfl _ _ R3.out Try.underlying34 rfl (by kernel_rfl) ?_) | (refine wpList_load_mid_g (by rfl) 34 _ rfl _ _ rfl _ _ R4.out Try.underlying34 rfl (by kernel_rfl) ?_))
      refine (rsameCmd28 r.c o.c Y Z cy cz HW.out.2.2.1 HW.out.2.2.2 HT.out.1.F HT.out.2.F _ (HYZ.out.1.up HB1.out) (HYZ.out.2.up HB1.out)).mono ?_
      rintro e w2 ⟨rfl, hB2⟩
      have HB2 := Lib.hid (below_up HB1.out hB2)
      clear hB2
      go_wp2_with fail
      go_ret
      exact ⟨by rw [HV.out]; simp only [e0, e1, Bool.true_and]; rfl, HB2.out⟩
end Go.Proofs.Ytfdldbfjeamlcaa.RecF4
/-! tidehallref28.Great answers. -/
namespace Go.Proofs.Ytfdldbfjeamlcaa.RecGreat
open Go.RowKit RecGuard Mem RecMem RecByte RecNum RecEach RecMath RecCommand RecCmdJ RecEq RecKeys RecEqA RecJobs RecJobsA RecVal RecEqual RecEqual2 RecEqJ RecCfgs RecSame RecOwn RecSameA RecF1
set_option linter.unusedVariables false
set_option linter.unusedSimpArgs false

/-- A truth, whichever. -/
def Says (e : Ending) : Prop := ∃ B, e = .returned (.bool B)
set_option maxRecDepth 100000 in
set_option maxHeartbeats 4000000 in
/-- The reference's Great answers something. -/
theorem rgreat28 (r : RV) (x : SA) (Y : Option Addr) (cy : Nat) (ht : RTop r) (w : World) (hx : StAt w r.s x) :
    Calls Try.prog 20 #[.agg #[.int .i64 r.g, .int .i64 r.s.d0, .int .i64 r.s.d1, .int .i64 r.s.d2, .int .i64 r.s.bo, .int .i64 r.s.fr, .int .i64 r.s.tr, .int .i64 r.s.ag, .slice x.C r.s.cs.length x.cc, .int .i64 r.s.nw, .int .i64 r.s.nx, .slice x.J r.s.js.length x.cj, .slice x.P r.s.ps.length x.cp, .slice x.K r.s.ks.length x.ck, .slice x.D r.s.dn.length x.cd, .slice x.S r.s.sh.length x.cs, .slice x.U r.s.cu.length x.cu, .int .u8 r.c.kd, .int .i64 r.c.id, .int .i64 r.c.us, .int .i64 r.c.cl, .int .i64 r.c.a, .int .i64 r.c.b, .int .i64 r.c.c, .bool r.c.p, .bool r.c.q, .bool r.c.r, .bool r.c.tn, .int .i64 r.c.wa, .int .i64 r.c.pr, .bool r.c.he, .slice Y r.c.af.length cy, .int .u8 r.c.st, .int .i64 r.c.ca, .int .i64 r.c.ci, .int .i64 r.c.b0, .int .i64 r.c.b1, .int .i64 r.c.b2, .int .i64 r.c.b3, .int .i64 r.c.b4, .int .i64 r.c.b5, .int .i64 r.c.fr, .int .i64 r.c.to, .int .i64 r.c.n, .bool r.c.we]] w fun e w' => Says e ∧ Below w.heap.size w w' := by
  have HI := Lib.hid hx
  have HT := Lib.hid ht
  clear hx ht
  go_enter Try.func20, Try.ntmps20
  go_upto_region 1 with fail
  have KA := Lib.hid (Blk.new w 51 #[.int .i64 r.g, .int .i64 r.s.d0, .int .i64 r.s.d1, .int .i64 r.s.d2, .int .i64 r.s.bo, .int .i64 r.s.fr, .int .i64 r.s.tr, .int .i64 r.s.ag, .slice x.C r.s.cs.length x.cc, .int .i64 r.s.nw, .int .i64 r.s.nx, .slice x.J r.s.js.length x.cj, .slice x.P r.s.ps.length x.cp, .slice x.K r.s.ks.length x.ck, .slice x.D r.s.dn.length x.cd, .slice x.S r.s.sh.length x.cs, .slice x.U r.s.cu.length x.cu, .int .u8 r.c.kd, .int .i64 r.c.id, .int .i64 r.c.us, .int .i64 r.c.cl, .int .i64 r.c.a, .int .i64 r.c.b, .int .i64 r.c.c, .bool r.c.p, .bool r.c.q, .bool r.c.r, .bool r.c.tn, .int .i64 r.c.wa, .int .i64 r.c.pr, .bool r.c.he, .slice Y r.c.af.length cy, .int .u8 r.c.st, .int .i64 r.c.ca, .int .i64 r.c.ci, .int .i64 r.c.b0, .int .i64 r.c.b1, .int .i64 r.c.b2, .int .i64 r.c.b3, .int .i64 r.c.b4, .int .i64 r.c.b5, .int .i64 r.c.fr, .int .i64 r.c.to, .int .i64 r.c.n, .bool r.c.we])
  have HB := Lib.hid (below_alloc (o := .cells #[.int .i64 r.g, .int .i64 r.s.d0, .int .i64 r.s.d1, .int .i64 r.s.d2, .int .i64 r.s.bo, .int .i64 r.s.fr, .int .i64 r.s.tr, .int .i64 r.s.ag, .slice x.C r.s.cs.length x.cc, .int .i64 r.s.nw, .int .i64 r.s.nx, .slice x.J r.s.js.length x.cj, .slice x.P r.s.ps.length x.cp, .slice x.K r.s.ks.length x.ck, .slice x.D r.s.dn.length x.cd, .slice x.S r.s.sh.length x.cs, .slice x.U r.s.cu.length x.cu, .int .u8 r.c.kd, .int .i64 r.c.id, .int .i64 r.c.us, .int .i64 r.c.cl, .int .i64 r.c.a, .int .i64 r.c.b, .int .i64 r.c.c, .bool r.c.p, .bool r.c.q, .bool r.c.r, .bool r.c.tn, .int .i64 r.c.wa, .int .i64 r.c.pr, .bool r.c.he, .slice Y r.c.af.length cy, .int .u8 r.c.st, .int .i64 r.c.ca, .int .i64 r.c.ci, .int .i64 r.c.b0, .int .i64 r.c.b1, .int .i64 r.c.b2, .int .i64 r.c.b3, .int .i64 r.c.b4, .int .i64 r.c.b5, .int .i64 r.c.fr, .int .i64 r.c.to, .int .i64 r.c.n, .bool r.c.we] 51) (Below.refl w.heap.size w))
  generalize w.alloc (.cells #[.int .i64 r.g, .int .i64 r.s.d0, .int .i64 r.s.d1, .int .i64 r.s.d2, .int .i64 r.s.bo, .int .i64 r.s.fr, .int .i64 r.s.tr, .int .i64 r.s.ag, .slice x.C r.s.cs.length x.cc, .int .i64 r.s.nw, .int .i64 r.s.nx, .slice x.J r.s.js.length x.cj, .slice x.P r.s.ps.length x.cp, .slice x.K r.s.ks.length x.ck, .slice x.D r.s.dn.length x.cd, .slice x.S r.s.sh.length x.cs, .slice x.U r.s.cu.length x.cu, .int .u8 r.c.kd, .int .i64 r.c.id, .int .i64 r.c.us, .int .i64 r.c.cl, .int .i64 r.c.a, .int .i64 r.c.b, .int .i64 r.c.c, .bool r.c.p, .bool r.c.q, .bool r.c.r, .bool r.c.tn, .int .i64 r.c.wa, .int .i64 r.c.pr, .bool r.c.he, .slice Y r.c.af.length cy, .int .u8 r.c.st, .int .i64 r.c.ca, .int .i64 r.c.ci, .int .i64 r.c.b0, .int .i64 r.c.b1, .int .i64 r.c.b2, .int .i64 r.c.b3, .int .i64 r.c.b4, .int .i64 r.c.b5, .int .i64 r.c.fr, .int .i64 r.c.to, .int .i64 r.c.n, .bool r.c.we] 51) = W0 at *
  have R1 := Lib.hid (show W0.rangeAt w.heap.size 1 [.int .i64 r.s.d0, .int .i64 r.s.d1, .int .i64 r.s.d2, .int .i64 r.s.bo, .int .i64 r.s.fr, .int .i64 r.s.tr, .int .i64 r.s.ag, .slice x.C r.s.cs.length x.cc, .int .i64 r.s.nw, .int .i64 r.s.nx, .slice x.J r.s.js.length x.cj, .slice x.P r.s.ps.length x.cp, .slice x.K r.s.ks.length x.ck, .slice x.D r.s.dn.length x.cd, .slice x.S r.s.sh.length x.cs, .slice x.U r.s.cu.length x.cu] from range_part (n := 16) KA.out rfl)
  have x1 := box_full (W := W0) 49 #[.int .i64 0, .int .i64 0, .int .i64 0, .int .i64 0, .int .i64 0, .int .i64 0, .int .i64 0, .slice none 0 0, .int .i64 0, .int .i64 0, .slice none 0 0, .slice none 0 0, .slice none 0 0, .slice none 0 0, .slice none 0 0, .slice none 0 0] (vs := [.int .i64 r.s.d0, .int .i64 r.s.d1, .int .i64 r.s.d2, .int .i64 r.s.bo, .int .i64 r.s.fr, .int .i64 r.s.tr, .int .i64 r.s.ag, .slice x.C r.s.cs.length x.cc, .int .i64 r.s.nw, .int .i64 r.s.nx, .slice x.J r.s.js.length x.cj, .slice x.P r.s.ps.length x.cp, .slice x.K r.s.ks.length x.ck, .slice x.D r.s.dn.length x.cd, .slice x.S r.s.sh.length x.cs, .slice x.U r.s.cu.length x.cu]) rfl
  go_upto_region 2 with (first | (refine wpList_load_mid rfl 49 _ rfl _ _ rfl _ _ R1.out Try.underlying49 rfl (by kernel_rfl) ?_) | (refine wpList_store_mid rfl 49 _ _ rfl W0.heap.size 0 (List.toArray [.int .i64 r.s.d0, .int .i64 r.s.d1, .int .i64 r.s.d2, .int .i64 r.s.bo, .int .i64 r.s.fr, .int .i64 r.s.tr, .int .i64 r.s.ag, .slice x.C r.s.cs.length x.cc, .int .i64 r.s.nw, .int .i64 r.s.nx, .slice x.J r.s.js.length x.cj, .slice x.P r.s.ps.length x.cp, .slice x.K r.s.ks.length x.ck, .slice x.D r.s.dn.length x.cd, .slice x.S r.s.sh.length x.cs, .slice x.U r.s.cu.length x.cu]) rfl rfl (there_of (Blk.new W0 49 #[.int .i64 0, .int .i64 0, .int .i64 0, .int .i64 0, .int .i64 0, .int .i64 0, .int .i64 0, .slice none 0 0, .int .i64 0, .int .i64 0, .slice none 0 0, .slice none 0 0, .slice none 0 0, .slice none 0 0, .slice none 0 0, .slice none 0 0]) (Nat.le_of_ble_eq_true rfl)) (by kernel_rfl) (by kernel_rfl) ?_; simp only [List.toList_toArray]; generalize World.setCells _ _ _ _ = W1 at *; (try simp only [Act.put])))
  have HB2 := Lib.hid (below_up HB.out x1.2)
  have KA2 := Lib.hid (KA.out.below x1.2 KA.out.lt)
  obtain ⟨g3, hg3⟩ : ∃ n, n = W0.heap.size := ⟨_, rfl⟩
  rw [← hg3] at x1
  rw [← hg3]
  have K3 := Lib.hid x1.1
  clear x1 R1 KA HB hg3
  have c31 : W1.cell? ⟨w.heap.size, 31, none⟩ = some (.slice Y r.c.af.length cy) := KA2.out.cell 31
  have m7 : W1.cell? ⟨g3, 7, none⟩ = some (.slice x.C r.s.cs.length x.cc) := K3.out.cell 7
  have m10 : W1.cell? ⟨g3, 10, none⟩ = some (.slice x.J r.s.js.length x.cj) := K3.out.cell 10
  have m11 : W1.cell? ⟨g3, 11, none⟩ = some (.slice x.P r.s.ps.length x.cp) := K3.out.cell 11
  have m12 : W1.cell? ⟨g3, 12, none⟩ = some (.slice x.K r.s.ks.length x.ck) := K3.out.cell 12
  have m13 : W1.cell? ⟨g3, 13, none⟩ = some (.slice x.D r.s.dn.length x.cd) := K3.out.cell 13
  have m14 : W1.cell? ⟨g3, 14, none⟩ = some (.slice x.S r.s.sh.length x.cs) := K3.out.cell 14
  have m15 : W1.cell? ⟨g3, 15, none⟩ = some (.slice x.U r.s.cu.length x.cu) := K3.out.cell 15
  have HI1 := Lib.hid (HI.out.up HB2.out)
  go_wp2_with fail
  clear c31 m7 m11 m12 m13 m14 m15 KA2 m10
  have hub : r.s.js.length ≤ 9223372036854775807 := HT.out.J
  go_loopw [4, 5] (fun n i wr => ∃ (k : Nat) (u : Int), n = .int .i64 u ∧ k ≤ r.s.js.length ∧ k ≤ 2000 ∧ i = .int .i64 k ∧ Hid (Below W1.heap.size W1 wr))
    (fun n i _ => r.s.js.length - (intOf i).toNat)
  case atStart => exact ⟨0, _, rfl, Nat.zero_le _, Nat.zero_le _, rfl, Below.refl _ _⟩
  case round =>
    obtain ⟨k, u, rfl, hk, hk2, rfl, hB⟩ := hrel
    have m10 : wr.cell? ⟨g3, 10, none⟩ = some (.slice x.J r.s.js.length x.cj) := (K3.out.below hB.out K3.out.lt).cell 10
    have HF := Lib.hid (below_up HB2.out hB.out)
    by_cases hlt : k < r.s.js.length
    · have hki : (k : Int) < (r.s.js.length : Int) := by omega
      have hki0 : (0 : Int) ≤ (k : Int) := by omega
      by_cases h2 : k < 2000
      · have hk20 : (k : Int) < 2000 := by omega
        have hg : r.s.js[k]? = some r.s.js[k] := List.getElem?_eq_getElem hlt
        generalize r.s.js[k] = v at hg
        obtain ⟨b, o, cs, e91, hb, _, r1, Yv, cv, rfl, _, _⟩ := SlcAt.up jStays HI1.out.J hB.out k v hg
        rw [e91] at m10
        have c13 := r1 13 _ rfl
        have HG := Lib.hid hg
        clear hg e91 r1
        go_wp2_with fail
        go_roundw
        case rel => exact ⟨k + 1, _, rfl, by omega, by omega, by go_num, hB.out⟩
        case measure => simp [intOf]; omega
      · have hk20 : ¬ (k : Int) < 2000 := by omega
        go_wp2_with fail
        go_ret
        exact ⟨⟨_, rfl⟩, HF.out⟩
    · have hki : ¬ (k : Int) < (r.s.js.length : Int) := by omega
      go_wp2_with fail
      go_ret
      exact ⟨⟨_, rfl⟩, HF.out⟩
end Go.Proofs.Ytfdldbfjeamlcaa.RecGreat
/-! Layer 28's first examples. No conditions. -/
namespace Go.Proofs.Ytfdldbfjeamlcaa.RecAlive2
open Go.RowKit Mem RecMem RecByte RecNum RecEach RecMath RecPort RecCmd RecCommand RecCmdJ RecEq RecJobs RecSame RecWr0 RecVal RecRecC RecWOk RecAll LogMath
set_option linter.unusedVariables false
set_option linter.unusedSimpArgs false

def cTick : CV := { CV.z with kd := 7, n := 5 }
def cBoot : CV := { CV.z with kd := 8, ci := 1, we := true }
theorem tick_wf : CWf cTick := ⟨by decide, by decide⟩
theorem boot_wf : CWf cBoot := ⟨by decide, by decide⟩
theorem facts_of {c : CV} (h : CWf c) (hl : c.af.length ≤ 1000) : RFacts ⟨0, SV.z, c⟩ := ⟨RecWrite0.z_wf, h, RecRecC.z64, ⟨Nat.zero_le _, Nat.zero_le _, Nat.zero_le _, Nat.zero_le _, Nat.zero_le _, Nat.zero_le _, Nat.zero_le _, (fun j hj => by cases hj), by show c.af.length ≤ _; omega⟩, by show c.af.length ≤ _; omega⟩
theorem okR_of {c : CV} (h : CWf c) (hm : mayK c.kd = true) (hl : c.af.length ≤ 1000) (ho : own c = c) : okR ⟨0, SV.z, c⟩ := (okR_cmd rfl h).2 ⟨hm, hl, by rw [ho]⟩
theorem tick_bytes : nB 0 ++ cmdB cTick = [0, 0, 0, 0, 0, 0, 0, 0, 7, 5, 0, 0, 0, 0, 0, 0, 0] := by decide
theorem boot_bytes : nB 0 ++ cmdB cBoot = [0, 0, 0, 0, 0, 0, 0, 0, 8, 1, 0, 0, 0, 0, 0, 0, 0, 1] := by decide
/-- Records of the first examples. -/
theorem wtick (w : World) : Calls Try.prog 17 #[.agg (recA cTick none 0)] w fun e w' => (∃ X cc, e = .returned (.tuple #[.slice X 17 cc, .int .i64 0]) ∧ 17 ≤ cc ∧ cc ≤ maxLen ∧ BytesAt w' X [0, 0, 0, 0, 0, 0, 0, 0, 7, 5, 0, 0, 0, 0, 0, 0, 0]) ∧ Below w.heap.size w w' := by
  have h := write_v ⟨0, SV.z, cTick⟩ SA.z none 0 (facts_of tick_wf (by decide)) w ⟨StAt.z, IntsAt.nil, Nat.zero_le _⟩
  refine Calls.mono (show Calls Try.prog 17 #[.agg (recA cTick none 0)] w _ from h) ?_
  rintro e w' ⟨⟨X, n, cc, v, rfl, hV, h1, h2, _, h3⟩, hB⟩
  have hb : recB ⟨0, SV.z, cTick⟩ = [0, 0, 0, 0, 0, 0, 0, 0, 7, 5, 0, 0, 0, 0, 0, 0, 0] := by rw [recB_cmd rfl]; exact tick_bytes
  have e0 : v = 0 := hV.ok.2 ⟨okR_of tick_wf (by decide) (by decide) (by decide), by rw [hb]; decide⟩
  obtain ⟨h4, h5⟩ := h3 e0
  rw [hb] at h4 h5
  subst e0
  have h4 : n = 17 := h4
  subst h4
  exact ⟨⟨X, cc, rfl, h1, h2, h5⟩, hB⟩
theorem wboot (w : World) : Calls Try.prog 17 #[.agg (recA cBoot none 0)] w fun e w' => (∃ X cc, e = .returned (.tuple #[.slice X 18 cc, .int .i64 0]) ∧ 18 ≤ cc ∧ cc ≤ maxLen ∧ BytesAt w' X [0, 0, 0, 0, 0, 0, 0, 0, 8, 1, 0, 0, 0, 0, 0, 0, 0, 1]) ∧ Below w.heap.size w w' := by
  have h := write_v ⟨0, SV.z, cBoot⟩ SA.z none 0 (facts_of boot_wf (by decide)) w ⟨StAt.z, IntsAt.nil, Nat.zero_le _⟩
  refine Calls.mono (show Calls Try.prog 17 #[.agg (recA cBoot none 0)] w _ from h) ?_
  rintro e w' ⟨⟨X, n, cc, v, rfl, hV, h1, h2, _, h3⟩, hB⟩
  have hb : recB ⟨0, SV.z, cBoot⟩ = [0, 0, 0, 0, 0, 0, 0, 0, 8, 1, 0, 0, 0, 0, 0, 0, 0, 1] := by rw [recB_cmd rfl]; exact boot_bytes
  have e0 : v = 0 := hV.ok.2 ⟨okR_of boot_wf (by decide) (by decide) (by decide), by rw [hb]; decide⟩
  obtain ⟨h4, h5⟩ := h3 e0
  rw [hb] at h4 h5
  subst e0
  have h4 : n = 18 := h4
  subst h4
  exact ⟨⟨X, cc, rfl, h1, h2, h5⟩, hB⟩
set_option maxRecDepth 100000 in
set_option maxHeartbeats 2000000 in
theorem alive28 (w : World) : Calls Try.prog 15 #[] w fun e w' => e = .returned (.bool true) ∧ Below w.heap.size w w' := by
  go_enter Try.func15, Try.ntmps15
  go_wp2_with fail
  refine (wtick w).mono ?_
  rintro e w1 ⟨⟨X, cx, rfl, _, _, hX⟩, hB1⟩
  have H1 := Lib.hid (And.intro hX hB1)
  clear hX hB1
  go_wp2_with fail
  refine (wboot w1).mono ?_
  rintro e w2 ⟨⟨Y, cy, rfl, _, _, hY⟩, hB2⟩
  have k1 := run_strOf (n := 17) (c := cx) (H1.out.1.up hB2)
  have k2 := run_strOf (n := 18) (c := cy) hY
  rw [show strOf [0, 0, 0, 0, 0, 0, 0, 0, 7, 5, 0, 0, 0, 0, 0, 0, 0] = ⟨#[0, 0, 0, 0, 0, 0, 0, 0, 7, 5, 0, 0, 0, 0, 0, 0, 0]⟩ from rfl] at k1
  rw [show strOf [0, 0, 0, 0, 0, 0, 0, 0, 8, 1, 0, 0, 0, 0, 0, 0, 0, 1] = ⟨#[0, 0, 0, 0, 0, 0, 0, 0, 8, 1, 0, 0, 0, 0, 0, 0, 0, 1]⟩ from rfl] at k2
  have e1 : (([0, 0, 0, 0, 0, 0, 0, 0, 7, 5, 0, 0, 0, 0, 0, 0, 0] : List UInt8) == ((⟨#[0, 0, 0, 0, 0, 0, 0]⟩ : ByteArray) ++ ⟨#[0, 7, 5]⟩ ++ ⟨#[0, 0, 0, 0, 0, 0, 0]⟩).toList) = true := by decide +kernel
  have e2 : (([0, 0, 0, 0, 0, 0, 0, 0, 8, 1, 0, 0, 0, 0, 0, 0, 0, 1] : List UInt8) == ((⟨#[0, 0, 0, 0, 0, 0, 0]⟩ : ByteArray) ++ ⟨#[0, 8, 1]⟩ ++ ⟨#[0, 0, 0, 0, 0, 0, 0]⟩ ++ ⟨#[1]⟩).toList) = true := by decide +kernel
  have H2 := Lib.hid (below_up H1.out.2 hB2)
  clear hY hB2 H1
  go_wp2_with fail
  go_ret
  exact ⟨rfl, H2.out⟩
end Go.Proofs.Ytfdldbfjeamlcaa.RecAlive2
/-! RecBack answers yes. -/
namespace Go.Proofs.Ytfdldbfjeamlcaa.RecBackW
open Go.Sort Go.RowKit RecGuard Mem RecMem RecByte RecNum RecEach RecMath RecCod RecCods RecPort RecCommand RecCmdJ RecVal RecSame RecWr0 RecWrite RecAlive2 RecOwn RecRecC RecSameA RecRead RecAt RecWrite0 RecAll RecF4 RecGreat LogMath QuietRow
set_option linter.unusedVariables false
set_option linter.unusedSimpArgs false

set_option maxRecDepth 100000 in
set_option maxHeartbeats 6000000 in
theorem walkBack (w : World) (r : RV) (x : SA) (Y : Option Addr) (cy : Nat) (F : RFacts r) (hR : RIs w r x Y cy) (X : Option Addr) (c : Nat) (t : Bs) (hc : t.length ≤ c) (hm : c ≤ maxLen) (hX : TxtAt w X t) (ho : Oct t) :
    Calls Try.prog 6 #[.agg #[.int .i64 r.g, .int .i64 r.s.d0, .int .i64 r.s.d1, .int .i64 r.s.d2, .int .i64 r.s.bo, .int .i64 r.s.fr, .int .i64 r.s.tr, .int .i64 r.s.ag, .slice x.C r.s.cs.length x.cc, .int .i64 r.s.nw, .int .i64 r.s.nx, .slice x.J r.s.js.length x.cj, .slice x.P r.s.ps.length x.cp, .slice x.K r.s.ks.length x.ck, .slice x.D r.s.dn.length x.cd, .slice x.S r.s.sh.length x.cs, .slice x.U r.s.cu.length x.cu, .int .u8 r.c.kd, .int .i64 r.c.id, .int .i64 r.c.us, .int .i64 r.c.cl, .int .i64 r.c.a, .int .i64 r.c.b, .int .i64 r.c.c, .bool r.c.p, .bool r.c.q, .bool r.c.r, .bool r.c.tn, .int .i64 r.c.wa, .int .i64 r.c.pr, .bool r.c.he, .slice Y r.c.af.length cy, .int .u8 r.c.st, .int .i64 r.c.ca, .int .i64 r.c.ci, .int .i64 r.c.b0, .int .i64 r.c.b1, .int .i64 r.c.b2, .int .i64 r.c.b3, .int .i64 r.c.b4, .int .i64 r.c.b5, .int .i64 r.c.fr, .int .i64 r.c.to, .int .i64 r.c.n, .bool r.c.we], .slice X t.length c] w fun e w' => e = .returned (.bool true) ∧ Below w.heap.size w w' := by
  have HR := Lib.hid (And.intro hR hX)
  have HF := Lib.hid (And.intro F (And.intro ho (And.intro hc hm)))
  have hlm : t.length ≤ 9223372036854775807 := by simp only [maxLen] at hm; omega
  clear hR hX F ho hc hm
  go_enter Try.func6, Try.ntmps6
  go_upto_region 1 with fail
  have K0 := Lib.hid (Blk.new w 51 #[.int .i64 r.g, .int .i64 r.s.d0, .int .i64 r.s.d1, .int .i64 r.s.d2, .int .i64 r.s.bo, .int .i64 r.s.fr, .int .i64 r.s.tr, .int .i64 r.s.ag, .slice x.C r.s.cs.length x.cc, .int .i64 r.s.nw, .int .i64 r.s.nx, .slice x.J r.s.js.length x.cj, .slice x.P r.s.ps.length x.cp, .slice x.K r.s.ks.length x.ck, .slice x.D r.s.dn.length x.cd, .slice x.S r.s.sh.length x.cs, .slice x.U r.s.cu.length x.cu, .int .u8 r.c.kd, .int .i64 r.c.id, .int .i64 r.c.us, .int .i64 r.c.cl, .int .i64 r.c.a, .int .i64 r.c.b, .int .i64 r.c.c, .bool r.c.p, .bool r.c.q, .bool r.c.r, .bool r.c.tn, .int .i64 r.c.wa, .int .i64 r.c.pr, .bool r.c.he, .slice Y r.c.af.length cy, .int .u8 r.c.st, .int .i64 r.c.ca, .int .i64 r.c.ci, .int .i64 r.c.b0, .int .i64 r.c.b1, .int .i64 r.c.b2, .int .i64 r.c.b3, .int .i64 r.c.b4, .int .i64 r.c.b5, .int .i64 r.c.fr, .int .i64 r.c.to, .int .i64 r.c.n, .bool r.c.we])
  have HB0 := Lib.hid (below_alloc (o := .cells #[.int .i64 r.g, .int .i64 r.s.d0, .int .i64 r.s.d1, .int .i64 r.s.d2, .int .i64 r.s.bo, .int .i64 r.s.fr, .int .i64 r.s.tr, .int .i64 r.s.ag, .slice x.C r.s.cs.length x.cc, .int .i64 r.s.nw, .int .i64 r.s.nx, .slice x.J r.s.js.length x.cj, .slice x.P r.s.ps.length x.cp, .slice x.K r.s.ks.length x.ck, .slice x.D r.s.dn.length x.cd, .slice x.S r.s.sh.length x.cs, .slice x.U r.s.cu.length x.cu, .int .u8 r.c.kd, .int .i64 r.c.id, .int .i64 r.c.us, .int .i64 r.c.cl, .int .i64 r.c.a, .int .i64 r.c.b, .int .i64 r.c.c, .bool r.c.p, .bool r.c.q, .bool r.c.r, .bool r.c.tn, .int .i64 r.c.wa, .int .i64 r.c.pr, .bool r.c.he, .slice Y r.c.af.length cy, .int .u8 r.c.st, .int .i64 r.c.ca, .int .i64 r.c.ci, .int .i64 r.c.b0, .int .i64 r.c.b1, .int .i64 r.c.b2, .int .i64 r.c.b3, .int .i64 r.c.b4, .int .i64 r.c.b5, .int .i64 r.c.fr, .int .i64 r.c.to, .int .i64 r.c.n, .bool r.c.we] 51) (Below.refl w.heap.size w))
  generalize w.alloc (.cells #[.int .i64 r.g, .int .i64 r.s.d0, .int .i64 r.s.d1, .int .i64 r.s.d2, .int .i64 r.s.bo, .int .i64 r.s.fr, .int .i64 r.s.tr, .int .i64 r.s.ag, .slice x.C r.s.cs.length x.cc, .int .i64 r.s.nw, .int .i64 r.s.nx, .slice x.J r.s.js.length x.cj, .slice x.P r.s.ps.length x.cp, .slice x.K r.s.ks.length x.ck, .slice x.D r.s.dn.length x.cd, .slice x.S r.s.sh.length x.cs, .slice x.U r.s.cu.length x.cu, .int .u8 r.c.kd, .int .i64 r.c.id, .int .i64 r.c.us, .int .i64 r.c.cl, .int .i64 r.c.a, .int .i64 r.c.b, .int .i64 r.c.c, .bool r.c.p, .bool r.c.q, .bool r.c.r, .bool r.c.tn, .int .i64 r.c.wa, .int .i64 r.c.pr, .bool r.c.he, .slice Y r.c.af.length cy, .int .u8 r.c.st, .int .i64 r.c.ca, .int .i64 r.c.ci, .int .i64 r.c.b0, .int .i64 r.c.b1, .int .i64 r.c.b2, .int .i64 r.c.b3, .int .i64 r.c.b4, .int .i64 r.c.b5, .int .i64 r.c.fr, .int .i64 r.c.to, .int .i64 r.c.n, .bool r.c.we] 51) = W0 at *
  go_wp2_with fail
  refine (alive28 W0).mono ?_
  rintro e w1 ⟨rfl, hB1⟩
  have K1 := Lib.hid (K0.out.below hB1 K0.out.lt)
  have HB1 := Lib.hid (below_up HB0.out hB1)
  clear K0 HB0 hB1
  have R1 := Lib.hid (show w1.rangeAt w.heap.size 0 [.int .i64 r.g, .int .i64 r.s.d0, .int .i64 r.s.d1, .int .i64 r.s.d2, .int .i64 r.s.bo, .int .i64 r.s.fr, .int .i64 r.s.tr, .int .i64 r.s.ag, .slice x.C r.s.cs.length x.cc, .int .i64 r.s.nw, .int .i64 r.s.nx, .slice x.J r.s.js.length x.cj, .slice x.P r.s.ps.length x.cp, .slice x.K r.s.ks.length x.ck, .slice x.D r.s.dn.length x.cd, .slice x.S r.s.sh.length x.cs, .slice x.U r.s.cu.length x.cu, .int .u8 r.c.kd, .int .i64 r.c.id, .int .i64 r.c.us, .int .i64 r.c.cl, .int .i64 r.c.a, .int .i64 r.c.b, .int .i64 r.c.c, .bool r.c.p, .bool r.c.q, .bool r.c.r, .bool r.c.tn, .int .i64 r.c.wa, .int .i64 r.c.pr, .bool r.c.he, .slice Y r.c.af.length cy, .int .u8 r.c.st, .int .i64 r.c.ca, .int .i64 r.c.ci, .int .i64 r.c.b0, .int .i64 r.c.b1, .int .i64 r.c.b2, .int .i64 r.c.b3, .int .i64 r.c.b4, .int .i64 r.c.b5, .int .i64 r.c.fr, .int .i64 r.c.to, .int .i64 r.c.n, .bool r.c.we] from range_part (n := 45) K1.out rfl)
  go_wp2_with (first | (refine wpList_load_mid rfl 51 _ rfl _ _ rfl _ _ R1.out Try.underlying51 rfl (by kernel_rfl) ?_))
  refine (rgreat28 r x Y cy HF.out.1.ht w1 (HR.out.1.up HB1.out).st).mono ?_
  rintro e w2 ⟨⟨B, rfl⟩, hB2⟩
  have K2 := Lib.hid (K1.out.below hB2 K1.out.lt)
  have HB2 := Lib.hid (below_up HB1.out hB2)
  clear K1 HB1 hB2 R1
  cases B
  rotate_left
  · go_wp2_with fail
    go_ret
    exact ⟨rfl, HB2.out⟩
  by_cases hl7 : 70000 < t.length
  · have hl8 : (70000 : Int) < (t.length : Int) := by omega
    go_wp2_with fail
    go_ret
    exact ⟨rfl, HB2.out⟩
  have hl8 : ¬ (70000 : Int) < (t.length : Int) := by omega
  have R2 := Lib.hid (show w2.rangeAt w.heap.size 0 [.int .i64 r.g, .int .i64 r.s.d0, .int .i64 r.s.d1, .int .i64 r.s.d2, .int .i64 r.s.bo, .int .i64 r.s.fr, .int .i64 r.s.tr, .int .i64 r.s.ag, .slice x.C r.s.cs.length x.cc, .int .i64 r.s.nw, .int .i64 r.s.nx, .slice x.J r.s.js.length x.cj, .slice x.P r.s.ps.length x.cp, .slice x.K r.s.ks.length x.ck, .slice x.D r.s.dn.length x.cd, .slice x.S r.s.sh.length x.cs, .slice x.U r.s.cu.length x.cu, .int .u8 r.c.kd, .int .i64 r.c.id, .int .i64 r.c.us, .int .i64 r.c.cl, .int .i64 r.c.a, .int .i64 r.c.b, .int .i64 r.c.c, .bool r.c.p, .bool r.c.q, .bool r.c.r, .bool r.c.tn, .int .i64 r.c.wa, .int .i64 r.c.pr, .bool r.c.he, .slice Y r.c.af.length cy, .int .u8 r.c.st, .int .i64 r.c.ca, .int .i64 r.c.ci, .int .i64 r.c.b0, .int .i64 r.c.b1, .int .i64 r.c.b2, .int .i64 r.c.b3, .int .i64 r.c.b4, .int .i64 r.c.b5, .int .i64 r.c.fr, .int .i64 r.c.to, .int .i64 r.c.n, .bool r.c.we] from range_part (n := 45) K2.out rfl)
  go_wp2_with (first | (refine wpList_load_mid rfl 51 _ rfl _ _ rfl _ _ R2.out Try.underlying51 rfl (by kernel_rfl) ?_))
  clear hl7 hl8
  refine (write_v r x Y cy HF.out.1 w2 (HR.out.1.up HB2.out)).mono ?_
  rintro e w3 ⟨⟨X3, n3, c3, v3, rfl, hV, hn3, hc3, _, hv3⟩, hB3⟩
  have K3 := Lib.hid (K2.out.below hB3 K2.out.lt)
  have HB3 := Lib.hid (below_up HB2.out hB3)
  have HV := Lib.hid (And.intro hV (And.intro hn3 (And.intro hc3 hv3)))
  have hn3m : n3 ≤ 9223372036854775807 := by simp only [maxLen] at hc3; omega
  clear K2 HB2 hB3 R2 hV hn3 hc3 hv3
  go_upto_if 33 with fail
  go_cut [8, 9] from 34 to 51 (fun s8 s9 wx => Below w3.heap.size w3 wx)
  case first =>
    by_cases h0 : v3 = 0
    · have HZ := Lib.hid (And.intro (HV.out.1.ok.1 h0) (HV.out.2.2.2 h0))
      subst h0
      go_wp2_with fail
      refine (read_v X3 (recB r) n3 c3 HZ.out.2.1 w3 (txt_of HZ.out.2.2) (recB_oct HZ.out.1.1) HV.out.2.1 HV.out.2.2.1).mono ?_
      rw [readV_back HZ.out.1.1 HZ.out.1.2]
      rintro e w4 ⟨⟨x1, Y1, cy1, rfl, hI4⟩, hB4⟩
      have K4 := Lib.hid (K3.out.below hB4 K3.out.lt)
      have HB4 := Lib.hid hB4
      have HI4 := Lib.hid hI4
      clear hB4 hI4 K3
      have x4 := box_full (W := w4) 51 #[.int .i64 0, .int .i64 0, .int .i64 0, .int .i64 0, .int .i64 0, .int .i64 0, .int .i64 0, .int .i64 0, .slice none 0 0, .int .i64 0, .int .i64 0, .slice none 0 0, .slice none 0 0, .slice none 0 0, .slice none 0 0, .slice none 0 0, .slice none 0 0, .int .u8 0, .int .i64 0, .int .i64 0, .int .i64 0, .int .i64 0, .int .i64 0, .int .i64 0, .bool false, .bool false, .bool false, .bool false, .int .i64 0, .int .i64 0, .bool false, .slice none 0 0, .int .u8 0, .int .i64 0, .int .i64 0, .int .i64 0, .int .i64 0, .int .i64 0, .int .i64 0, .int .i64 0, .int .i64 0, .int .i64 0, .int .i64 0, .int .i64 0, .bool false] (vs := [.int .i64 r.g, .int .i64 r.s.d0, .int .i64 r.s.d1, .int .i64 r.s.d2, .int .i64 r.s.bo, .int .i64 r.s.fr, .int .i64 r.s.tr, .int .i64 r.s.ag, .slice x1.C r.s.cs.length x1.cc, .int .i64 r.s.nw, .int .i64 r.s.nx, .slice x1.J r.s.js.length x1.cj, .slice x1.P r.s.ps.length x1.cp, .slice x1.K r.s.ks.length x1.ck, .slice x1.D r.s.dn.length x1.cd, .slice x1.S r.s.sh.length x1.cs, .slice x1.U r.s.cu.length x1.cu, .int .u8 r.c.kd, .int .i64 r.c.id, .int .i64 r.c.us, .int .i64 r.c.cl, .int .i64 r.c.a, .int .i64 r.c.b, .int .i64 r.c.c, .bool r.c.p, .bool r.c.q, .bool r.c.r, .bool r.c.tn, .int .i64 r.c.wa, .int .i64 r.c.pr, .bool r.c.he, .slice Y1 r.c.af.length cy1, .int .u8 r.c.st, .int .i64 r.c.ca, .int .i64 r.c.ci, .int .i64 r.c.b0, .int .i64 r.c.b1, .int .i64 r.c.b2, .int .i64 r.c.b3, .int .i64 r.c.b4, .int .i64 r.c.b5, .int .i64 r.c.fr, .int .i64 r.c.to, .int .i64 r.c.n, .bool r.c.we]) rfl
      go_upto_region 7 with (first | (refine wpList_store_mid rfl 51 _ _ rfl w4.heap.size 0 (List.toArray [.int .i64 r.g, .int .i64 r.s.d0, .int .i64 r.s.d1, .int .i64 r.s.d2, .int .i64 r.s.bo, .int .i64 r.s.fr, .int .i64 r.s.tr, .int .i64 r.s.ag, .slice x1.C r.s.cs.length x1.cc, .int .i64 r.s.nw, .int .i64 r.s.nx, .slice x1.J r.s.js.length x1.cj, .slice x1.P r.s.ps.length x1.cp, .slice x1.K r.s.ks.length x1.ck, .slice x1.D r.s.dn.length x1.cd, .slice x1.S r.s.sh.length x1.cs, .slice x1.U r.s.cu.length x1.cu, .int .u8 r.c.kd, .int .i64 r.c.id, .int .i64 r.c.us, .int .i64 r.c.cl, .int .i64 r.c.a, .int .i64 r.c.b, .int .i64 r.c.c, .bool r.c.p, .bool r.c.q, .bool r.c.r, .bool r.c.tn, .int .i64 r.c.wa, .int .i64 r.c.pr, .bool r.c.he, .slice Y1 r.c.af.length cy1, .int .u8 r.c.st, .int .i64 r.c.ca, .int .i64 r.c.ci, .int .i64 r.c.b0, .int .i64 r.c.b1, .int .i64 r.c.b2, .int .i64 r.c.b3, .int .i64 r.c.b4, .int .i64 r.c.b5, .int .i64 r.c.fr, .int .i64 r.c.to, .int .i64 r.c.n, .bool r.c.we]) rfl rfl (there_of (Blk.new w4 51 #[.int .i64 0, .int .i64 0, .int .i64 0, .int .i64 0, .int .i64 0, .int .i64 0, .int .i64 0, .int .i64 0, .slice none 0 0, .int .i64 0, .int .i64 0, .slice none 0 0, .slice none 0 0, .slice none 0 0, .slice none 0 0, .slice none 0 0, .slice none 0 0, .int .u8 0, .int .i64 0, .int .i64 0, .int .i64 0, .int .i64 0, .int .i64 0, .int .i64 0, .bool false, .bool false, .bool false, .bool false, .int .i64 0, .int .i64 0, .bool false, .slice none 0 0, .int .u8 0, .int .i64 0, .int .i64 0, .int .i64 0, .int .i64 0, .int .i64 0, .int .i64 0, .int .i64 0, .int .i64 0, .int .i64 0, .int .i64 0, .int .i64 0, .bool false]) (Nat.le_of_ble_eq_true rfl)) (by kernel_rfl) (by kernel_rfl) ?_; simp only [List.toList_toArray]; generalize World.setCells _ _ _ _ = W5 at *; (try simp only [Act.put])))
      have K5 := Lib.hid (And.intro (K4.out.below x4.2 K4.out.lt) x4.1)
      have HB5 := Lib.hid (below_up HB4.out x4.2)
      have HI5 := Lib.hid (HI4.out.up x4.2)
      obtain ⟨g5, hg5⟩ : ∃ n, n = w4.heap.size := ⟨_, rfl⟩
      rw [← hg5] at K5
      rw [← hg5]
      clear x4 K4 HB4 HI4 hg5
      have R5 := Lib.hid (show W5.rangeAt g5 0 [.int .i64 r.g, .int .i64 r.s.d0, .int .i64 r.s.d1, .int .i64 r.s.d2, .int .i64 r.s.bo, .int .i64 r.s.fr, .int .i64 r.s.tr, .int .i64 r.s.ag, .slice x1.C r.s.cs.length x1.cc, .int .i64 r.s.nw, .int .i64 r.s.nx, .slice x1.J r.s.js.length x1.cj, .slice x1.P r.s.ps.length x1.cp, .slice x1.K r.s.ks.length x1.ck, .slice x1.D r.s.dn.length x1.cd, .slice x1.S r.s.sh.length x1.cs, .slice x1.U r.s.cu.length x1.cu, .int .u8 r.c.kd, .int .i64 r.c.id, .int .i64 r.c.us, .int .i64 r.c.cl, .int .i64 r.c.a, .int .i64 r.c.b, .int .i64 r.c.c, .bool r.c.p, .bool r.c.q, .bool r.c.r, .bool r.c.tn, .int .i64 r.c.wa, .int .i64 r.c.pr, .bool r.c.he, .slice Y1 r.c.af.length cy1, .int .u8 r.c.st, .int .i64 r.c.ca, .int .i64 r.c.ci, .int .i64 r.c.b0, .int .i64 r.c.b1, .int .i64 r.c.b2, .int .i64 r.c.b3, .int .i64 r.c.b4, .int .i64 r.c.b5, .int .i64 r.c.fr, .int .i64 r.c.to, .int .i64 r.c.n, .bool r.c.we] from range_part (n := 45) K5.out.2 rfl)
      have R6 := Lib.hid (show W5.rangeAt w.heap.size 0 [.int .i64 r.g, .int .i64 r.s.d0, .int .i64 r.s.d1, .int .i64 r.s.d2, .int .i64 r.s.bo, .int .i64 r.s.fr, .int .i64 r.s.tr, .int .i64 r.s.ag, .slice x.C r.s.cs.length x.cc, .int .i64 r.s.nw, .int .i64 r.s.nx, .slice x.J r.s.js.length x.cj, .slice x.P r.s.ps.length x.cp, .slice x.K r.s.ks.length x.ck, .slice x.D r.s.dn.length x.cd, .slice x.S r.s.sh.length x.cs, .slice x.U r.s.cu.length x.cu, .int .u8 r.c.kd, .int .i64 r.c.id, .int .i64 r.c.us, .int .i64 r.c.cl, .int .i64 r.c.a, .int .i64 r.c.b, .int .i64 r.c.c, .bool r.c.p, .bool r.c.q, .bool r.c.r, .bool r.c.tn, .int .i64 r.c.wa, .int .i64 r.c.pr, .bool r.c.he, .slice Y r.c.af.length cy, .int .u8 r.c.st, .int .i64 r.c.ca, .int .i64 r.c.ci, .int .i64 r.c.b0, .int .i64 r.c.b1, .int .i64 r.c.b2, .int .i64 r.c.b3, .int .i64 r.c.b4, .int .i64 r.c.b5, .int .i64 r.c.fr, .int .i64 r.c.to, .int .i64 r.c.n, .bool r.c.we] from range_part (n := 45) K5.out.1 rfl)
      go_wp2_with (first | (refine wpList_load_mid_g (by rfl) 51 _ rfl _ _ rfl _ _ R5.out Try.underlying51 rfl (by kernel_rfl) ?_) | (refine wpList_load_mid_g (by rfl) 51 _ rfl _ _ rfl _ _ R6.out Try.underlying51 rfl (by kernel_rfl) ?_))
      refine (rsame28 r r x1 x Y1 Y cy1 cy HF.out.1.hs HF.out.1.hs HF.out.1.hc HF.out.1.hc HF.out.1.ht HF.out.1.ht W5 HI5.out.st (HR.out.1.st.up (below_up HB3.out HB5.out)) HI5.out.af (HR.out.1.af.up (below_up HB3.out HB5.out))).mono ?_
      rw [decide_eq_true (rfl : r = r)]
      rintro e w6 ⟨rfl, hB6⟩
      have HB6 := Lib.hid (below_up HB5.out hB6)
      have hn6 : ¬ (65536 : Int) < (n3 : Int) := by have := HZ.out.1.2; have := HZ.out.2.1; omega
      clear hB6 R5 R6 K5 HB5 HI5
      go_wp2_with fail
      go_meet
      exact HB6.out
    · have h1 : (v3 == 0) = false := beq_eq_false_iff_ne.2 h0
      clear h0
      go_wp2_with fail
      go_meet
      exact Below.refl _ _
  case rest =>
    have HB4 := Lib.hid (below_up HB3.out hcut)
    clear hcut K3 HB3 HV
    obtain ⟨W4, hW4⟩ : ∃ W, W = wc := ⟨wc, rfl⟩
    subst hW4
    go_wp2_with fail
    refine (read_v X t t.length c rfl W4 (HR.out.2.up HB4.out) HF.out.2.1 HF.out.2.2.1 HF.out.2.2.2).mono ?_
    rintro e w5 ⟨⟨x2, Y2, cy2, rfl, hI5⟩, hB5⟩
    have HQ := Lib.hid (And.intro (readV_cases t HF.out.2.1) (readV_facts t HF.out.2.1))
    have HB5 := Lib.hid (below_up HB4.out hB5)
    have HI5 := Lib.hid hI5
    clear hB5 hI5 HB4
    obtain ⟨q, hq⟩ : ∃ q, q = (readV t).1 := ⟨_, rfl⟩
    obtain ⟨v, hv⟩ : ∃ v, v = (readV t).2 := ⟨_, rfl⟩
    rw [← hq, ← hv] at HQ
    rw [← hq] at HI5
    rw [← hq, ← hv]
    clear hq hv
    have x5 := box_full (W := w5) 51 #[.int .i64 0, .int .i64 0, .int .i64 0, .int .i64 0, .int .i64 0, .int .i64 0, .int .i64 0, .int .i64 0, .slice none 0 0, .int .i64 0, .int .i64 0, .slice none 0 0, .slice none 0 0, .slice none 0 0, .slice none 0 0, .slice none 0 0, .slice none 0 0, .int .u8 0, .int .i64 0, .int .i64 0, .int .i64 0, .int .i64 0, .int .i64 0, .int .i64 0, .bool false, .bool false, .bool false, .bool false, .int .i64 0, .int .i64 0, .bool false, .slice none 0 0, .int .u8 0, .int .i64 0, .int .i64 0, .int .i64 0, .int .i64 0, .int .i64 0, .int .i64 0, .int .i64 0, .int .i64 0, .int .i64 0, .int .i64 0, .int .i64 0, .bool false] (vs := [.int .i64 q.g, .int .i64 q.s.d0, .int .i64 q.s.d1, .int .i64 q.s.d2, .int .i64 q.s.bo, .int .i64 q.s.fr, .int .i64 q.s.tr, .int .i64 q.s.ag, .slice x2.C q.s.cs.length x2.cc, .int .i64 q.s.nw, .int .i64 q.s.nx, .slice x2.J q.s.js.length x2.cj, .slice x2.P q.s.ps.length x2.cp, .slice x2.K q.s.ks.length x2.ck, .slice x2.D q.s.dn.length x2.cd, .slice x2.S q.s.sh.length x2.cs, .slice x2.U q.s.cu.length x2.cu, .int .u8 q.c.kd, .int .i64 q.c.id, .int .i64 q.c.us, .int .i64 q.c.cl, .int .i64 q.c.a, .int .i64 q.c.b, .int .i64 q.c.c, .bool q.c.p, .bool q.c.q, .bool q.c.r, .bool q.c.tn, .int .i64 q.c.wa, .int .i64 q.c.pr, .bool q.c.he, .slice Y2 q.c.af.length cy2, .int .u8 q.c.st, .int .i64 q.c.ca, .int .i64 q.c.ci, .int .i64 q.c.b0, .int .i64 q.c.b1, .int .i64 q.c.b2, .int .i64 q.c.b3, .int .i64 q.c.b4, .int .i64 q.c.b5, .int .i64 q.c.fr, .int .i64 q.c.to, .int .i64 q.c.n, .bool q.c.we]) rfl
    go_upto_region 10 with (first | (refine wpList_store_mid rfl 51 _ _ rfl w5.heap.size 0 (List.toArray [.int .i64 q.g, .int .i64 q.s.d0, .int .i64 q.s.d1, .int .i64 q.s.d2, .int .i64 q.s.bo, .int .i64 q.s.fr, .int .i64 q.s.tr, .int .i64 q.s.ag, .slice x2.C q.s.cs.length x2.cc, .int .i64 q.s.nw, .int .i64 q.s.nx, .slice x2.J q.s.js.length x2.cj, .slice x2.P q.s.ps.length x2.cp, .slice x2.K q.s.ks.length x2.ck, .slice x2.D q.s.dn.length x2.cd, .slice x2.S q.s.sh.length x2.cs, .slice x2.U q.s.cu.length x2.cu, .int .u8 q.c.kd, .int .i64 q.c.id, .int .i64 q.c.us, .int .i64 q.c.cl, .int .i64 q.c.a, .int .i64 q.c.b, .int .i64 q.c.c, .bool q.c.p, .bool q.c.q, .bool q.c.r, .bool q.c.tn, .int .i64 q.c.wa, .int .i64 q.c.pr, .bool q.c.he, .slice Y2 q.c.af.length cy2, .int .u8 q.c.st, .int .i64 q.c.ca, .int .i64 q.c.ci, .int .i64 q.c.b0, .int .i64 q.c.b1, .int .i64 q.c.b2, .int .i64 q.c.b3, .int .i64 q.c.b4, .int .i64 q.c.b5, .int .i64 q.c.fr, .int .i64 q.c.to, .int .i64 q.c.n, .bool q.c.we]) rfl rfl (there_of (Blk.new w5 51 #[.int .i64 0, .int .i64 0, .int .i64 0, .int .i64 0, .int .i64 0, .int .i64 0, .int .i64 0, .int .i64 0, .slice none 0 0, .int .i64 0, .int .i64 0, .slice none 0 0, .slice none 0 0, .slice none 0 0, .slice none 0 0, .slice none 0 0, .slice none 0 0, .int .u8 0, .int .i64 0, .int .i64 0, .int .i64 0, .int .i64 0, .int .i64 0, .int .i64 0, .bool false, .bool false, .bool false, .bool false, .int .i64 0, .int .i64 0, .bool false, .slice none 0 0, .int .u8 0, .int .i64 0, .int .i64 0, .int .i64 0, .int .i64 0, .int .i64 0, .int .i64 0, .int .i64 0, .int .i64 0, .int .i64 0, .int .i64 0, .int .i64 0, .bool false]) (Nat.le_of_ble_eq_true rfl)) (by kernel_rfl) (by kernel_rfl) ?_; simp only [List.toList_toArray]; generalize World.setCells _ _ _ _ = W6 at *; (try simp only [Act.put])))
    have K6 := Lib.hid x5.1
    have HB6 := Lib.hid (below_up HB5.out x5.2)
    have HI6 := Lib.hid (HI5.out.up x5.2)
    obtain ⟨g6, hg6⟩ : ∃ n, n = w5.heap.size := ⟨_, rfl⟩
    rw [← hg6] at K6
    rw [← hg6]
    clear x5 HB5 HI5 hg6
    have R7 := Lib.hid (show W6.rangeAt g6 0 [.int .i64 q.g, .int .i64 q.s.d0, .int .i64 q.s.d1, .int .i64 q.s.d2, .int .i64 q.s.bo, .int .i64 q.s.fr, .int .i64 q.s.tr, .int .i64 q.s.ag, .slice x2.C q.s.cs.length x2.cc, .int .i64 q.s.nw, .int .i64 q.s.nx, .slice x2.J q.s.js.length x2.cj, .slice x2.P q.s.ps.length x2.cp, .slice x2.K q.s.ks.length x2.ck, .slice x2.D q.s.dn.length x2.cd, .slice x2.S q.s.sh.length x2.cs, .slice x2.U q.s.cu.length x2.cu, .int .u8 q.c.kd, .int .i64 q.c.id, .int .i64 q.c.us, .int .i64 q.c.cl, .int .i64 q.c.a, .int .i64 q.c.b, .int .i64 q.c.c, .bool q.c.p, .bool q.c.q, .bool q.c.r, .bool q.c.tn, .int .i64 q.c.wa, .int .i64 q.c.pr, .bool q.c.he, .slice Y2 q.c.af.length cy2, .int .u8 q.c.st, .int .i64 q.c.ca, .int .i64 q.c.ci, .int .i64 q.c.b0, .int .i64 q.c.b1, .int .i64 q.c.b2, .int .i64 q.c.b3, .int .i64 q.c.b4, .int .i64 q.c.b5, .int .i64 q.c.fr, .int .i64 q.c.to, .int .i64 q.c.n, .bool q.c.we] from range_part (n := 45) K6.out rfl)
    by_cases h0 : v = 0
    · have HZ := Lib.hid (show okR q ∧ t = recB q ∧ t.length ≤ 65536 from by
        rcases HQ.out.1 with ⟨_, h⟩ | ⟨_, ⟨h, _⟩ | ⟨h, _⟩⟩
        · exact h
        · omega
        · omega)
      subst h0
      go_wp2_with (first | (refine wpList_load_mid rfl 51 _ rfl _ _ rfl _ _ R7.out Try.underlying51 rfl (by kernel_rfl) ?_))
      refine (write_v q x2 Y2 cy2 HQ.out.2 W6 HI6.out).mono ?_
      rintro e w7 ⟨⟨X7, n7, c7, v7, rfl, hV, hn7, hc7, _, hv7⟩, hB7⟩
      have e7 : v7 = 0 := hV.ok.2 ⟨HZ.out.1, by rw [← HZ.out.2.1]; exact HZ.out.2.2⟩
      have HZ7 := Lib.hid (hv7 e7)
      have HB7 := Lib.hid (below_up HB6.out hB7)
      subst e7
      clear hV hv7 hn7 hc7 hB7
      have k1 := run_strOf (n := n7) (c := c7) (show Reads w7 w7.heap.size 1 X7 n7 ((recB q).map (Value.int .u8)) from by have := HZ7.out.2; unfold BytesAt at this; rw [← HZ7.out.1] at this; exact this)
      have k2 := run_strOf (n := t.length) (c := c) (show Reads w7 w7.heap.size 1 X t.length ((recB q).map (Value.int .u8)) from by have := txt_bytes (HR.out.2.up HB7.out); unfold BytesAt at this; rw [HZ.out.2.1] at this ⊢; exact this)
      go_wp2_with fail
      go_ret
      exact ⟨by simp, HB7.out⟩
    · have h1 : (v != 0) = true := by simpa using h0
      have HZ := Lib.hid (show q = RV.z from by
        rcases HQ.out.1 with ⟨h, _⟩ | ⟨h, _⟩
        · exact absurd h h0
        · exact h)
      clear h0
      go_wp2_with (first | (refine wpList_load_mid rfl 51 _ rfl _ _ rfl _ _ R7.out Try.underlying51 rfl (by kernel_rfl) ?_))
      refine (rsame28 q RV.z x2 SA.z Y2 none cy2 0 HQ.out.2.hs z_facts.hs HQ.out.2.hc z_facts.hc HQ.out.2.ht z_facts.ht W6 HI6.out.st StAt.z HI6.out.af IntsAt.nil).mono ?_
      rw [decide_eq_true HZ.out]
      rintro e w7 ⟨rfl, hB7⟩
      have HB7 := Lib.hid (below_up HB6.out hB7)
      clear hB7
      go_wp2_with fail
      go_ret
      exact ⟨rfl, HB7.out⟩
end Go.Proofs.Ytfdldbfjeamlcaa.RecBackW
