/- Several texts joined: tidehallref28.SameState. -/
import Derived.Test.YtfdldbfjeamlcaaT18
import Derived.SizedLaws
import Derived.Test.YtfdldbfjeamlcaaT19
import Derived.Test.YtfdldbfjeamlcaaT15
import Derived.Deep.Slices
/-! tidehallref28.SameState. -/
namespace Go.Proofs.Ytfdldbfjeamlcaa.RecF3
open Go.Sort Go.RowKit RecGuard Mem RecMem RecByte RecNum RecEach RecMath RecCommand RecCmdJ RecEq RecKeys RecEqA RecJobs RecJobsA RecVal RecEqual RecEqual2 RecEqJ RecCfgs RecSame RecOwn RecSameA QuietRow RecF1

set_option linter.unusedVariables false
set_option linter.unusedSimpArgs false

/-- Lists of a state that are no longer than any may be. -/
structure RTopS (s : SV) : Prop where
  C : s.cs.length ≤ 9223372036854775807
  J : s.js.length ≤ 9223372036854775807
  P : s.ps.length ≤ 9223372036854775807
  K : s.ks.length ≤ 9223372036854775807
  D : s.dn.length ≤ 9223372036854775807
  S : s.sh.length ≤ 9223372036854775807
  U : s.cu.length ≤ 9223372036854775807
  A : ∀ j ∈ s.js, j.q.af.length ≤ 9223372036854775807
theorem rtop_st {r : RV} (h : RTop r) : RTopS r.s := ⟨h.C, h.J, h.P, h.K, h.D, h.S, h.U, h.A⟩
def Kept4 (W : World) (w : World) (g5 g6 : Nat) (s t : SV) (x y : SA) : Prop := Blk W g5 44 (List.toArray [.int .i64 s.d0, .int .i64 s.d1, .int .i64 s.d2, .int .i64 s.bo, .int .i64 s.fr, .int .i64 s.tr, .int .i64 s.ag, .slice x.C s.cs.length x.cc]) ∧ Blk W g6 44 (List.toArray [.int .i64 t.d0, .int .i64 t.d1, .int .i64 t.d2, .int .i64 t.bo, .int .i64 t.fr, .int .i64 t.tr, .int .i64 t.ag, .slice y.C t.cs.length y.cc]) ∧ Blk W w.heap.size 49 #[.int .i64 s.d0, .int .i64 s.d1, .int .i64 s.d2, .int .i64 s.bo, .int .i64 s.fr, .int .i64 s.tr, .int .i64 s.ag, .slice x.C s.cs.length x.cc, .int .i64 s.nw, .int .i64 s.nx, .slice x.J s.js.length x.cj, .slice x.P s.ps.length x.cp, .slice x.K s.ks.length x.ck, .slice x.D s.dn.length x.cd, .slice x.S s.sh.length x.cs, .slice x.U s.cu.length x.cu] ∧ Blk W (w.heap.size + 1) 49 #[.int .i64 t.d0, .int .i64 t.d1, .int .i64 t.d2, .int .i64 t.bo, .int .i64 t.fr, .int .i64 t.tr, .int .i64 t.ag, .slice y.C t.cs.length y.cc, .int .i64 t.nw, .int .i64 t.nx, .slice y.J t.js.length y.cj, .slice y.P t.ps.length y.cp, .slice y.K t.ks.length y.ck, .slice y.D t.dn.length y.cd, .slice y.S t.sh.length y.cs, .slice y.U t.cu.length y.cu]
theorem Kept4.up {W W2 w : World} {g5 g6 : Nat} {s t : SV} {x y : SA} (h : Kept4 W w g5 g6 s t x y) (hB : Below W.heap.size W W2) : Kept4 W2 w g5 g6 s t x y := ⟨h.1.below hB h.1.lt, h.2.1.below hB h.2.1.lt, h.2.2.1.below hB h.2.2.1.lt, h.2.2.2.below hB h.2.2.2.lt⟩
theorem set_c8 (s : SV) (x : SA) : setA #[.int .i64 0, .int .i64 0, .int .i64 0, .int .i64 0, .int .i64 0, .int .i64 0, .int .i64 0, .slice none 0 0] 0 [.int .i64 s.d0, .int .i64 s.d1, .int .i64 s.d2, .int .i64 s.bo, .int .i64 s.fr, .int .i64 s.tr, .int .i64 s.ag, .slice x.C s.cs.length x.cc] = (List.toArray [.int .i64 s.d0, .int .i64 s.d1, .int .i64 s.d2, .int .i64 s.bo, .int .i64 s.fr, .int .i64 s.tr, .int .i64 s.ag, .slice x.C s.cs.length x.cc]) := by
  simp only [setA, List.setIfInBounds_toArray, List.set_cons_zero, List.set_cons_succ]
theorem sv_last {s t : SV} (h1 : s.d0 = t.d0 ∧ s.d1 = t.d1 ∧ s.d2 = t.d2) (h2 : s.bo = t.bo) (h3 : s.fr = t.fr) (h4 : s.tr = t.tr) (h5 : s.ag = t.ag) (h6 : s.cs = t.cs) (h7 : s.nw = t.nw) (h8 : s.nx = t.nx) (h9 : s.js = t.js) (h10 : s.ps = t.ps) (h11 : s.ks = t.ks) (h12 : s.dn = t.dn) (h13 : s.sh = t.sh) : decide (s = t) = decide (s.cu = t.cu) := by
  rw [Bool.eq_iff_iff, decide_eq_true_eq, decide_eq_true_eq]
  obtain ⟨_, _, _, _, _, _, _, _, _, _, _, _, _, _, _, _⟩ := s
  obtain ⟨_, _, _, _, _, _, _, _, _, _, _, _, _, _, _, _⟩ := t
  simp only at h1 h2 h3 h4 h5 h6 h7 h8 h9 h10 h11 h12 h13 ⊢
  obtain ⟨rfl, rfl, rfl⟩ := h1
  subst h2 h3 h4 h5 h6 h7 h8 h9 h10 h11 h12 h13
  constructor
  · intro e; injection e
  · rintro rfl; rfl
set_option maxRecDepth 100000 in
set_option maxHeartbeats 12000000 in
theorem rsameState28 (s t : SV) (x y : SA) (hs : SWf s) (ht : SWf t) (hl : RTopS s) (hm : RTopS t) (w : World) (hx : StAt w s x) (hy : StAt w t y) :
    Calls Try.prog 57 #[.agg #[.int .i64 s.d0, .int .i64 s.d1, .int .i64 s.d2, .int .i64 s.bo, .int .i64 s.fr, .int .i64 s.tr, .int .i64 s.ag, .slice x.C s.cs.length x.cc, .int .i64 s.nw, .int .i64 s.nx, .slice x.J s.js.length x.cj, .slice x.P s.ps.length x.cp, .slice x.K s.ks.length x.ck, .slice x.D s.dn.length x.cd, .slice x.S s.sh.length x.cs, .slice x.U s.cu.length x.cu], .agg #[.int .i64 t.d0, .int .i64 t.d1, .int .i64 t.d2, .int .i64 t.bo, .int .i64 t.fr, .int .i64 t.tr, .int .i64 t.ag, .slice y.C t.cs.length y.cc, .int .i64 t.nw, .int .i64 t.nx, .slice y.J t.js.length y.cj, .slice y.P t.ps.length y.cp, .slice y.K t.ks.length y.ck, .slice y.D t.dn.length y.cd, .slice y.S t.sh.length y.cs, .slice y.U t.cu.length y.cu]] w fun e w' => e = .returned (.bool (decide (s = t))) ∧ Below w.heap.size w w' := by
  have qd := eq_dims hs ht
  have HI := Lib.hid (And.intro hx hy)
  have HW := Lib.hid (And.intro hs ht)
  have HT := Lib.hid (And.intro hl hm)
  clear hx hy hs ht hl hm
  go_enter Try.func57, Try.ntmps57
  go_upto_region 1 with fail
  have KA := Lib.hid ((Blk.new w 49 #[.int .i64 s.d0, .int .i64 s.d1, .int .i64 s.d2, .int .i64 s.bo, .int .i64 s.fr, .int .i64 s.tr, .int .i64 s.ag, .slice x.C s.cs.length x.cc, .int .i64 s.nw, .int .i64 s.nx, .slice x.J s.js.length x.cj, .slice x.P s.ps.length x.cp, .slice x.K s.ks.length x.ck, .slice x.D s.dn.length x.cd, .slice x.S s.sh.length x.cs, .slice x.U s.cu.length x.cu]).alloc (.cells #[.int .i64 t.d0, .int .i64 t.d1, .int .i64 t.d2, .int .i64 t.bo, .int .i64 t.fr, .int .i64 t.tr, .int .i64 t.ag, .slice y.C t.cs.length y.cc, .int .i64 t.nw, .int .i64 t.nx, .slice y.J t.js.length y.cj, .slice y.P t.ps.length y.cp, .slice y.K t.ks.length y.ck, .slice y.D t.dn.length y.cd, .slice y.S t.sh.length y.cs, .slice y.U t.cu.length y.cu] 49))
  have KB := Lib.hid (blk1 w 49 #[.int .i64 t.d0, .int .i64 t.d1, .int .i64 t.d2, .int .i64 t.bo, .int .i64 t.fr, .int .i64 t.tr, .int .i64 t.ag, .slice y.C t.cs.length y.cc, .int .i64 t.nw, .int .i64 t.nx, .slice y.J t.js.length y.cj, .slice y.P t.ps.length y.cp, .slice y.K t.ks.length y.ck, .slice y.D t.dn.length y.cd, .slice y.S t.sh.length y.cs, .slice y.U t.cu.length y.cu] (o := .cells #[.int .i64 s.d0, .int .i64 s.d1, .int .i64 s.d2, .int .i64 s.bo, .int .i64 s.fr, .int .i64 s.tr, .int .i64 s.ag, .slice x.C s.cs.length x.cc, .int .i64 s.nw, .int .i64 s.nx, .slice x.J s.js.length x.cj, .slice x.P s.ps.length x.cp, .slice x.K s.ks.length x.ck, .slice x.D s.dn.length x.cd, .slice x.S s.sh.length x.cs, .slice x.U s.cu.length x.cu] 49))
  have HB := Lib.hid (below_alloc (o := .cells #[.int .i64 t.d0, .int .i64 t.d1, .int .i64 t.d2, .int .i64 t.bo, .int .i64 t.fr, .int .i64 t.tr, .int .i64 t.ag, .slice y.C t.cs.length y.cc, .int .i64 t.nw, .int .i64 t.nx, .slice y.J t.js.length y.cj, .slice y.P t.ps.length y.cp, .slice y.K t.ks.length y.ck, .slice y.D t.dn.length y.cd, .slice y.S t.sh.length y.cs, .slice y.U t.cu.length y.cu] 49) (below_alloc (o := .cells #[.int .i64 s.d0, .int .i64 s.d1, .int .i64 s.d2, .int .i64 s.bo, .int .i64 s.fr, .int .i64 s.tr, .int .i64 s.ag, .slice x.C s.cs.length x.cc, .int .i64 s.nw, .int .i64 s.nx, .slice x.J s.js.length x.cj, .slice x.P s.ps.length x.cp, .slice x.K s.ks.length x.ck, .slice x.D s.dn.length x.cd, .slice x.S s.sh.length x.cs, .slice x.U s.cu.length x.cu] 49) (Below.refl w.heap.size w)))
  generalize ((w.alloc (.cells #[.int .i64 s.d0, .int .i64 s.d1, .int .i64 s.d2, .int .i64 s.bo, .int .i64 s.fr, .int .i64 s.tr, .int .i64 s.ag, .slice x.C s.cs.length x.cc, .int .i64 s.nw, .int .i64 s.nx, .slice x.J s.js.length x.cj, .slice x.P s.ps.length x.cp, .slice x.K s.ks.length x.ck, .slice x.D s.dn.length x.cd, .slice x.S s.sh.length x.cs, .slice x.U s.cu.length x.cu] 49)).alloc (.cells #[.int .i64 t.d0, .int .i64 t.d1, .int .i64 t.d2, .int .i64 t.bo, .int .i64 t.fr, .int .i64 t.tr, .int .i64 t.ag, .slice y.C t.cs.length y.cc, .int .i64 t.nw, .int .i64 t.nx, .slice y.J t.js.length y.cj, .slice y.P t.ps.length y.cp, .slice y.K t.ks.length y.ck, .slice y.D t.dn.length y.cd, .slice y.S t.sh.length y.cs, .slice y.U t.cu.length y.cu] 49)) = W0 at *
  have R1 := Lib.hid (show W0.rangeAt w.heap.size 0 [.int .i64 s.d0, .int .i64 s.d1, .int .i64 s.d2, .int .i64 s.bo, .int .i64 s.fr, .int .i64 s.tr, .int .i64 s.ag, .slice x.C s.cs.length x.cc] from range_part (n := 8) KA.out rfl)
  have x1 := box_full (W := W0) 44 #[.int .i64 0, .int .i64 0, .int .i64 0, .int .i64 0, .int .i64 0, .int .i64 0, .int .i64 0, .slice none 0 0] (vs := [.int .i64 s.d0, .int .i64 s.d1, .int .i64 s.d2, .int .i64 s.bo, .int .i64 s.fr, .int .i64 s.tr, .int .i64 s.ag, .slice x.C s.cs.length x.cc]) rfl
  go_upto_region 2 with (first | (refine wpList_load_mid rfl 44 _ rfl _ _ rfl _ _ R1.out Try.underlying44 rfl (by kernel_rfl) ?_) | (refine wpList_store_mid rfl 44 _ _ rfl W0.heap.size 0 (List.toArray [.int .i64 s.d0, .int .i64 s.d1, .int .i64 s.d2, .int .i64 s.bo, .int .i64 s.fr, .int .i64 s.tr, .int .i64 s.ag, .slice x.C s.cs.length x.cc]) rfl rfl (there_of (Blk.new W0 44 #[.int .i64 0, .int .i64 0, .int .i64 0, .int .i64 0, .int .i64 0, .int .i64 0, .int .i64 0, .slice none 0 0]) (Nat.le_of_ble_eq_true rfl)) (by kernel_rfl) (by kernel_rfl) ?_; simp only [List.toList_toArray]; generalize World.setCells _ _ _ _ = W1 at *; (try simp only [Act.put])))
  have HB2 := Lib.hid (below_up HB.out x1.2)
  have KA2 := Lib.hid (KA.out.below x1.2 KA.out.lt)
  have KB2 := Lib.hid (KB.out.below x1.2 KB.out.lt)
  obtain ⟨g5, hg5⟩ : ∃ n, n = W0.heap.size := ⟨_, rfl⟩
  rw [← hg5] at x1
  rw [← hg5]
  have K5 := Lib.hid x1.1
  clear x1 R1 KA KB HB hg5
  have R2 := Lib.hid (show W1.rangeAt (w.heap.size + 1) 0 [.int .i64 t.d0, .int .i64 t.d1, .int .i64 t.d2, .int .i64 t.bo, .int .i64 t.fr, .int .i64 t.tr, .int .i64 t.ag, .slice y.C t.cs.length y.cc] from range_part (n := 8) KB2.out rfl)
  have x2 := box_full (W := W1) 44 #[.int .i64 0, .int .i64 0, .int .i64 0, .int .i64 0, .int .i64 0, .int .i64 0, .int .i64 0, .slice none 0 0] (vs := [.int .i64 t.d0, .int .i64 t.d1, .int .i64 t.d2, .int .i64 t.bo, .int .i64 t.fr, .int .i64 t.tr, .int .i64 t.ag, .slice y.C t.cs.length y.cc]) rfl
  go_upto_region 3 with (first | (refine wpList_load_mid rfl 44 _ rfl _ _ rfl _ _ R2.out Try.underlying44 rfl (by kernel_rfl) ?_) | (refine wpList_store_mid rfl 44 _ _ rfl W1.heap.size 0 (List.toArray [.int .i64 t.d0, .int .i64 t.d1, .int .i64 t.d2, .int .i64 t.bo, .int .i64 t.fr, .int .i64 t.tr, .int .i64 t.ag, .slice y.C t.cs.length y.cc]) rfl rfl (there_of (Blk.new W1 44 #[.int .i64 0, .int .i64 0, .int .i64 0, .int .i64 0, .int .i64 0, .int .i64 0, .int .i64 0, .slice none 0 0]) (Nat.le_of_ble_eq_true rfl)) (by kernel_rfl) (by kernel_rfl) ?_; simp only [List.toList_toArray]; generalize World.setCells _ _ _ _ = W9 at *; (try simp only [Act.put])))
  have HT9 := Lib.hid (below_up HB2.out x2.2)
  have HK9 := Lib.hid (show Kept4 W9 w g5 W1.heap.size s t x y from ⟨K5.out.below x2.2 K5.out.lt, x2.1, KA2.out.below x2.2 KA2.out.lt, KB2.out.below x2.2 KB2.out.lt⟩)
  obtain ⟨g6, hg6⟩ : ∃ n, n = W1.heap.size := ⟨_, rfl⟩
  rw [← hg6] at HK9
  rw [← hg6]
  clear x2 R2 KA2 KB2 HB2 K5 hg6
  have HI9 := Lib.hid (And.intro (HI.out.1.up HT9.out) (HI.out.2.up HT9.out))
  clear HI
  have p0 : W9.cell? ⟨g5, 0, none⟩ = some (.int .i64 s.d0) := HK9.out.1.cell 0
  have p1 : W9.cell? ⟨g5, 1, none⟩ = some (.int .i64 s.d1) := HK9.out.1.cell 1
  have p2 : W9.cell? ⟨g5, 2, none⟩ = some (.int .i64 s.d2) := HK9.out.1.cell 2
  have p3 : W9.cell? ⟨g5, 3, none⟩ = some (.int .i64 s.bo) := HK9.out.1.cell 3
  have p4 : W9.cell? ⟨g5, 4, none⟩ = some (.int .i64 s.fr) := HK9.out.1.cell 4
  have p5 : W9.cell? ⟨g5, 5, none⟩ = some (.int .i64 s.tr) := HK9.out.1.cell 5
  have p6 : W9.cell? ⟨g5, 6, none⟩ = some (.int .i64 s.ag) := HK9.out.1.cell 6
  have p7 : W9.cell? ⟨g5, 7, none⟩ = some (.slice x.C s.cs.length x.cc) := HK9.out.1.cell 7
  have q0 : W9.cell? ⟨g6, 0, none⟩ = some (.int .i64 t.d0) := HK9.out.2.1.cell 0
  have q1 : W9.cell? ⟨g6, 1, none⟩ = some (.int .i64 t.d1) := HK9.out.2.1.cell 1
  have q2 : W9.cell? ⟨g6, 2, none⟩ = some (.int .i64 t.d2) := HK9.out.2.1.cell 2
  have q3 : W9.cell? ⟨g6, 3, none⟩ = some (.int .i64 t.bo) := HK9.out.2.1.cell 3
  have q4 : W9.cell? ⟨g6, 4, none⟩ = some (.int .i64 t.fr) := HK9.out.2.1.cell 4
  have q5 : W9.cell? ⟨g6, 5, none⟩ = some (.int .i64 t.tr) := HK9.out.2.1.cell 5
  have q6 : W9.cell? ⟨g6, 6, none⟩ = some (.int .i64 t.ag) := HK9.out.2.1.cell 6
  have q7 : W9.cell? ⟨g6, 7, none⟩ = some (.slice y.C t.cs.length y.cc) := HK9.out.2.1.cell 7
  by_cases h_dims : (s.d0 = t.d0 ∧ s.d1 = t.d1 ∧ s.d2 = t.d2)
  rotate_left
  · have HNE := Lib.hid (show s ≠ t from fun e => h_dims (by rw [e]; exact ⟨rfl, rfl, rfl⟩))
    have e_d : dimsB s t = false := decide_eq_false h_dims
    simp only [e_d] at qd
    clear h_dims
    go_wp2_with fail
    go_ret
    exact ⟨by rw [decide_eq_false HNE.out]; rfl, HT9.out⟩
  have e_d : dimsB s t = true := decide_eq_true h_dims
  simp only [e_d] at qd
  have HE_dims := Lib.hid h_dims
  clear h_dims
  by_cases h_bo : s.bo = t.bo
  rotate_left
  · have HNE := Lib.hid (show s ≠ t from fun e => h_bo (by rw [e]))
    have e_bo : (s.bo != t.bo) = true := by simpa using h_bo
    clear h_bo
    go_wp2_with fail
    go_ret
    exact ⟨by rw [decide_eq_false HNE.out]; rfl, HT9.out⟩
  have e_bo : (s.bo != t.bo) = false := by simpa using h_bo
  have HE_bo := Lib.hid h_bo
  clear h_bo
  by_cases h_fr : s.fr = t.fr
  rotate_left
  · have HNE := Lib.hid (show s ≠ t from fun e => h_fr (by rw [e]))
    have e_fr : (s.fr != t.fr) = true := by simpa using h_fr
    clear h_fr
    go_wp2_with fail
    go_ret
    exact ⟨by rw [decide_eq_false HNE.out]; rfl, HT9.out⟩
  have e_fr : (s.fr != t.fr) = false := by simpa using h_fr
  have HE_fr := Lib.hid h_fr
  clear h_fr
  by_cases h_tr : s.tr = t.tr
  rotate_left
  · have HNE := Lib.hid (show s ≠ t from fun e => h_tr (by rw [e]))
    have e_tr : (s.tr != t.tr) = true := by simpa using h_tr
    clear h_tr
    go_wp2_with fail
    go_ret
    exact ⟨by rw [decide_eq_false HNE.out]; rfl, HT9.out⟩
  have e_tr : (s.tr != t.tr) = false := by simpa using h_tr
  have HE_tr := Lib.hid h_tr
  clear h_tr
  by_cases h_ag : s.ag = t.ag
  rotate_left
  · have HNE := Lib.hid (show s ≠ t from fun e => h_ag (by rw [e]))
    have e_ag : (s.ag != t.ag) = true := by simpa using h_ag
    clear h_ag
    go_wp2_with fail
    go_ret
    exact ⟨by rw [decide_eq_false HNE.out]; rfl, HT9.out⟩
  have e_ag : (s.ag != t.ag) = false := by simpa using h_ag
  have HE_ag := Lib.hid h_ag
  clear h_ag
  by_cases h_Lcs : s.cs.length = t.cs.length
  rotate_left
  · have HNE := Lib.hid (show s ≠ t from fun e => h_Lcs (by rw [e]))
    have e_cs : ((s.cs.length : Int) != (t.cs.length : Int)) = true := by simp; omega
    clear h_Lcs
    go_wp2_with fail
    go_ret
    exact ⟨by rw [decide_eq_false HNE.out]; rfl, HT9.out⟩
  have e_cs : ((s.cs.length : Int) != (t.cs.length : Int)) = false := by simp [h_Lcs]
  have HE_Lcs := Lib.hid h_Lcs
  clear h_Lcs
  have HN_cs := Lib.hid HE_Lcs.out
  go_wp2_with fail
  clear p0 q0 p1 q1 p2 q2 p3 q3 p4 q4 p5 q5 p6 q6 p7 q7 e_d qd e_bo e_fr e_tr e_ag e_cs
  have hub : s.cs.length ≤ 9223372036854775807 := HT.out.1.C
  go_loopw [7] (fun i wr => ∃ k : Nat, k ≤ s.cs.length ∧ i = .int .i64 k ∧ Hid (∀ (j : Nat) (a b : KV), j < k → s.cs[j]? = some a → t.cs[j]? = some b → a = b) ∧ Hid (Below W9.heap.size W9 wr))
    (fun i _ => s.cs.length - (intOf i).toNat)
  case atStart => exact ⟨0, Nat.zero_le _, rfl, (fun j a b h => by omega), Below.refl _ _⟩
  case round =>
    obtain ⟨k, hk, rfl, hP, hB⟩ := hrel
    have HK := Lib.hid (HK9.out.up hB.out)
    have p7 : wr.cell? ⟨g5, 7, none⟩ = some (.slice x.C s.cs.length x.cc) := HK.out.1.cell 7
    have q7 : wr.cell? ⟨g6, 7, none⟩ = some (.slice y.C t.cs.length y.cc) := HK.out.2.1.cell 7
    by_cases hlt : k < s.cs.length
    · have hg : s.cs[k]? = some s.cs[k] := List.getElem?_eq_getElem hlt
      generalize s.cs[k] = u at hg
      have hkm : k < t.cs.length := by have := HN_cs.out; omega
      have hg2 : t.cs[k]? = some t.cs[k] := List.getElem?_eq_getElem hkm
      generalize t.cs[k] = v at hg2
      have hki : (k : Int) < (s.cs.length : Int) := by omega
      have hki2 : (k : Int) < (t.cs.length : Int) := by omega
      have hki0 : (0 : Int) ≤ (k : Int) := by omega
      obtain ⟨b, o, cs1, e91, hb, _, r1, e1⟩ := SlcAt.up kStays (HI9.out.1.C) hB.out k u hg
      obtain ⟨b', o', cs2, e92, hb', _, r2, e2⟩ := SlcAt.up kStays (HI9.out.2.C) hB.out k v hg2
      rw [e91] at p7
      rw [e92] at q7
      obtain rfl : cs1 = kL u := e1
      obtain rfl : cs2 = kL v := e2
      have hq := fun W : World => eq_cls (HW.out.1.2.1 u (List.mem_of_getElem? hg)) (HW.out.2.2.1 v (List.mem_of_getElem? hg2)) W
      have HR := Lib.hid (And.intro r1 r2)
      have HG := Lib.hid (And.intro hg hg2)
      clear hg hg2 r1 r2 hb hb' e91 e92
      cases he : decide (u = v)
      · simp only [he] at hq
        have EV := Lib.hid (show s ≠ t from fun e => list_ne HG.out.1 HG.out.2 (of_decide_eq_false he) (by rw [e]))
        clear he
        go_wp2_with fail
        have kq0 := cell_regrown p7
        have kq1 := cell_regrown q7
        refine wp_region_quiet_below (by kernel_rfl) (by kernel_rfl) ?_
        repeat (first | (refine quiet_load_mid (by rfl) 154 _ rfl _ _ rfl _ HR.out.1 _ Try.underlying154 rfl (by kernel_rfl) ?_; simp only [Act.put, List.setIfInBounds_toArray, List.set_cons_zero, List.set_cons_succ]) | (refine quiet_load_mid (by rfl) 154 _ rfl _ _ rfl _ HR.out.2 _ Try.underlying154 rfl (by kernel_rfl) ?_; simp only [Act.put, List.setIfInBounds_toArray, List.set_cons_zero, List.set_cons_succ]) | go_big_quiet_step (first | fail))
        refine wpQuiet_nil ?_
        intro _ hw'
        obtain ⟨⟨dq, osq⟩, hw''⟩ := hw'
        subst hw''
        have hBq := below_regrown wr dq osq
        clear kq0 kq1
        generalize grow (redrawn wr dq) osq = wq at *
        clear p7 q7
        go_wp2_with fail
        go_ret
        exact ⟨by rw [decide_eq_false EV.out]; rfl, below_up HT9.out (below_up hB.out hBq)⟩
      · simp only [he] at hq
        have HE := Lib.hid (of_decide_eq_true he)
        clear he
        go_wp2_with fail
        have kq0 := cell_regrown p7
        have kq1 := cell_regrown q7
        refine wp_region_quiet_below (by kernel_rfl) (by kernel_rfl) ?_
        repeat (first | (refine quiet_load_mid (by rfl) 154 _ rfl _ _ rfl _ HR.out.1 _ Try.underlying154 rfl (by kernel_rfl) ?_; simp only [Act.put, List.setIfInBounds_toArray, List.set_cons_zero, List.set_cons_succ]) | (refine quiet_load_mid (by rfl) 154 _ rfl _ _ rfl _ HR.out.2 _ Try.underlying154 rfl (by kernel_rfl) ?_; simp only [Act.put, List.setIfInBounds_toArray, List.set_cons_zero, List.set_cons_succ]) | go_big_quiet_step (first | fail))
        refine wpQuiet_nil ?_
        intro _ hw'
        obtain ⟨⟨dq, osq⟩, hw''⟩ := hw'
        subst hw''
        have hBq := below_regrown wr dq osq
        clear kq0 kq1
        generalize grow (redrawn wr dq) osq = wq at *
        clear p7 q7
        go_wp2_with fail
        go_roundw
        case rel => exact ⟨k + 1, by omega, by go_num, (fun j a b hj hu hv => by
            rcases Nat.lt_or_ge j k with h | h
            · exact hP.out j a b h hu hv
            · obtain rfl : j = k := by omega
              rw [HG.out.1] at hu; rw [HG.out.2] at hv; cases hu; cases hv; exact HE.out), below_up hB.out hBq⟩
        case measure => simp [intOf]; omega
    · obtain rfl : k = s.cs.length := by omega
      have HE_cs := Lib.hid (show s.cs = t.cs from list_eq HN_cs.out hP.out)
      have HT9b := Lib.hid (below_up HT9.out hB.out)
      have HI9b := Lib.hid (And.intro (HI9.out.1.up hB.out) (HI9.out.2.up hB.out))
      clear hP HT9 HI9 HK9 hlt hk hub
      go_upto_region 10 with fail
      clear p7 q7 hB
      have HK9 := Lib.hid HK.out
      have HT9 := Lib.hid HT9b.out
      have HI9 := Lib.hid HI9b.out
      clear HK HT9b HI9b
      generalize wr = W9 at *
      have m8 : W9.cell? ⟨w.heap.size, 8, none⟩ = some (.int .i64 s.nw) := HK9.out.2.2.1.cell 8
      have m9 : W9.cell? ⟨w.heap.size, 9, none⟩ = some (.int .i64 s.nx) := HK9.out.2.2.1.cell 9
      have m10 : W9.cell? ⟨w.heap.size, 10, none⟩ = some (.slice x.J s.js.length x.cj) := HK9.out.2.2.1.cell 10
      have m11 : W9.cell? ⟨w.heap.size, 11, none⟩ = some (.slice x.P s.ps.length x.cp) := HK9.out.2.2.1.cell 11
      have m12 : W9.cell? ⟨w.heap.size, 12, none⟩ = some (.slice x.K s.ks.length x.ck) := HK9.out.2.2.1.cell 12
      have n8 : W9.cell? ⟨w.heap.size + 1, 8, none⟩ = some (.int .i64 t.nw) := HK9.out.2.2.2.cell 8
      have n9 : W9.cell? ⟨w.heap.size + 1, 9, none⟩ = some (.int .i64 t.nx) := HK9.out.2.2.2.cell 9
      have n10 : W9.cell? ⟨w.heap.size + 1, 10, none⟩ = some (.slice y.J t.js.length y.cj) := HK9.out.2.2.2.cell 10
      have n11 : W9.cell? ⟨w.heap.size + 1, 11, none⟩ = some (.slice y.P t.ps.length y.cp) := HK9.out.2.2.2.cell 11
      have n12 : W9.cell? ⟨w.heap.size + 1, 12, none⟩ = some (.slice y.K t.ks.length y.ck) := HK9.out.2.2.2.cell 12
      by_cases h_nw : s.nw = t.nw
      rotate_left
      · have HNE := Lib.hid (show s ≠ t from fun e => h_nw (by rw [e]))
        have e_nw : (s.nw != t.nw) = true := by simpa using h_nw
        clear h_nw
        go_wp2_with fail
        go_ret
        exact ⟨by rw [decide_eq_false HNE.out]; rfl, HT9.out⟩
      have e_nw : (s.nw != t.nw) = false := by simpa using h_nw
      have HE_nw := Lib.hid h_nw
      clear h_nw
      by_cases h_nx : s.nx = t.nx
      rotate_left
      · have HNE := Lib.hid (show s ≠ t from fun e => h_nx (by rw [e]))
        have e_nx : (s.nx != t.nx) = true := by simpa using h_nx
        clear h_nx
        go_wp2_with fail
        go_ret
        exact ⟨by rw [decide_eq_false HNE.out]; rfl, HT9.out⟩
      have e_nx : (s.nx != t.nx) = false := by simpa using h_nx
      have HE_nx := Lib.hid h_nx
      clear h_nx
      by_cases h_Ljs : s.js.length = t.js.length
      rotate_left
      · have HNE := Lib.hid (show s ≠ t from fun e => h_Ljs (by rw [e]))
        have e_js : ((s.js.length : Int) != (t.js.length : Int)) = true := by simp; omega
        clear h_Ljs
        go_wp2_with fail
        go_ret
        exact ⟨by rw [decide_eq_false HNE.out]; rfl, HT9.out⟩
      have e_js : ((s.js.length : Int) != (t.js.length : Int)) = false := by simp [h_Ljs]
      have HE_Ljs := Lib.hid h_Ljs
      clear h_Ljs
      by_cases h_Lps : s.ps.length = t.ps.length
      rotate_left
      · have HNE := Lib.hid (show s ≠ t from fun e => h_Lps (by rw [e]))
        have e_ps : ((s.ps.length : Int) != (t.ps.length : Int)) = true := by simp; omega
        clear h_Lps
        go_wp2_with fail
        go_ret
        exact ⟨by rw [decide_eq_false HNE.out]; rfl, HT9.out⟩
      have e_ps : ((s.ps.length : Int) != (t.ps.length : Int)) = false := by simp [h_Lps]
      have HE_Lps := Lib.hid h_Lps
      clear h_Lps
      by_cases h_Lks : s.ks.length = t.ks.length
      rotate_left
      · have HNE := Lib.hid (show s ≠ t from fun e => h_Lks (by rw [e]))
        have e_ks : ((s.ks.length : Int) != (t.ks.length : Int)) = true := by simp; omega
        clear h_Lks
        go_wp2_with fail
        go_ret
        exact ⟨by rw [decide_eq_false HNE.out]; rfl, HT9.out⟩
      have e_ks : ((s.ks.length : Int) != (t.ks.length : Int)) = false := by simp [h_Lks]
      have HE_Lks := Lib.hid h_Lks
      clear h_Lks
      have HN_js := Lib.hid HE_Ljs.out
      have HN_ps := Lib.hid HE_Lps.out
      have HN_ks := Lib.hid HE_Lks.out
      go_wp2_with fail
      clear m8 m9 m10 m11 m12 n8 n9 n10 n11 n12 e_nw e_nx e_js e_ps e_ks
      have hub : s.js.length ≤ 9223372036854775807 := HT.out.1.J
      go_loopw [8] (fun i wr => ∃ k : Nat, k ≤ s.js.length ∧ i = .int .i64 k ∧ Hid (∀ (j : Nat) (a b : JV), j < k → s.js[j]? = some a → t.js[j]? = some b → a = b) ∧ Hid (Below W9.heap.size W9 wr))
        (fun i _ => s.js.length - (intOf i).toNat)
      case atStart => exact ⟨0, Nat.zero_le _, rfl, (fun j a b h => by omega), Below.refl _ _⟩
      case round =>
        obtain ⟨k, hk, rfl, hP, hB⟩ := hrel
        have HK := Lib.hid (HK9.out.up hB.out)
        have m10 : wr.cell? ⟨w.heap.size, 10, none⟩ = some (.slice x.J s.js.length x.cj) := HK.out.2.2.1.cell 10
        have n10 : wr.cell? ⟨w.heap.size + 1, 10, none⟩ = some (.slice y.J t.js.length y.cj) := HK.out.2.2.2.cell 10
        by_cases hlt : k < s.js.length
        · have hg : s.js[k]? = some s.js[k] := List.getElem?_eq_getElem hlt
          generalize s.js[k] = u at hg
          have hkm : k < t.js.length := by have := HN_js.out; omega
          have hg2 : t.js[k]? = some t.js[k] := List.getElem?_eq_getElem hkm
          generalize t.js[k] = v at hg2
          have hki : (k : Int) < (s.js.length : Int) := by omega
          have hki2 : (k : Int) < (t.js.length : Int) := by omega
          have hki0 : (0 : Int) ≤ (k : Int) := by omega
          obtain ⟨b, o, cs1, e91, hb, _, r1, e1⟩ := SlcAt.up jStays (HI9.out.1.J) hB.out k u hg
          obtain ⟨b', o', cs2, e92, hb', _, r2, e2⟩ := SlcAt.up jStays (HI9.out.2.J) hB.out k v hg2
          rw [e91] at m10
          rw [e92] at n10
          obtain ⟨Yu, cu, e1, hcu, hYu⟩ := e1
          obtain ⟨Yv, cv, e2, hcv, hYv⟩ := e2
          obtain rfl : cs1 = jL u Yu cu := e1
          obtain rfl : cs2 = jL v Yv cv := e2
          have HU := Lib.hid (And.intro hYu hYv)
          have HJ0 := Lib.hid (fun (B : Bool) (hB : decide (u = v) = B) (W : World) (h1 : IntsAt W Yu u.q.af) (h2 : IntsAt W Yv v.q.af) => rsameJobV u v Yu Yv cu cv B hB (HW.out.1.2.2.1 u (List.mem_of_getElem? hg)) (HW.out.2.2.2.1 v (List.mem_of_getElem? hg2)) (HT.out.1.A u (List.mem_of_getElem? hg)) (HT.out.2.A v (List.mem_of_getElem? hg2)) W h1 h2)
          clear hYu hYv hcu hcv
          have HR := Lib.hid (And.intro r1 r2)
          have HG := Lib.hid (And.intro hg hg2)
          clear hg hg2 r1 r2 hb hb' e91 e92
          cases he : decide (u = v)
          · have HJ := Lib.hid (HJ0.out _ he)
            clear HJ0
            have EV := Lib.hid (show s ≠ t from fun e => list_ne HG.out.1 HG.out.2 (of_decide_eq_false he) (by rw [e]))
            clear he
            go_wp2_with fail
            have kq0 := cell_regrown m10
            have kq1 := cell_regrown n10
            refine wp_region_quiet_below (by kernel_rfl) (by kernel_rfl) ?_
            repeat (first | (refine quiet_load_mid (by rfl) 28 _ rfl _ _ rfl _ HR.out.1 _ Try.underlying28 rfl (by kernel_rfl) ?_; simp only [Act.put, List.setIfInBounds_toArray, List.set_cons_zero, List.set_cons_succ]) | (refine quiet_load_mid (by rfl) 28 _ rfl _ _ rfl _ HR.out.2 _ Try.underlying28 rfl (by kernel_rfl) ?_; simp only [Act.put, List.setIfInBounds_toArray, List.set_cons_zero, List.set_cons_succ]) | go_big_quiet_step (first | fail | exact Calls.regrown_of (HJ.out _ (HU.out.1.up (below_regrown _ _ _)) (HU.out.2.up (below_regrown _ _ _)))))
            refine wpQuiet_nil ?_
            intro _ hw'
            obtain ⟨⟨dq, osq⟩, hw''⟩ := hw'
            subst hw''
            have hBq := below_regrown wr dq osq
            clear kq0 kq1
            generalize grow (redrawn wr dq) osq = wq at *
            clear m10 n10
            go_wp2_with fail
            go_ret
            exact ⟨by rw [decide_eq_false EV.out]; rfl, below_up HT9.out (below_up hB.out hBq)⟩
          · have HJ := Lib.hid (HJ0.out _ he)
            clear HJ0
            have HE := Lib.hid (of_decide_eq_true he)
            clear he
            go_wp2_with fail
            have kq0 := cell_regrown m10
            have kq1 := cell_regrown n10
            refine wp_region_quiet_below (by kernel_rfl) (by kernel_rfl) ?_
            repeat (first | (refine quiet_load_mid (by rfl) 28 _ rfl _ _ rfl _ HR.out.1 _ Try.underlying28 rfl (by kernel_rfl) ?_; simp only [Act.put, List.setIfInBounds_toArray, List.set_cons_zero, List.set_cons_succ]) | (refine quiet_load_mid (by rfl) 28 _ rfl _ _ rfl _ HR.out.2 _ Try.underlying28 rfl (by kernel_rfl) ?_; simp only [Act.put, List.setIfInBounds_toArray, List.set_cons_zero, List.set_cons_succ]) | go_big_quiet_step (first | fail | exact Calls.regrown_of (HJ.out _ (HU.out.1.up (below_regrown _ _ _)) (HU.out.2.up (below_regrown _ _ _)))))
            refine wpQuiet_nil ?_
            intro _ hw'
            obtain ⟨⟨dq, osq⟩, hw''⟩ := hw'
            subst hw''
            have hBq := below_regrown wr dq osq
            clear kq0 kq1
            generalize grow (redrawn wr dq) osq = wq at *
            clear m10 n10
            go_wp2_with fail
            go_roundw
            case rel => exact ⟨k + 1, by omega, by go_num, (fun j a b hj hu hv => by
                rcases Nat.lt_or_ge j k with h | h
                · exact hP.out j a b h hu hv
                · obtain rfl : j = k := by omega
                  rw [HG.out.1] at hu; rw [HG.out.2] at hv; cases hu; cases hv; exact HE.out), below_up hB.out hBq⟩
            case measure => simp [intOf]; omega
        · obtain rfl : k = s.js.length := by omega
          have HE_js := Lib.hid (show s.js = t.js from list_eq HN_js.out hP.out)
          have HT9b := Lib.hid (below_up HT9.out hB.out)
          have HI9b := Lib.hid (And.intro (HI9.out.1.up hB.out) (HI9.out.2.up hB.out))
          clear hP HT9 HI9 HK9 hlt hk hub
          go_upto_region 17 with fail
          clear m10 n10 hB
          have HK9 := Lib.hid HK.out
          have HT9 := Lib.hid HT9b.out
          have HI9 := Lib.hid HI9b.out
          clear HK HT9b HI9b
          generalize wr = W9 at *
          go_wp2_with fail
          have hub : s.ps.length ≤ 9223372036854775807 := HT.out.1.P
          go_loopw [9] (fun i wr => ∃ k : Nat, k ≤ s.ps.length ∧ i = .int .i64 k ∧ Hid (∀ (j : Nat) (a b : PV), j < k → s.ps[j]? = some a → t.ps[j]? = some b → a = b) ∧ Hid (Below W9.heap.size W9 wr))
            (fun i _ => s.ps.length - (intOf i).toNat)
          case atStart => exact ⟨0, Nat.zero_le _, rfl, (fun j a b h => by omega), Below.refl _ _⟩
          case round =>
            obtain ⟨k, hk, rfl, hP, hB⟩ := hrel
            have HK := Lib.hid (HK9.out.up hB.out)
            have m11 : wr.cell? ⟨w.heap.size, 11, none⟩ = some (.slice x.P s.ps.length x.cp) := HK.out.2.2.1.cell 11
            have n11 : wr.cell? ⟨w.heap.size + 1, 11, none⟩ = some (.slice y.P t.ps.length y.cp) := HK.out.2.2.2.cell 11
            by_cases hlt : k < s.ps.length
            · have hg : s.ps[k]? = some s.ps[k] := List.getElem?_eq_getElem hlt
              generalize s.ps[k] = u at hg
              have hkm : k < t.ps.length := by have := HN_ps.out; omega
              have hg2 : t.ps[k]? = some t.ps[k] := List.getElem?_eq_getElem hkm
              generalize t.ps[k] = v at hg2
              have hki : (k : Int) < (s.ps.length : Int) := by omega
              have hki2 : (k : Int) < (t.ps.length : Int) := by omega
              have hki0 : (0 : Int) ≤ (k : Int) := by omega
              obtain ⟨b, o, cs1, e91, hb, _, r1, e1⟩ := SlcAt.up pStays (HI9.out.1.P) hB.out k u hg
              obtain ⟨b', o', cs2, e92, hb', _, r2, e2⟩ := SlcAt.up pStays (HI9.out.2.P) hB.out k v hg2
              rw [e91] at m11
              rw [e92] at n11
              obtain rfl : cs1 = pL u := e1
              obtain rfl : cs2 = pL v := e2
              have hq := fun W : World => eq_part (HW.out.1.2.2.2.1 u (List.mem_of_getElem? hg)) (HW.out.2.2.2.2.1 v (List.mem_of_getElem? hg2)) W
              have HR := Lib.hid (And.intro r1 r2)
              have HG := Lib.hid (And.intro hg hg2)
              clear hg hg2 r1 r2 hb hb' e91 e92
              cases he : decide (u = v)
              · simp only [he] at hq
                have EV := Lib.hid (show s ≠ t from fun e => list_ne HG.out.1 HG.out.2 (of_decide_eq_false he) (by rw [e]))
                clear he
                go_wp2_with fail
                have kq0 := cell_regrown m11
                have kq1 := cell_regrown n11
                refine wp_region_quiet_below (by kernel_rfl) (by kernel_rfl) ?_
                repeat (first | (refine quiet_load_mid (by rfl) 109 _ rfl _ _ rfl _ HR.out.1 _ Try.underlying109 rfl (by kernel_rfl) ?_; simp only [Act.put, List.setIfInBounds_toArray, List.set_cons_zero, List.set_cons_succ]) | (refine quiet_load_mid (by rfl) 109 _ rfl _ _ rfl _ HR.out.2 _ Try.underlying109 rfl (by kernel_rfl) ?_; simp only [Act.put, List.setIfInBounds_toArray, List.set_cons_zero, List.set_cons_succ]) | go_big_quiet_step (first | fail))
                refine wpQuiet_nil ?_
                intro _ hw'
                obtain ⟨⟨dq, osq⟩, hw''⟩ := hw'
                subst hw''
                have hBq := below_regrown wr dq osq
                clear kq0 kq1
                generalize grow (redrawn wr dq) osq = wq at *
                clear m11 n11
                go_wp2_with fail
                go_ret
                exact ⟨by rw [decide_eq_false EV.out]; rfl, below_up HT9.out (below_up hB.out hBq)⟩
              · simp only [he] at hq
                have HE := Lib.hid (of_decide_eq_true he)
                clear he
                go_wp2_with fail
                have kq0 := cell_regrown m11
                have kq1 := cell_regrown n11
                refine wp_region_quiet_below (by kernel_rfl) (by kernel_rfl) ?_
                repeat (first | (refine quiet_load_mid (by rfl) 109 _ rfl _ _ rfl _ HR.out.1 _ Try.underlying109 rfl (by kernel_rfl) ?_; simp only [Act.put, List.setIfInBounds_toArray, List.set_cons_zero, List.set_cons_succ]) | (refine quiet_load_mid (by rfl) 109 _ rfl _ _ rfl _ HR.out.2 _ Try.underlying109 rfl (by kernel_rfl) ?_; simp only [Act.put, List.setIfInBounds_toArray, List.set_cons_zero, List.set_cons_succ]) | go_big_quiet_step (first | fail))
                refine wpQuiet_nil ?_
                intro _ hw'
                obtain ⟨⟨dq, osq⟩, hw''⟩ := hw'
                subst hw''
                have hBq := below_regrown wr dq osq
                clear kq0 kq1
                generalize grow (redrawn wr dq) osq = wq at *
                clear m11 n11
                go_wp2_with fail
                go_roundw
                case rel => exact ⟨k + 1, by omega, by go_num, (fun j a b hj hu hv => by
                    rcases Nat.lt_or_ge j k with h | h
                    · exact hP.out j a b h hu hv
                    · obtain rfl : j = k := by omega
                      rw [HG.out.1] at hu; rw [HG.out.2] at hv; cases hu; cases hv; exact HE.out), below_up hB.out hBq⟩
                case measure => simp [intOf]; omega
            · obtain rfl : k = s.ps.length := by omega
              have HE_ps := Lib.hid (show s.ps = t.ps from list_eq HN_ps.out hP.out)
              have HT9b := Lib.hid (below_up HT9.out hB.out)
              have HI9b := Lib.hid (And.intro (HI9.out.1.up hB.out) (HI9.out.2.up hB.out))
              clear hP HT9 HI9 HK9 hlt hk hub
              go_upto_region 22 with fail
              clear m11 n11 hB
              have HK9 := Lib.hid HK.out
              have HT9 := Lib.hid HT9b.out
              have HI9 := Lib.hid HI9b.out
              clear HK HT9b HI9b
              generalize wr = W9 at *
              go_wp2_with fail
              have hub : s.ks.length ≤ 9223372036854775807 := HT.out.1.K
              go_loopw [10] (fun i wr => ∃ k : Nat, k ≤ s.ks.length ∧ i = .int .i64 k ∧ Hid (∀ (j : Nat) (a b : EV), j < k → s.ks[j]? = some a → t.ks[j]? = some b → a = b) ∧ Hid (Below W9.heap.size W9 wr))
                (fun i _ => s.ks.length - (intOf i).toNat)
              case atStart => exact ⟨0, Nat.zero_le _, rfl, (fun j a b h => by omega), Below.refl _ _⟩
              case round =>
                obtain ⟨k, hk, rfl, hP, hB⟩ := hrel
                have HK := Lib.hid (HK9.out.up hB.out)
                have m12 : wr.cell? ⟨w.heap.size, 12, none⟩ = some (.slice x.K s.ks.length x.ck) := HK.out.2.2.1.cell 12
                have n12 : wr.cell? ⟨w.heap.size + 1, 12, none⟩ = some (.slice y.K t.ks.length y.ck) := HK.out.2.2.2.cell 12
                by_cases hlt : k < s.ks.length
                · have hg : s.ks[k]? = some s.ks[k] := List.getElem?_eq_getElem hlt
                  generalize s.ks[k] = u at hg
                  have hkm : k < t.ks.length := by have := HN_ks.out; omega
                  have hg2 : t.ks[k]? = some t.ks[k] := List.getElem?_eq_getElem hkm
                  generalize t.ks[k] = v at hg2
                  have hki : (k : Int) < (s.ks.length : Int) := by omega
                  have hki2 : (k : Int) < (t.ks.length : Int) := by omega
                  have hki0 : (0 : Int) ≤ (k : Int) := by omega
                  obtain ⟨b, o, cs1, e91, hb, _, r1, e1⟩ := SlcAt.up eStays (HI9.out.1.K) hB.out k u hg
                  obtain ⟨b', o', cs2, e92, hb', _, r2, e2⟩ := SlcAt.up eStays (HI9.out.2.K) hB.out k v hg2
                  rw [e91] at m12
                  rw [e92] at n12
                  obtain rfl : cs1 = eL u := e1
                  obtain rfl : cs2 = eL v := e2
                  have hq := fun W : World => eq_keep (HW.out.1.2.2.2.2.1 u (List.mem_of_getElem? hg)) (HW.out.2.2.2.2.2.1 v (List.mem_of_getElem? hg2)) W
                  have HR := Lib.hid (And.intro r1 r2)
                  have HG := Lib.hid (And.intro hg hg2)
                  clear hg hg2 r1 r2 hb hb' e91 e92
                  cases he : decide (u = v)
                  · simp only [he] at hq
                    have EV := Lib.hid (show s ≠ t from fun e => list_ne HG.out.1 HG.out.2 (of_decide_eq_false he) (by rw [e]))
                    clear he
                    go_wp2_with fail
                    have kq0 := cell_regrown m12
                    have kq1 := cell_regrown n12
                    refine wp_region_quiet_below (by kernel_rfl) (by kernel_rfl) ?_
                    repeat (first | (refine quiet_load_mid (by rfl) 112 _ rfl _ _ rfl _ HR.out.1 _ Try.underlying112 rfl (by kernel_rfl) ?_; simp only [Act.put, List.setIfInBounds_toArray, List.set_cons_zero, List.set_cons_succ]) | (refine quiet_load_mid (by rfl) 112 _ rfl _ _ rfl _ HR.out.2 _ Try.underlying112 rfl (by kernel_rfl) ?_; simp only [Act.put, List.setIfInBounds_toArray, List.set_cons_zero, List.set_cons_succ]) | go_big_quiet_step (first | fail))
                    refine wpQuiet_nil ?_
                    intro _ hw'
                    obtain ⟨⟨dq, osq⟩, hw''⟩ := hw'
                    subst hw''
                    have hBq := below_regrown wr dq osq
                    clear kq0 kq1
                    generalize grow (redrawn wr dq) osq = wq at *
                    clear m12 n12
                    go_wp2_with fail
                    go_ret
                    exact ⟨by rw [decide_eq_false EV.out]; rfl, below_up HT9.out (below_up hB.out hBq)⟩
                  · simp only [he] at hq
                    have HE := Lib.hid (of_decide_eq_true he)
                    clear he
                    go_wp2_with fail
                    have kq0 := cell_regrown m12
                    have kq1 := cell_regrown n12
                    refine wp_region_quiet_below (by kernel_rfl) (by kernel_rfl) ?_
                    repeat (first | (refine quiet_load_mid (by rfl) 112 _ rfl _ _ rfl _ HR.out.1 _ Try.underlying112 rfl (by kernel_rfl) ?_; simp only [Act.put, List.setIfInBounds_toArray, List.set_cons_zero, List.set_cons_succ]) | (refine quiet_load_mid (by rfl) 112 _ rfl _ _ rfl _ HR.out.2 _ Try.underlying112 rfl (by kernel_rfl) ?_; simp only [Act.put, List.setIfInBounds_toArray, List.set_cons_zero, List.set_cons_succ]) | go_big_quiet_step (first | fail))
                    refine wpQuiet_nil ?_
                    intro _ hw'
                    obtain ⟨⟨dq, osq⟩, hw''⟩ := hw'
                    subst hw''
                    have hBq := below_regrown wr dq osq
                    clear kq0 kq1
                    generalize grow (redrawn wr dq) osq = wq at *
                    clear m12 n12
                    go_wp2_with fail
                    go_roundw
                    case rel => exact ⟨k + 1, by omega, by go_num, (fun j a b hj hu hv => by
                        rcases Nat.lt_or_ge j k with h | h
                        · exact hP.out j a b h hu hv
                        · obtain rfl : j = k := by omega
                          rw [HG.out.1] at hu; rw [HG.out.2] at hv; cases hu; cases hv; exact HE.out), below_up hB.out hBq⟩
                    case measure => simp [intOf]; omega
                · obtain rfl : k = s.ks.length := by omega
                  have HE_ks := Lib.hid (show s.ks = t.ks from list_eq HN_ks.out hP.out)
                  have HT9b := Lib.hid (below_up HT9.out hB.out)
                  have HI9b := Lib.hid (And.intro (HI9.out.1.up hB.out) (HI9.out.2.up hB.out))
                  clear hP HT9 HI9 HK9 hlt hk hub
                  go_upto_region 27 with fail
                  clear m12 n12 hB
                  have HK9 := Lib.hid HK.out
                  have HT9 := Lib.hid HT9b.out
                  have HI9 := Lib.hid HI9b.out
                  clear HK HT9b HI9b
                  generalize wr = W9 at *
                  have m13 : W9.cell? ⟨w.heap.size, 13, none⟩ = some (.slice x.D s.dn.length x.cd) := HK9.out.2.2.1.cell 13
                  have n13 : W9.cell? ⟨w.heap.size + 1, 13, none⟩ = some (.slice y.D t.dn.length y.cd) := HK9.out.2.2.2.cell 13
                  go_wp2_with fail
                  refine (rints28 x.D y.D x.cd y.cd s.dn t.dn HT.out.1.D HT.out.2.D _ HI9.out.1.D HI9.out.2.D).mono ?_
                  rintro e w1 ⟨rfl, hB1⟩
                  have HT1 := Lib.hid (below_up HT9.out hB1)
                  have HI1 := Lib.hid (And.intro (HI9.out.1.up hB1) (HI9.out.2.up hB1))
                  have HK1 := Lib.hid (HK9.out.up hB1)
                  clear hB1 m13 n13 HT9 HI9 HK9
                  cases e1 : decide (s.dn = t.dn)
                  · go_wp2_with fail
                    go_ret
                    exact ⟨by rw [decide_eq_false (fun e => of_decide_eq_false e1 (by rw [e]))]; rfl, HT1.out⟩
                  · have HE_dn := Lib.hid (of_decide_eq_true e1)
                    have m14 : w1.cell? ⟨w.heap.size, 14, none⟩ = some (.slice x.S s.sh.length x.cs) := HK1.out.2.2.1.cell 14
                    have n14 : w1.cell? ⟨w.heap.size + 1, 14, none⟩ = some (.slice y.S t.sh.length y.cs) := HK1.out.2.2.2.cell 14
                    go_wp2_with fail
                    refine (rints28 x.S y.S x.cs y.cs s.sh t.sh HT.out.1.S HT.out.2.S _ HI1.out.1.S HI1.out.2.S).mono ?_
                    rintro e w2 ⟨rfl, hB2⟩
                    have HT2 := Lib.hid (below_up HT1.out hB2)
                    have HI2 := Lib.hid (And.intro (HI1.out.1.up hB2) (HI1.out.2.up hB2))
                    have HK2 := Lib.hid (HK1.out.up hB2)
                    clear hB2 m14 n14 HT1 HI1 HK1 e1
                    cases e2 : decide (s.sh = t.sh)
                    · go_wp2_with fail
                      go_ret
                      exact ⟨by rw [decide_eq_false (fun e => of_decide_eq_false e2 (by rw [e]))]; rfl, HT2.out⟩
                    · have HE_sh := Lib.hid (of_decide_eq_true e2)
                      have m15 : w2.cell? ⟨w.heap.size, 15, none⟩ = some (.slice x.U s.cu.length x.cu) := HK2.out.2.2.1.cell 15
                      have n15 : w2.cell? ⟨w.heap.size + 1, 15, none⟩ = some (.slice y.U t.cu.length y.cu) := HK2.out.2.2.2.cell 15
                      go_wp2_with fail
                      refine (rints28 x.U y.U x.cu y.cu s.cu t.cu HT.out.1.U HT.out.2.U _ HI2.out.1.U HI2.out.2.U).mono ?_
                      rintro e w3 ⟨rfl, hB3⟩
                      have HT3 := Lib.hid (below_up HT2.out hB3)
                      clear hB3 m15 n15 e2 HT2 HI2 HK2
                      go_wp2_with fail
                      go_ret
                      exact ⟨by rw [show decide (s = t) = decide (s.cu = t.cu) from sv_last HE_dims.out HE_bo.out HE_fr.out HE_tr.out HE_ag.out HE_cs.out HE_nw.out HE_nx.out HE_js.out HE_ps.out HE_ks.out HE_dn.out HE_sh.out]; rfl, HT3.out⟩
end Go.Proofs.Ytfdldbfjeamlcaa.RecF3
/-! How arguments that are records are opened, with what they weigh. No conditions. -/
namespace Go.Proofs.Ytfdldbfjeamlcaa.OpenRec2
open Go.ChangeShapes Go.WideShapes Go.ChangeAt Go.RowKit Go.Joins Go.Deep Mem RecMath RecCommand RecVal RecSameA RecF3 RecAll Lay OpenRec0 OpenRec
set_option linter.unusedVariables false
set_option linter.unusedSimpArgs false

/-- A job whose list is no longer than any may be. -/
def JWf2 (j : JV) : Prop := JWf j ∧ j.q.af.length ≤ 9223372036854775807
theorem el_job2 {H : Type} {enc : TypeId × Value → H} {W : World} {held : Bool} {fuel : Nat} {cs : List Value} {x : DataW H × List MemPlace} (hlen : cs.length = 16) (h : DataW.trod enc Try.prog W 0 (fun _ => true) held fuel 28 cs = some x) : ∃ a, jRep W a cs ∧ JWf2 a := by
  obtain ⟨v0, v1, v2, v30x, v30y, v30z, v31x, v31y, v31z, v32, v4, v5, v6, v7Y, v7c, v7l, v8, v9, rfl, w0, w1, w2, w3, w4, w5, w6, w7, w8, w9, w10, w11, w12, w13⟩ := trod_Job hlen h
  exact ⟨⟨v0, ⟨v1, v2, v30x, v30y, v30z, v31x, v31y, v31z, v32, v4, v5, v6, v7l⟩, v8, v9⟩, ⟨v7Y, v7c, rfl, w8, w10⟩, ⟨w0, ⟨w1, w2, w3, w4, w5, w6, w7, w11⟩, w12, w13⟩, Nat.le_trans w8 w9⟩
set_option maxRecDepth 100000 in
set_option maxHeartbeats 2000000 in
theorem trod_State2 {H : Type} {enc : TypeId × Value → H} {W : World} {held : Bool} {fuel : Nat} {cs : List Value} {x : DataW H × List MemPlace} (hlen : cs.length = 16) (h : DataW.trod enc Try.prog W 0 (fun _ => true) held fuel 49 cs = some x) :
    ∃ (v00x : Int) (v00y : Int) (v00z : Int) (v01 : Int) (v02 : Int) (v03 : Int) (v04 : Int) (v05Y : Option Addr) (v05c : Nat) (v05l : List KV) (v1 : Int) (v2 : Int) (v3Y : Option Addr) (v3c : Nat) (v3l : List JV) (v4Y : Option Addr) (v4c : Nat) (v4l : List PV) (v5Y : Option Addr) (v5c : Nat) (v5l : List EV) (v6Y : Option Addr) (v6c : Nat) (v6l : List Int) (v7Y : Option Addr) (v7c : Nat) (v7l : List Int) (v8Y : Option Addr) (v8c : Nat) (v8l : List Int), cs = [.int .i64 v00x, .int .i64 v00y, .int .i64 v00z, .int .i64 v01, .int .i64 v02, .int .i64 v03, .int .i64 v04, .slice v05Y v05l.length v05c, .int .i64 v1, .int .i64 v2, .slice v3Y v3l.length v3c, .slice v4Y v4l.length v4c, .slice v5Y v5l.length v5c, .slice v6Y v6l.length v6c, .slice v7Y v7l.length v7c, .slice v8Y v8l.length v8c] ∧ W64 v00x ∧ W64 v00y ∧ W64 v00z ∧ W64 v01 ∧ W64 v02 ∧ W64 v03 ∧ W64 v04 ∧ v05l.length ≤ v05c ∧ v05c ≤ maxLen ∧ SlcAt 4 kRep W v05Y v05l ∧ (∀ n ∈ v05l, KWf n) ∧ W64 v1 ∧ W64 v2 ∧ v3l.length ≤ v3c ∧ v3c ≤ maxLen ∧ SlcAt 16 jRep W v3Y v3l ∧ (∀ n ∈ v3l, JWf2 n) ∧ v4l.length ≤ v4c ∧ v4c ≤ maxLen ∧ SlcAt 13 pRep W v4Y v4l ∧ (∀ n ∈ v4l, PWf n) ∧ v5l.length ≤ v5c ∧ v5c ≤ maxLen ∧ SlcAt 9 eRep W v5Y v5l ∧ (∀ n ∈ v5l, EWf n) ∧ v6l.length ≤ v6c ∧ v6c ≤ maxLen ∧ IntsAt W v6Y v6l ∧ (∀ n ∈ v6l, W64 n) ∧ v7l.length ≤ v7c ∧ v7c ≤ maxLen ∧ IntsAt W v7Y v7l ∧ (∀ n ∈ v7l, W64 n) ∧ v8l.length ≤ v8c ∧ v8c ≤ maxLen ∧ IntsAt W v8Y v8l ∧ (∀ n ∈ v8l, W64 n) := by
  obtain ⟨xs, n, _, hx, _, hl, hg⟩ := DataW.trod_struct Try.underlying49 h
  match cs, hlen with
  | [c0, c1, c2, c3, c4, c5, c6, c7, c8, c9, c10, c11, c12, c13, c14, c15], _ =>
    have q0 := hg 0 _ rfl
    have q1 := hg 1 _ rfl
    have q2 := hg 2 _ rfl
    have q3 := hg 3 _ rfl
    have q4 := hg 4 _ rfl
    have q5 := hg 5 _ rfl
    have q6 := hg 6 _ rfl
    have q7 := hg 7 _ rfl
    have q8 := hg 8 _ rfl
    match xs, hl with
    | [z0, z1, z2, z3, z4, z5, z6, z7, z8], _ =>
      simp only [List.getElem_toArray, List.getElem_cons_zero, List.getElem_cons_succ] at q0
      rw [show Try.prog.cellsOf 44 = 8 from by kernel_rfl] at q0
      simp at q0
      obtain ⟨v00x, v00y, v00z, v01, v02, v03, v04, v05Y, v05c, v05l, e0, w0_0, w0_1, w0_2, w0_3, w0_4, w0_5, w0_6, w0_7, w0_8, w0_9, w0_10⟩ := trod_Config (by rfl) q0
      simp only [List.cons.injEq, and_true] at e0
      obtain ⟨rfl, rfl, rfl, rfl, rfl, rfl, rfl, rfl⟩ := e0
      simp only [List.getElem_toArray, List.getElem_cons_zero, List.getElem_cons_succ] at q1
      rw [show Try.prog.cellsOf 3 = 1 from by kernel_rfl] at q1
      simp at q1
      obtain ⟨v1, e1, _, w1⟩ := DataW.trod_int Try.underlying3 q1
      simp at e1
      subst e1
      simp only [List.getElem_toArray, List.getElem_cons_zero, List.getElem_cons_succ] at q2
      rw [show Try.prog.cellsOf 3 = 1 from by kernel_rfl] at q2
      simp at q2
      obtain ⟨v2, e2, _, w2⟩ := DataW.trod_int Try.underlying3 q2
      simp at e2
      subst e2
      simp only [List.getElem_toArray, List.getElem_cons_zero, List.getElem_cons_succ] at q3
      rw [show Try.prog.cellsOf 45 = 1 from by kernel_rfl] at q3
      simp at q3
      obtain ⟨v3Y, v3c, v3l, e3, w3a, w3b, w3c, w3d⟩ := slc_trod (Wf := JWf2) jRep Try.underlying45 (by kernel_rfl) (by omega) (fun _ _ _ => el_job2) q3
      subst e3
      simp only [List.getElem_toArray, List.getElem_cons_zero, List.getElem_cons_succ] at q4
      rw [show Try.prog.cellsOf 46 = 1 from by kernel_rfl] at q4
      simp at q4
      obtain ⟨v4Y, v4c, v4l, e4, w4a, w4b, w4c, w4d⟩ := slc_trod (Wf := PWf) pRep Try.underlying46 (by kernel_rfl) (by omega) (fun _ _ _ => el_part) q4
      subst e4
      simp only [List.getElem_toArray, List.getElem_cons_zero, List.getElem_cons_succ] at q5
      rw [show Try.prog.cellsOf 47 = 1 from by kernel_rfl] at q5
      simp at q5
      obtain ⟨v5Y, v5c, v5l, e5, w5a, w5b, w5c, w5d⟩ := slc_trod (Wf := EWf) eRep Try.underlying47 (by kernel_rfl) (by omega) (fun _ _ _ => el_keep) q5
      subst e5
      simp only [List.getElem_toArray, List.getElem_cons_zero, List.getElem_cons_succ] at q6
      rw [show Try.prog.cellsOf 26 = 1 from by kernel_rfl] at q6
      simp at q6
      obtain ⟨v6Y, v6c, v6l, e6, w6a, w6b, w6c, w6d⟩ := ints_trod q6
      subst e6
      simp only [List.getElem_toArray, List.getElem_cons_zero, List.getElem_cons_succ] at q7
      rw [show Try.prog.cellsOf 26 = 1 from by kernel_rfl] at q7
      simp at q7
      obtain ⟨v7Y, v7c, v7l, e7, w7a, w7b, w7c, w7d⟩ := ints_trod q7
      subst e7
      simp only [List.getElem_toArray, List.getElem_cons_zero, List.getElem_cons_succ] at q8
      rw [show Try.prog.cellsOf 26 = 1 from by kernel_rfl] at q8
      simp at q8
      obtain ⟨v8Y, v8c, v8l, e8, w8a, w8b, w8c, w8d⟩ := ints_trod q8
      subst e8
      exact ⟨v00x, v00y, v00z, v01, v02, v03, v04, v05Y, v05c, v05l, v1, v2, v3Y, v3c, v3l, v4Y, v4c, v4l, v5Y, v5c, v5l, v6Y, v6c, v6l, v7Y, v7c, v7l, v8Y, v8c, v8l, rfl, w0_0, w0_1, w0_2, w0_3, w0_4, w0_5, w0_6, w0_7, w0_8, w0_9, w0_10, w1, w2, w3a, w3b, w3c, w3d, w4a, w4b, w4c, w4d, w5a, w5b, w5c, w5d, w6a, w6b, w6c, w6d, w7a, w7b, w7c, w7d, w8a, w8b, w8c, w8d⟩
theorem el_state2 {H : Type} {enc : TypeId × Value → H} {W : World} {held : Bool} {fuel : Nat} {cs : List Value} {x : DataW H × List MemPlace} (hlen : cs.length = 16) (h : DataW.trod enc Try.prog W 0 (fun _ => true) held fuel 49 cs = some x) : ∃ s x, cs = sL s x ∧ StAt W s x ∧ SWf s ∧ RTopS s := by
  obtain ⟨v00x, v00y, v00z, v01, v02, v03, v04, v05Y, v05c, v05l, v1, v2, v3Y, v3c, v3l, v4Y, v4c, v4l, v5Y, v5c, v5l, v6Y, v6c, v6l, v7Y, v7c, v7l, v8Y, v8c, v8l, rfl, w0, w1, w2, w3, w4, w5, w6, w7, w8, w9, w10, w11, w12, w13, w14, w15, w16, w17, w18, w19, w20, w21, w22, w23, w24, w25, w26, w27, w28, w29, w30, w31, w32, w33, w34, w35, w36⟩ := trod_State2 hlen h
  exact ⟨⟨v00x, v00y, v00z, v01, v02, v03, v04, v05l, v1, v2, v3l, v4l, v5l, v6l, v7l, v8l⟩, ⟨v05Y, v05c, v3Y, v3c, v4Y, v4c, v5Y, v5c, v6Y, v6c, v7Y, v7c, v8Y, v8c⟩, rfl, ⟨w9, w15, w19, w23, w27, w31, w35, w7, w13, w17, w21, w25, w29, w33⟩, ⟨⟨w0, w1, w2, w3, w4, w5, w6, w11, w12⟩, w10, (fun n hn => (w16 n hn).1), w20, w24, w28, w32, w36⟩, ⟨Nat.le_trans w7 w8, Nat.le_trans w13 w14, Nat.le_trans w17 w18, Nat.le_trans w21 w22, Nat.le_trans w25 w26, Nat.le_trans w29 w30, Nat.le_trans w33 w34, (fun j hj => (w16 j hj).2)⟩⟩
/-! What an argument weighs: its parts weigh no more. -/
theorem sub_small {H : Type} {P : Program} {t : TypeId} {fs : Array Field} (ht : P.underlying t = some (.struct fs)) {parts : List (DataW H)} (h : ∀ n ∈ (DataW.agg parts).weights P t, n ≤ reachBytes) {j : Nat} {f : Field} (hf : fs[j]? = some f) {d : DataW H} (hd : parts[j]? = some d) : ∀ n ∈ d.weights P f.type, n ≤ reachBytes := fun n hn => h n (by
  simp only [DataW.weights, ht]
  exact DataW.weights_mem_each (by rw [List.getElem?_map, Array.getElem?_toList, hf]; rfl) hd n hn)
set_option maxRecDepth 100000 in
theorem job_small {H : Type} {enc : TypeId × Value → H} {W : World} {held : Bool} {fuel : Nat} {cs : List Value} {x : DataW H × List MemPlace} (h : DataW.trod enc Try.prog W 0 (fun _ => true) held fuel 28 cs = some x) (hs : ∀ n ∈ x.1.weights Try.prog 28, n ≤ reachBytes) {Y : Option Addr} {n c : Nat} (hc : (cs.drop 13).take 1 = [.slice Y n c]) : n * 8 ≤ reachBytes := by
  obtain ⟨xs, m, _, rfl, _, hl, hg⟩ := DataW.trod_struct Try.underlying28 h
  have q7 := hg 7 _ rfl
  match xs, hl with
  | [z0, z1, z2, z3, z4, z5, z6, z7, z8, z9], _ =>
    have hs7 := sub_small Try.underlying28 hs (j := 7) rfl (d := z7.1) rfl
    simp only [List.getElem_toArray, List.getElem_cons_zero, List.getElem_cons_succ] at q7 hs7
    rw [show Try.prog.cellsOf 26 = 1 from by kernel_rfl, hc] at q7
    have q : DataW.trod enc Try.prog W 0 (fun _ => true) held m 26 [.slice Y n c] = some z7 := q7
    rcases open_ints Try.underlying26 Try.underlying3 (by kernel_rfl) q with ⟨e, _⟩ | ⟨a, len, cap, zs, e, _, hlc, _, hz, e2, _⟩
    · simp at e; omega
    · simp at e
      obtain ⟨_, rfl, _⟩ := e
      have hz2 : zs.length = cap := by simpa using hz
      have := hs7 ((zs.take n).length * 8 + (zs.drop n).length * 8) (by
        rw [e2]
        show _ ∈ DataW.weights Try.prog 26 _
        simp only [DataW.weights, Try.underlying26, show Try.prog.bytesOf 3 = 8 from by kernel_rfl]
        simp [lits, Nat.add_mul])
      have hzt : (zs.take n).length = n := by simp; omega
      omega
set_option maxRecDepth 100000 in
theorem cmd_small {H : Type} {enc : TypeId × Value → H} {W : World} {held : Bool} {fuel : Nat} {x : DataW H × List MemPlace} {k : CV} {Y : Option Addr} {cy : Nat} (h : DataW.trod enc Try.prog W 0 (fun _ => true) held fuel 34 (cL k Y cy) = some x) (hs : ∀ n ∈ x.1.weights Try.prog 34, n ≤ reachBytes) : k.af.length * 8 ≤ reachBytes := by
  obtain ⟨xs, m, _, rfl, _, hl, hg⟩ := DataW.trod_struct Try.underlying34 h
  have q1 := hg 1 _ rfl
  match xs, hl with
  | [z0, z1, z2, z3, z4, z5, z6], _ =>
    have hs1 := sub_small Try.underlying34 hs (j := 1) rfl (d := z1.1) rfl
    simp only [List.getElem_toArray, List.getElem_cons_zero, List.getElem_cons_succ] at q1 hs1
    rw [show Try.prog.cellsOf 28 = 16 from by kernel_rfl] at q1
    exact job_small q1 hs1 (Y := Y) (c := cy) rfl
set_option maxRecDepth 100000 in
theorem rec_small {H : Type} {enc : TypeId × Value → H} {W : World} {held : Bool} {fuel : Nat} {x : DataW H × List MemPlace} {r : RV} {y : SA} {Y : Option Addr} {cy : Nat} (h : DataW.trod enc Try.prog W 0 (fun _ => true) held fuel 51 (rL r y Y cy) = some x) (hs : ∀ n ∈ x.1.weights Try.prog 51, n ≤ reachBytes) : r.c.af.length ≤ 17592186044416 := by
  obtain ⟨xs, m, _, rfl, _, hl, hg⟩ := DataW.trod_struct Try.underlying51 h
  have q2 := hg 2 _ rfl
  match xs, hl with
  | [z0, z1, z2], _ =>
    have hs2 := sub_small Try.underlying51 hs (j := 2) rfl (d := z2.1) rfl
    simp only [List.getElem_toArray, List.getElem_cons_zero, List.getElem_cons_succ] at q2 hs2
    rw [show Try.prog.cellsOf 34 = 28 from by kernel_rfl] at q2
    have := cmd_small (k := r.c) (Y := Y) (cy := cy) q2 hs2
    simp only [reachBytes] at this
    omega
set_option maxRecDepth 100000 in
theorem el_record2 {H : Type} {enc : TypeId × Value → H} {W : World} {held : Bool} {fuel : Nat} {cs : List Value} {x : DataW H × List MemPlace} (hlen : cs.length = 45) (h : DataW.trod enc Try.prog W 0 (fun _ => true) held fuel 51 cs = some x) (hs : ∀ n ∈ x.1.weights Try.prog 51, n ≤ reachBytes) : ∃ r y Y cy, cs = rL r y Y cy ∧ RFacts r ∧ RIs W r y Y cy := by
  obtain ⟨xs, n, _, hx, _, hl, hg⟩ := DataW.trod_struct Try.underlying51 h
  have q0 := hg 0 _ rfl
  have q1 := hg 1 _ rfl
  have q2 := hg 2 _ rfl
  match xs, hl with
  | [z0, z1, z2], _ =>
    simp only [List.getElem_toArray, List.getElem_cons_zero, List.getElem_cons_succ] at q0 q1 q2
    rw [show Try.prog.cellsOf 3 = 1 from by kernel_rfl] at q0
    rw [show Try.prog.cellsOf 49 = 16 from by kernel_rfl] at q1
    rw [show Try.prog.cellsOf 34 = 28 from by kernel_rfl] at q2
    obtain ⟨c0, rest, rfl⟩ : ∃ c0 rest, cs = c0 :: rest := by
      cases cs with
      | nil => simp at hlen
      | cons a l => exact ⟨a, l, rfl⟩
    have hr : rest.length = 44 := by simpa using hlen
    have p0 : DataW.trod enc Try.prog W 0 (fun _ => true) held n 3 [c0] = some z0 := q0
    obtain ⟨v, e, _, wv⟩ := DataW.trod_int Try.underlying3 p0
    simp at e
    subst e
    have p1 : DataW.trod enc Try.prog W 0 (fun _ => true) held n 49 (rest.take 16) = some z1 := q1
    have p2 : DataW.trod enc Try.prog W 0 (fun _ => true) held n 34 ((rest.drop 16).take 28) = some z2 := q2
    obtain ⟨s, y, e1, h1, h2, h5⟩ := el_state2 (by rw [List.length_take, hr]; rfl) p1
    obtain ⟨c, Y, cy, e2, g1, g2, g3, g4, _⟩ := el_cmd (by rw [List.length_take, List.length_drop, hr]; rfl) p2
    have e : rest = sL s y ++ cL c Y cy := by
      rw [List.take_of_length_le (show (rest.drop 16).length ≤ 28 by rw [List.length_drop, hr]; omega)] at e2
      rw [← e1, ← e2]
      exact (List.take_append_drop 16 rest).symm
    subst e
    exact ⟨⟨v, s, c⟩, y, Y, cy, rfl, ⟨h2, g4, wv, ⟨h5.C, h5.J, h5.P, h5.K, h5.D, h5.S, h5.U, h5.A, Nat.le_trans g1 g2⟩, rec_small (r := ⟨v, s, c⟩) (y := y) (Y := Y) (cy := cy) h hs⟩, ⟨h1, g3, g1⟩⟩
set_option maxRecDepth 100000 in
/-- An argument that is a record. -/
theorem open_rec2 {H : Type} {enc : TypeId × Value → H} {W : World} {r : Reach} {b0 : Nat} {v : Value} {d : DataW H} {p : List MemPlace} {held : Bool}
    (hv : Value.okWide Try.prog W r b0 51 v) (h : DataW.Trod enc Try.prog W 0 (fun _ => true) held 51 v d p) (hs : ∀ n ∈ d.weights Try.prog 51, n ≤ reachBytes) :
    ∃ (c : RV) (x : SA) (Y : Option Addr) (cy : Nat), v = .agg (rL c x Y cy).toArray ∧ RFacts c ∧ RIs W c x Y cy := by
  obtain ⟨cs, rfl, hsz⟩ := okWide_struct Try.underlying51 hv
  obtain ⟨fuel, hf⟩ := h
  obtain ⟨c, x, Y, cy, e, hI⟩ := el_record2 (by simpa [Value.cells] using hsz.trans (by kernel_rfl)) hf hs
  refine ⟨c, x, Y, cy, ?_, hI⟩
  have e2 : cs.toList = rL c x Y cy := by simpa only [Value.cells] using e
  rw [← e2]
/-- The weights of one of several arguments. -/
theorem arg_small {H : Type} {P : Program} {ts : List TypeId} {ds : List (DataW H)} (h : (DataW.weightsEach P ts ds).all (· ≤ reachBytes) = true) {j : Nat} {t : TypeId} {d : DataW H} (ht : ts[j]? = some t) (hd : ds[j]? = some d) : ∀ n ∈ d.weights P t, n ≤ reachBytes := fun n hn => by
  have := List.all_eq_true.1 h n (DataW.weights_mem_each ht hd n hn)
  simpa using this
end Go.Proofs.Ytfdldbfjeamlcaa.OpenRec2
/-! How arguments that are slices of records are opened, with what they weigh. No conditions. -/
namespace Go.Proofs.Ytfdldbfjeamlcaa.OpenRecs
open Go.ChangeShapes Go.WideShapes Go.ChangeAt Go.RowKit Go.Joins Go.Deep Mem RecMath RecCommand RecVal RecSameA RecF3 RecAll LogRows Lay OpenRec0 OpenRec OpenRec2
set_option linter.unusedVariables false
set_option linter.unusedSimpArgs false

theorem weightsAll_mem {H : Type} {P : Program} {e : TypeId} : ∀ {l : List (DataW H)} {d : DataW H}, d ∈ l → ∀ n ∈ d.weights P e, n ∈ DataW.weightsAll P e l
  | a :: l, d, hd, n, hn => by
    simp only [DataW.weightsAll, List.mem_append]
    rcases List.mem_cons.1 hd with rfl | h
    · exact Or.inl hn
    · exact Or.inr (weightsAll_mem h n hn)
instance : Inhabited RV := ⟨RV.z⟩
/-- A slice of things, with what they weigh. -/
theorem slc_trod2 {α : Type} {Wf : α → Prop} {t e : TypeId} {n : Nat} (rep : World → α → List Value → Prop) [Inhabited α] {H : Type} {enc : TypeId × Value → H} {W : World} {held : Bool} {fuel : Nat} {v : Value} {x : DataW H × List MemPlace} (hu : Try.prog.underlying t = some (.slice e)) (kc : Try.prog.cellsOf e = n) (hn : 0 < n)
    (hel : ∀ (fuel : Nat) (cs : List Value) (x : DataW H × List MemPlace), cs.length = n → DataW.trod enc Try.prog W 0 (fun _ => true) held fuel e cs = some x → (∀ n ∈ x.1.weights Try.prog e, n ≤ reachBytes) → ∃ a, rep W a cs ∧ Wf a)
    (hs : ∀ n ∈ x.1.weights Try.prog t, n ≤ reachBytes)
    (hf : DataW.trod enc Try.prog W 0 (fun _ => true) held fuel t [v] = some x) :
    ∃ (Y : Option Addr) (c : Nat) (l : List α), v = .slice Y l.length c ∧ l.length ≤ c ∧ c ≤ maxLen ∧ SlcAt n rep W Y l ∧ ∀ a ∈ l, Wf a := by
  rcases open_slice hu hf with ⟨h0, _⟩ | ⟨⟨b, o, s⟩, len, cap, m, nn, D, Pl, hcs, hb, hl, hm, hmm, hx, hi⟩
  · simp at h0
    exact ⟨none, 0, [], h0, by simp, by simp [maxLen], SlcAt.nil, by simp⟩
  · simp at hcs
    have hmc : m = cap := by rw [hmm]; rfl
    rw [kc] at hi
    have hs0 : 0 < len → s = none ∧ b < W.heap.size := fun hl0 => by
      obtain ⟨cs', hc, ht'⟩ := hi 0 (by omega)
      obtain ⟨_, hcl, hat⟩ := World.cells?_some hc
      have h0 := hat 0 hn
      rw [Nat.zero_mul, add_of_add] at h0
      have h0' : W.cell? ((⟨b, o, s⟩ : Addr).add 0) = some (cs'[0]'(by omega)) := by
        rw [show (0 : Nat) + 0 = 0 from rfl] at h0
        rw [h0]; exact List.getElem?_eq_getElem (by omega)
      refine ⟨by simpa [Addr.add] using World.cell?_spot h0', ?_⟩
      have := cell_lt h0'
      rwa [block_of_add] at this
    have hE : ∀ i, ∃ q : α × List Value, i < len → q.2.length = n ∧ W.rangeAt b (o + i * n) q.2 ∧ rep W q.1 q.2 ∧ Wf q.1 := by
      intro i
      by_cases hlt : i < len
      · obtain ⟨rfl, _⟩ := hs0 (by omega)
        obtain ⟨cs', hc, ht'⟩ := hi i (by omega)
        obtain ⟨_, hcl, hat⟩ := World.cells?_some hc
        obtain ⟨a, h1, h2⟩ := hel _ _ _ hcl ht' (fun z hz => hs z (by
          rw [hx]
          simp only [DataW.weights, hu]
          exact List.mem_cons_of_mem _ (List.mem_append_left _ (weightsAll_mem (List.mem_map.2 ⟨i, List.mem_range.2 hlt, rfl⟩) z hz))))
        refine ⟨(a, cs'), fun _ => ⟨hcl, fun j u hu => ?_, h1, h2⟩⟩
        have hj : j < n := by rw [← hcl]; exact (List.getElem?_eq_some_iff.1 hu).1
        have h0 := hat j hj
        rw [add_flat, add_flat] at h0
        rw [h0]; exact hu
      · exact ⟨(default, []), fun h => absurd h hlt⟩
    refine ⟨some ⟨b, o, s⟩, cap, (List.range len).map (fun i => (hE i).choose.1), by rw [hcs]; simp, by simpa using hl, hm, fun i q hq => ?_, fun j hj => ?_⟩
    · have hlt : i < len := by
        have := (List.getElem?_eq_some_iff.1 hq).1
        simpa using this
      have hq' : q = (hE i).choose.1 := by simpa [hlt] using hq.symm
      obtain ⟨g1, g2, g3, g4⟩ := (hE i).choose_spec hlt
      obtain ⟨rfl, hbl⟩ := hs0 (by omega)
      rw [hq']
      exact ⟨b, o, _, rfl, hbl, g1, g2, g3⟩
    · obtain ⟨i, hi2, rfl⟩ := List.mem_map.1 hj
      exact ((hE i).choose_spec (by simpa using hi2)).2.2.2
set_option maxRecDepth 100000 in
/-- An argument that is a slice of records. -/
theorem open_recs {H : Type} {enc : TypeId × Value → H} {W : World} {r : Reach} {b0 : Nat} {v : Value} {d : DataW H} {p : List MemPlace} {held : Bool}
    (hv : Value.okWide Try.prog W r b0 86 v) (h : DataW.Trod enc Try.prog W 0 (fun _ => true) held 86 v d p) (hs : ∀ n ∈ d.weights Try.prog 86, n ≤ reachBytes) :
    ∃ (R : Option Addr) (c : Nat) (l : List RV), v = .slice R l.length c ∧ l.length ≤ c ∧ c ≤ maxLen ∧ (∀ q ∈ l, RFacts q) ∧ RsAt W R l := by
  obtain ⟨a0, len, cap, rfl⟩ := okWide_slice Try.underlying86 hv
  obtain ⟨fuel, hf⟩ := h
  obtain ⟨Y, c, l, e, h1, h2, h3, h4⟩ := slc_trod2 (Wf := RFacts) LogRows.rRep Try.underlying86 (by kernel_rfl : Try.prog.cellsOf 51 = 45) (by omega) (fun _ cs x hl ht hw => by
    obtain ⟨r, y, Y, cy, e, F, I⟩ := el_record2 hl ht hw
    exact ⟨r, ⟨y, Y, cy, e, I⟩, F⟩) hs hf
  exact ⟨Y, c, l, e, h1, h2, h4, h3⟩
end Go.Proofs.Ytfdldbfjeamlcaa.OpenRecs
