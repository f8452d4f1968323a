/- RecOwn: the walk. -/
import Derived.BigQuiet
import Derived.Deep.QuietTactic
import Derived.Deep.MidRow
import Derived.Deep.DeepCutAuto
import Derived.Lib.QuietBelow
import Derived.Test.YtfdldbfjeamlcaaRecGuard
import Derived.Test.YtfdldbfjeamlcaaRecAlive
import Derived.Test.YtfdldbfjeamlcaaRecVal
namespace Go.Proofs.Ytfdldbfjeamlcaa.RecOwn
open Go.RowKit RecGuard Mem RecMem RecByte RecNum RecEach RecMath RecPort RecCmd RecCommand RecCmdJ RecEq RecJobs RecSame RecWr0 RecWrite RecAlive RecVal
set_option linter.unusedVariables false
set_option linter.unusedSimpArgs false

theorem setA_size {vs : List Value} : ∀ {cs : Array Value} {i : Nat}, (setA cs i vs).size = cs.size := by
  induction vs with
  | nil => intro cs i; rfl
  | cons v vs ih => intro cs i; show (setA (cs.setIfInBounds i v) (i + 1) vs).size = _; rw [ih]; simp
theorem setA_get : ∀ (vs : List Value) (cs : Array Value) (i : Nat), i + vs.length ≤ cs.size → ∀ j, (setA cs i vs)[j]? = if i ≤ j ∧ j < i + vs.length then vs[j - i]? else cs[j]?
  | [], cs, i, h, j => by
    rw [if_neg (by simp only [List.length_nil]; omega)]
    rfl
  | v :: vs, cs, i, h, j => by
    simp only [List.length_cons] at h
    show (setA (cs.setIfInBounds i v) (i + 1) vs)[j]? = _
    rw [setA_get vs _ _ (by simp; omega) j]
    simp only [List.length_cons]
    by_cases h1 : i = j
    · subst h1
      rw [if_neg (by omega), if_pos (by omega), Array.getElem?_setIfInBounds_self_of_lt (by omega), Nat.sub_self]
      rfl
    · rw [Array.getElem?_setIfInBounds_ne h1]
      by_cases h2 : i + 1 ≤ j ∧ j < i + 1 + vs.length
      · rw [if_pos h2, if_pos (by omega)]
        obtain ⟨d, rfl⟩ : ∃ d, j = i + 1 + d := ⟨j - (i + 1), by omega⟩
        rw [show i + 1 + d - (i + 1) = d by omega, show i + 1 + d - i = d + 1 by omega]
        rfl
      · rw [if_neg h2, if_neg (by omega)]
theorem setA_full {vs : List Value} {cs : Array Value} (h : vs.length = cs.size) : setA cs 0 vs = vs.toArray := by
  apply Array.ext_getElem?
  intro j
  rw [setA_get vs cs 0 (by omega) j]
  by_cases hj : j < vs.length
  · rw [if_pos (by omega)]; simp
  · rw [if_neg (by omega), Array.getElem?_eq_none (by omega)]
    simp; omega
/-- A new box, written whole. -/
theorem box_full {W : World} (t : TypeId) (cs : Array Value) {vs : List Value} (h : vs.length = cs.size) : Blk (World.setCells (W.alloc (.cells cs t)) W.heap.size 0 vs) W.heap.size t vs.toArray ∧ Below W.heap.size W (World.setCells (W.alloc (.cells cs t)) W.heap.size 0 vs) :=
  ⟨blk_all (Blk.new W t cs) (setA_full h), below_sets (Nat.le_refl _) (below_alloc (Below.refl _ W))⟩
theorem same_b (c d : CV) (Y Z : Option Addr) (cy cz : Nat) (B : Bool) (hB : B = decide (c = d)) (hc : CWf c) (hd : CWf d) (hl : c.af.length ≤ 1000) (hm : d.af.length ≤ 1000) (w : World) (hY : IntsAt w Y c.af) (hZ : IntsAt w Z d.af) :
    Calls Try.prog 18 #[.agg (recA c Y cy), .agg (recA d Z cz)] w fun e w' => e = .returned (.bool B) ∧ Below w.heap.size w w' := by
  subst hB
  exact rsame c d Y Z cy cz hc hd hl hm w hY hZ
theorem write_e (c : CV) (Y : Option Addr) (cy : Nat) (v : Int) (hv : v = if okW c then 0 else 8) (hc : CWf c) (hn : c.af.length ≤ 1000) (w : World) (hI : IntsAt w Y c.af) :
    Calls Try.prog 17 #[.agg (recA c Y cy)] w fun e w' => (∃ X n cc, e = .returned (.tuple #[.slice X n cc, .int .i64 v])) ∧ Below w.heap.size w w' := by
  refine (wwrite c Y cy hc hn w hI).mono ?_
  rintro e w' ⟨⟨h, X, n, cc, rfl, _, _⟩ | ⟨h, rfl⟩, hB⟩
  · exact ⟨⟨X, n, cc, by rw [hv, h]; rfl⟩, hB⟩
  · exact ⟨⟨none, 0, 0, by rw [hv, h]; rfl⟩, hB⟩
theorem okW_own (c : CV) : okW (own c) = mayK c.kd := by
  unfold okW
  rw [own_own, own_kd]
  simp
theorem okW_is (c : CV) : okW c = (mayK c.kd && decide (c = own c)) := by
  unfold okW
  have : decide (own c = c) = decide (c = own c) := by
    by_cases h : own c = c
    · rw [decide_eq_true h, decide_eq_true h.symm]
    · rw [decide_eq_false h, decide_eq_false (fun e => h e.symm)]
  rw [this]
set_option maxRecDepth 100000 in
set_option maxHeartbeats 4000000 in
theorem walk (w : World) (c : CV) (Y : Option Addr) (cy : Nat) (hcy : c.af.length ≤ cy) (hym : cy ≤ maxLen) (hY : IntsAt w Y c.af) (hc : CWf c) (hk : W8 c.kd) (hs : W8 c.st) :
    Calls Try.prog 3 #[.agg (cL c Y cy).toArray] w fun e w' => e = .returned (.bool true) ∧ Below w.heap.size w w' := by
  have HY := Lib.hid hY
  have HC := Lib.hid hc
  clear hY hc hk hs
  simp only [maxLen] at hym
  go_enter Try.func3, Try.ntmps3
  go_upto_region 1 with fail
  have K0 := Lib.hid (Blk.new w 34 (List.toArray [.int .u8 c.kd, .int .i64 c.id, .int .i64 c.us, .int .i64 c.cl, .int .i64 c.a, .int .i64 c.b, .int .i64 c.c, .bool c.p, .bool c.q, .bool c.r, .bool c.tn, .int .i64 c.wa, .int .i64 c.pr, .bool c.he, .slice Y c.af.length cy, .int .u8 c.st, .int .i64 c.ca, .int .i64 c.ci, .int .i64 c.b0, .int .i64 c.b1, .int .i64 c.b2, .int .i64 c.b3, .int .i64 c.b4, .int .i64 c.b5, .int .i64 c.fr, .int .i64 c.to, .int .i64 c.n, .bool c.we]))
  have HB0 := Lib.hid (below_alloc (o := .cells (List.toArray [.int .u8 c.kd, .int .i64 c.id, .int .i64 c.us, .int .i64 c.cl, .int .i64 c.a, .int .i64 c.b, .int .i64 c.c, .bool c.p, .bool c.q, .bool c.r, .bool c.tn, .int .i64 c.wa, .int .i64 c.pr, .bool c.he, .slice Y c.af.length cy, .int .u8 c.st, .int .i64 c.ca, .int .i64 c.ci, .int .i64 c.b0, .int .i64 c.b1, .int .i64 c.b2, .int .i64 c.b3, .int .i64 c.b4, .int .i64 c.b5, .int .i64 c.fr, .int .i64 c.to, .int .i64 c.n, .bool c.we]) 34) (Below.refl w.heap.size w))
  generalize w.alloc (.cells (List.toArray [.int .u8 c.kd, .int .i64 c.id, .int .i64 c.us, .int .i64 c.cl, .int .i64 c.a, .int .i64 c.b, .int .i64 c.c, .bool c.p, .bool c.q, .bool c.r, .bool c.tn, .int .i64 c.wa, .int .i64 c.pr, .bool c.he, .slice Y c.af.length cy, .int .u8 c.st, .int .i64 c.ca, .int .i64 c.ci, .int .i64 c.b0, .int .i64 c.b1, .int .i64 c.b2, .int .i64 c.b3, .int .i64 c.b4, .int .i64 c.b5, .int .i64 c.fr, .int .i64 c.to, .int .i64 c.n, .bool c.we]) 34) = W0 at *
  go_wp2_with fail
  refine (alive28 W0).mono ?_
  rintro e w1 ⟨rfl, hB1⟩
  have K1 := Lib.hid (K0.out.below hB1 K0.out.lt)
  have HB1 := Lib.hid (below_up HB0.out hB1)
  clear K0 HB0 hB1
  have c14 : w1.cell? ⟨w.heap.size, 14, none⟩ = some (.slice Y c.af.length cy) := K1.out.cell 14
  by_cases hn : c.af.length ≤ 1000
  · have hn2 : (c.af.length : Int) ≤ 1000 := by omega
    have HN := Lib.hid hn
    clear hn
    go_upto_region 4 with fail
    have HR1 := Lib.hid (show w1.rangeAt w.heap.size 0 [.int .u8 c.kd, .int .i64 c.id, .int .i64 c.us, .int .i64 c.cl, .int .i64 c.a, .int .i64 c.b, .int .i64 c.c, .bool c.p, .bool c.q, .bool c.r, .bool c.tn, .int .i64 c.wa, .int .i64 c.pr, .bool c.he, .slice Y c.af.length cy, .int .u8 c.st, .int .i64 c.ca, .int .i64 c.ci, .int .i64 c.b0, .int .i64 c.b1, .int .i64 c.b2, .int .i64 c.b3, .int .i64 c.b4, .int .i64 c.b5, .int .i64 c.fr, .int .i64 c.to, .int .i64 c.n, .bool c.we] from range_part (n := 28) K1.out rfl)
    clear c14
    go_wp2_with (first | (refine wpList_load_mid rfl 34 _ rfl _ _ rfl _ _ HR1.out Try.underlying34 rfl (by kernel_rfl) ?_))
    refine (ccommand c Y cy HN.out _ (HY.out.up HB1.out)).mono ?_
    rintro e w2 ⟨Y2, cy2, rfl, hcy2, hI2, hB2, _⟩
    have K2 := Lib.hid (K1.out.below hB2 K1.out.lt)
    have HB2 := Lib.hid (below_up HB1.out hB2)
    have HI2 := Lib.hid hI2
    clear K1 HB1 HR1 hB2 hI2
    have hx := box_full (W := w2) 34 #[.int .u8 0, .int .i64 0, .int .i64 0, .int .i64 0, .int .i64 0, .int .i64 0, .int .i64 0, .bool false, .bool false, .bool false, .bool false, .int .i64 0, .int .i64 0, .bool false, .slice none 0 0, .int .u8 0, .int .i64 0, .int .i64 0, .int .i64 0, .int .i64 0, .int .i64 0, .int .i64 0, .int .i64 0, .int .i64 0, .int .i64 0, .int .i64 0, .int .i64 0, .bool false] (vs := [.int .u8 (own c).kd, .int .i64 (own c).id, .int .i64 (own c).us, .int .i64 (own c).cl, .int .i64 (own c).a, .int .i64 (own c).b, .int .i64 (own c).c, .bool (own c).p, .bool (own c).q, .bool (own c).r, .bool (own c).tn, .int .i64 (own c).wa, .int .i64 (own c).pr, .bool (own c).he, .slice Y2 (own c).af.length cy2, .int .u8 (own c).st, .int .i64 (own c).ca, .int .i64 (own c).ci, .int .i64 (own c).b0, .int .i64 (own c).b1, .int .i64 (own c).b2, .int .i64 (own c).b3, .int .i64 (own c).b4, .int .i64 (own c).b5, .int .i64 (own c).fr, .int .i64 (own c).to, .int .i64 (own c).n, .bool (own c).we]) rfl
    go_upto_region 5 with (first | (refine wpList_store_mid rfl 34 _ _ rfl w2.heap.size 0 (List.toArray [.int .u8 (own c).kd, .int .i64 (own c).id, .int .i64 (own c).us, .int .i64 (own c).cl, .int .i64 (own c).a, .int .i64 (own c).b, .int .i64 (own c).c, .bool (own c).p, .bool (own c).q, .bool (own c).r, .bool (own c).tn, .int .i64 (own c).wa, .int .i64 (own c).pr, .bool (own c).he, .slice Y2 (own c).af.length cy2, .int .u8 (own c).st, .int .i64 (own c).ca, .int .i64 (own c).ci, .int .i64 (own c).b0, .int .i64 (own c).b1, .int .i64 (own c).b2, .int .i64 (own c).b3, .int .i64 (own c).b4, .int .i64 (own c).b5, .int .i64 (own c).fr, .int .i64 (own c).to, .int .i64 (own c).n, .bool (own c).we]) rfl rfl (there_of (Blk.new _ 34 #[.int .u8 0, .int .i64 0, .int .i64 0, .int .i64 0, .int .i64 0, .int .i64 0, .int .i64 0, .bool false, .bool false, .bool false, .bool false, .int .i64 0, .int .i64 0, .bool false, .slice none 0 0, .int .u8 0, .int .i64 0, .int .i64 0, .int .i64 0, .int .i64 0, .int .i64 0, .int .i64 0, .int .i64 0, .int .i64 0, .int .i64 0, .int .i64 0, .int .i64 0, .bool false]) (Nat.le_of_ble_eq_true rfl)) (by kernel_rfl) (by kernel_rfl) ?_; simp only [List.toList_toArray]; generalize World.setCells _ _ _ _ = W3 at *; (try simp only [Act.put])))
    have K3 := Lib.hid (And.intro (K2.out.below hx.2 K2.out.lt) hx.1)
    have HB3 := Lib.hid (below_up HB2.out hx.2)
    have HI3 := Lib.hid (HI2.out.up hx.2)
    have hs3 : w2.heap.size < W3.heap.size := hx.1.lt
    clear K2 HB2 HI2 hx
    have HR3 := Lib.hid (show W3.rangeAt w2.heap.size 0 [.int .u8 (own c).kd, .int .i64 (own c).id, .int .i64 (own c).us, .int .i64 (own c).cl, .int .i64 (own c).a, .int .i64 (own c).b, .int .i64 (own c).c, .bool (own c).p, .bool (own c).q, .bool (own c).r, .bool (own c).tn, .int .i64 (own c).wa, .int .i64 (own c).pr, .bool (own c).he, .slice Y2 (own c).af.length cy2, .int .u8 (own c).st, .int .i64 (own c).ca, .int .i64 (own c).ci, .int .i64 (own c).b0, .int .i64 (own c).b1, .int .i64 (own c).b2, .int .i64 (own c).b3, .int .i64 (own c).b4, .int .i64 (own c).b5, .int .i64 (own c).fr, .int .i64 (own c).to, .int .i64 (own c).n, .bool (own c).we] from range_part (n := 28) K3.out.2 rfl)
    go_wp2_with (first | (refine wpList_load_mid rfl 34 _ rfl _ _ rfl _ _ HR3.out Try.underlying34 rfl (by kernel_rfl) ?_))
    refine (ccommand (own c) Y2 cy2 (own_len HN.out) _ HI3.out).mono ?_
    rintro e w4 ⟨Y3, cy3, rfl, hcy3, hI4, hB4, _⟩
    rw [own_own] at hcy3 hI4
    have K4 := Lib.hid (And.intro (K3.out.1.below hB4 K3.out.1.lt) (K3.out.2.below hB4 K3.out.2.lt))
    have HB4 := Lib.hid (below_up HB3.out hB4)
    have HI4 := Lib.hid (And.intro (HI3.out.up hB4) hI4)
    clear K3 HB3 HI3 HR3 hB4 hI4
    have hx := box_full (W := w4) 34 #[.int .u8 0, .int .i64 0, .int .i64 0, .int .i64 0, .int .i64 0, .int .i64 0, .int .i64 0, .bool false, .bool false, .bool false, .bool false, .int .i64 0, .int .i64 0, .bool false, .slice none 0 0, .int .u8 0, .int .i64 0, .int .i64 0, .int .i64 0, .int .i64 0, .int .i64 0, .int .i64 0, .int .i64 0, .int .i64 0, .int .i64 0, .int .i64 0, .int .i64 0, .bool false] (vs := [.int .u8 (own c).kd, .int .i64 (own c).id, .int .i64 (own c).us, .int .i64 (own c).cl, .int .i64 (own c).a, .int .i64 (own c).b, .int .i64 (own c).c, .bool (own c).p, .bool (own c).q, .bool (own c).r, .bool (own c).tn, .int .i64 (own c).wa, .int .i64 (own c).pr, .bool (own c).he, .slice Y3 (own c).af.length cy3, .int .u8 (own c).st, .int .i64 (own c).ca, .int .i64 (own c).ci, .int .i64 (own c).b0, .int .i64 (own c).b1, .int .i64 (own c).b2, .int .i64 (own c).b3, .int .i64 (own c).b4, .int .i64 (own c).b5, .int .i64 (own c).fr, .int .i64 (own c).to, .int .i64 (own c).n, .bool (own c).we]) rfl
    rw [own_own]
    go_upto_region 6 with (first | (refine wpList_store_mid rfl 34 _ _ rfl w4.heap.size 0 (List.toArray [.int .u8 (own c).kd, .int .i64 (own c).id, .int .i64 (own c).us, .int .i64 (own c).cl, .int .i64 (own c).a, .int .i64 (own c).b, .int .i64 (own c).c, .bool (own c).p, .bool (own c).q, .bool (own c).r, .bool (own c).tn, .int .i64 (own c).wa, .int .i64 (own c).pr, .bool (own c).he, .slice Y3 (own c).af.length cy3, .int .u8 (own c).st, .int .i64 (own c).ca, .int .i64 (own c).ci, .int .i64 (own c).b0, .int .i64 (own c).b1, .int .i64 (own c).b2, .int .i64 (own c).b3, .int .i64 (own c).b4, .int .i64 (own c).b5, .int .i64 (own c).fr, .int .i64 (own c).to, .int .i64 (own c).n, .bool (own c).we]) rfl rfl (there_of (Blk.new _ 34 #[.int .u8 0, .int .i64 0, .int .i64 0, .int .i64 0, .int .i64 0, .int .i64 0, .int .i64 0, .bool false, .bool false, .bool false, .bool false, .int .i64 0, .int .i64 0, .bool false, .slice none 0 0, .int .u8 0, .int .i64 0, .int .i64 0, .int .i64 0, .int .i64 0, .int .i64 0, .int .i64 0, .int .i64 0, .int .i64 0, .int .i64 0, .int .i64 0, .int .i64 0, .bool false]) (Nat.le_of_ble_eq_true rfl)) (by kernel_rfl) (by kernel_rfl) ?_; simp only [List.toList_toArray]; generalize World.setCells _ _ _ _ = W5 at *; (try simp only [Act.put])))
    have K5 := Lib.hid (And.intro (K4.out.1.below hx.2 K4.out.1.lt) (And.intro (K4.out.2.below hx.2 K4.out.2.lt) hx.1))
    have HB5 := Lib.hid (below_up HB4.out hx.2)
    have HI5 := Lib.hid (And.intro (HI4.out.1.up hx.2) (HI4.out.2.up hx.2))
    clear K4 HB4 HI4 hx
    obtain ⟨v6, hv6⟩ : ∃ v : Int, v = if okW (own c) then 0 else 8 := ⟨_, rfl⟩
    obtain ⟨v7, hv7⟩ : ∃ v : Int, v = if okW c then 0 else 8 := ⟨_, rfl⟩
    obtain ⟨B, hB⟩ : ∃ B, B = decide (c = own c) := ⟨_, rfl⟩
    rw [okW_own] at hv6
    rw [okW_is, ← hB] at hv7
    have HV := Lib.hid (And.intro hv6 (And.intro hv7 hB))
    clear hv6 hv7 hB
    have HR5 := Lib.hid (show W5.rangeAt w2.heap.size 0 [.int .u8 (own c).kd, .int .i64 (own c).id, .int .i64 (own c).us, .int .i64 (own c).cl, .int .i64 (own c).a, .int .i64 (own c).b, .int .i64 (own c).c, .bool (own c).p, .bool (own c).q, .bool (own c).r, .bool (own c).tn, .int .i64 (own c).wa, .int .i64 (own c).pr, .bool (own c).he, .slice Y2 (own c).af.length cy2, .int .u8 (own c).st, .int .i64 (own c).ca, .int .i64 (own c).ci, .int .i64 (own c).b0, .int .i64 (own c).b1, .int .i64 (own c).b2, .int .i64 (own c).b3, .int .i64 (own c).b4, .int .i64 (own c).b5, .int .i64 (own c).fr, .int .i64 (own c).to, .int .i64 (own c).n, .bool (own c).we] from range_part (n := 28) K5.out.2.1 rfl)
    go_wp2_with (first | (refine wpList_load_mid rfl 34 _ rfl _ _ rfl _ _ HR5.out Try.underlying34 rfl (by kernel_rfl) ?_))
    refine (write_e (own c) Y2 cy2 v6 (by rw [okW_own]; exact HV.out.1) (own_wf HC.out) (own_len HN.out) _ HI5.out.1).mono ?_
    rintro e w6 ⟨⟨X6, n6, cc6, rfl⟩, hB6⟩
    have K6 := Lib.hid (And.intro (K5.out.1.below hB6 K5.out.1.lt) (And.intro (K5.out.2.1.below hB6 K5.out.2.1.lt) (K5.out.2.2.below hB6 K5.out.2.2.lt)))
    have HB6 := Lib.hid (below_up HB5.out hB6)
    have HI6 := Lib.hid (And.intro (HI5.out.1.up hB6) (HI5.out.2.up hB6))
    clear K5 HB5 HI5 HR5 hB6
    have HR6 := Lib.hid (show w6.rangeAt w.heap.size 0 [.int .u8 c.kd, .int .i64 c.id, .int .i64 c.us, .int .i64 c.cl, .int .i64 c.a, .int .i64 c.b, .int .i64 c.c, .bool c.p, .bool c.q, .bool c.r, .bool c.tn, .int .i64 c.wa, .int .i64 c.pr, .bool c.he, .slice Y c.af.length cy, .int .u8 c.st, .int .i64 c.ca, .int .i64 c.ci, .int .i64 c.b0, .int .i64 c.b1, .int .i64 c.b2, .int .i64 c.b3, .int .i64 c.b4, .int .i64 c.b5, .int .i64 c.fr, .int .i64 c.to, .int .i64 c.n, .bool c.we] from range_part (n := 28) K6.out.1 rfl)
    go_wp2_with (first | (refine wpList_load_mid rfl 34 _ rfl _ _ rfl _ _ HR6.out Try.underlying34 rfl (by kernel_rfl) ?_))
    refine (write_e c Y cy v7 (by rw [okW_is, ← HV.out.2.2]; exact HV.out.2.1) HC.out HN.out _ (HY.out.up HB6.out)).mono ?_
    rintro e w7 ⟨⟨X7, n7, cc7, rfl⟩, hB7⟩
    have K7 := Lib.hid (And.intro (K6.out.1.below hB7 K6.out.1.lt) (And.intro (K6.out.2.1.below hB7 K6.out.2.1.lt) (K6.out.2.2.below hB7 K6.out.2.2.lt)))
    have HB7 := Lib.hid (below_up HB6.out hB7)
    have HI7 := Lib.hid (And.intro (HI6.out.1.up hB7) (HI6.out.2.up hB7))
    clear K6 HB6 HI6 HR6 hB7
    have HR7 := Lib.hid (show w7.rangeAt w.heap.size 0 [.int .u8 c.kd, .int .i64 c.id, .int .i64 c.us, .int .i64 c.cl, .int .i64 c.a, .int .i64 c.b, .int .i64 c.c, .bool c.p, .bool c.q, .bool c.r, .bool c.tn, .int .i64 c.wa, .int .i64 c.pr, .bool c.he, .slice Y c.af.length cy, .int .u8 c.st, .int .i64 c.ca, .int .i64 c.ci, .int .i64 c.b0, .int .i64 c.b1, .int .i64 c.b2, .int .i64 c.b3, .int .i64 c.b4, .int .i64 c.b5, .int .i64 c.fr, .int .i64 c.to, .int .i64 c.n, .bool c.we] from range_part (n := 28) K7.out.1 rfl)
    have HR7b := Lib.hid (show w7.rangeAt w2.heap.size 0 [.int .u8 (own c).kd, .int .i64 (own c).id, .int .i64 (own c).us, .int .i64 (own c).cl, .int .i64 (own c).a, .int .i64 (own c).b, .int .i64 (own c).c, .bool (own c).p, .bool (own c).q, .bool (own c).r, .bool (own c).tn, .int .i64 (own c).wa, .int .i64 (own c).pr, .bool (own c).he, .slice Y2 (own c).af.length cy2, .int .u8 (own c).st, .int .i64 (own c).ca, .int .i64 (own c).ci, .int .i64 (own c).b0, .int .i64 (own c).b1, .int .i64 (own c).b2, .int .i64 (own c).b3, .int .i64 (own c).b4, .int .i64 (own c).b5, .int .i64 (own c).fr, .int .i64 (own c).to, .int .i64 (own c).n, .bool (own c).we] from range_part (n := 28) K7.out.2.1 rfl)
    go_wp2_with (first | (refine wpList_load_mid rfl 34 _ rfl _ _ rfl _ _ HR7.out Try.underlying34 rfl (by kernel_rfl) ?_) | (refine wpList_load_mid rfl 34 _ rfl _ _ rfl _ _ HR7b.out Try.underlying34 rfl (by kernel_rfl) ?_))
    refine (same_b c (own c) Y Y2 cy cy2 B HV.out.2.2 HC.out (own_wf HC.out) HN.out (own_len HN.out) _ (HY.out.up HB7.out) HI7.out.1).mono ?_
    rintro e w8 ⟨rfl, hB8⟩
    have K8 := Lib.hid (And.intro (K7.out.1.below hB8 K7.out.1.lt) (And.intro (K7.out.2.1.below hB8 K7.out.2.1.lt) (K7.out.2.2.below hB8 K7.out.2.2.lt)))
    have HB8 := Lib.hid (below_up HB7.out hB8)
    have HI8 := Lib.hid (And.intro (HI7.out.1.up hB8) (HI7.out.2.up hB8))
    clear K7 HB7 HI7 HR7 HR7b hB8
    have ca : w8.cell? ⟨w.heap.size, 0, none⟩ = some (.int .u8 c.kd) := K8.out.1.cell 0
    have cb : w8.cell? ⟨w2.heap.size, 0, none⟩ = some (.int .u8 c.kd) := by
      have := K8.out.2.1.cell 0
      rw [← own_kd c]; exact this
    have HR8 := Lib.hid (show w8.rangeAt w2.heap.size 0 [.int .u8 (own c).kd, .int .i64 (own c).id, .int .i64 (own c).us, .int .i64 (own c).cl, .int .i64 (own c).a, .int .i64 (own c).b, .int .i64 (own c).c, .bool (own c).p, .bool (own c).q, .bool (own c).r, .bool (own c).tn, .int .i64 (own c).wa, .int .i64 (own c).pr, .bool (own c).he, .slice Y2 (own c).af.length cy2, .int .u8 (own c).st, .int .i64 (own c).ca, .int .i64 (own c).ci, .int .i64 (own c).b0, .int .i64 (own c).b1, .int .i64 (own c).b2, .int .i64 (own c).b3, .int .i64 (own c).b4, .int .i64 (own c).b5, .int .i64 (own c).fr, .int .i64 (own c).to, .int .i64 (own c).n, .bool (own c).we] from range_part (n := 28) K8.out.2.1 rfl)
    have HR8b := Lib.hid (show w8.rangeAt w4.heap.size 0 [.int .u8 (own c).kd, .int .i64 (own c).id, .int .i64 (own c).us, .int .i64 (own c).cl, .int .i64 (own c).a, .int .i64 (own c).b, .int .i64 (own c).c, .bool (own c).p, .bool (own c).q, .bool (own c).r, .bool (own c).tn, .int .i64 (own c).wa, .int .i64 (own c).pr, .bool (own c).he, .slice Y3 (own c).af.length cy3, .int .u8 (own c).st, .int .i64 (own c).ca, .int .i64 (own c).ci, .int .i64 (own c).b0, .int .i64 (own c).b1, .int .i64 (own c).b2, .int .i64 (own c).b3, .int .i64 (own c).b4, .int .i64 (own c).b5, .int .i64 (own c).fr, .int .i64 (own c).to, .int .i64 (own c).n, .bool (own c).we] from range_part (n := 28) K8.out.2.2 rfl)
    go_upto_region 9 with fail
    have hcase : (mayK c.kd = true ∧ 1 ≤ c.kd ∧ c.kd ≤ 15) ∨ (mayK c.kd = false ∧ c.kd < 1) ∨ (mayK c.kd = false ∧ 1 ≤ c.kd ∧ 15 < c.kd) := by
      unfold mayK
      by_cases h1 : 1 ≤ c.kd <;> by_cases h2 : c.kd ≤ 15 <;> simp [h1, h2] <;> omega
    have HK := Lib.hid K8.out
    rcases hcase with ⟨hm, h1, h2⟩ | ⟨hm, h1⟩ | ⟨hm, h1, h2⟩
    all_goals
      cases B
      all_goals
        have e6 := HV.out.1
        have e7 := HV.out.2.1
        rw [hm] at e6 e7
        simp only [if_true, Bool.and_true, Bool.and_false, Bool.false_and, Bool.true_and, Bool.false_eq_true, if_false] at e6 e7
        subst e6 e7
        clear hm
        go_wp2_with (first | (refine wpList_load_mid_g rfl 34 _ rfl _ _ rfl _ _ HR8.out Try.underlying34 rfl (by kernel_rfl) ?_) | (refine wpList_load_mid_g rfl 34 _ rfl _ _ rfl _ _ HR8b.out Try.underlying34 rfl (by kernel_rfl) ?_))
        refine (same_b (own c) (own c) Y2 Y3 cy2 cy3 true (by simp) (own_wf HC.out) (own_wf HC.out) (own_len HN.out) (own_len HN.out) _ HI8.out.1 HI8.out.2).mono ?_
        rintro e w9 ⟨rfl, hB9⟩
        have HB9 := Lib.hid (below_up HB8.out hB9)
        clear hB9
        go_wp2_with fail
        go_ret
        exact ⟨rfl, HB9.out⟩
  · have hn2 : (1000 : Int) < (c.af.length : Int) := by omega
    go_wp2_with fail
    go_ret
    exact ⟨rfl, HB1.out⟩
end Go.Proofs.Ytfdldbfjeamlcaa.RecOwn
