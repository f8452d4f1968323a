/- TurnTells: the walk. -/
import Derived.BigRegion
import Derived.BigQuiet
import Derived.Lib.QuietBelow
import Derived.Deep.QuietTactic
import Derived.Test.YtcapbkihjjhkjaaTurnROf
namespace Go.Proofs.Ytcapbkihjjhkjaa.TurnTells
open Go.Sort (grow)
open Go.RowKit Mem SeqKit PosMath PosCheck TurnMath TurnWalks TurnMap TurnAppend TurnSorted TurnAll TurnFitsV TurnFitsOf TurnRef TurnPut TurnTurns TurnRFits TurnROf
set_option linter.unusedVariables false
set_option linter.unusedSimpArgs false

def lst (x : WV) : List WV := if WOk x then allL x else []
theorem lst_ok {x y : WV} (h : y ∈ lst x) : WWf y := by
  unfold lst at h
  split at h
  · rename_i hx
    exact wwf_of (allL_ok hx h).1
  · cases h
theorem lst_len (x : WV) : (lst x).length ≤ 6 := by
  unfold lst
  split
  · exact allL_len
  · simp
theorem all_l (x : WV) (w : World) : Calls Try.prog 8 #[.agg x.arr] w fun e w' => ∃ X c, e = .returned (.tuple #[.slice X (lst x).length c, .int .i64 (okN x)]) ∧ Has w' X (lst x) ∧ Below w.heap.size w w' := by
  refine (all_any x w).mono ?_
  rintro e w1 ⟨v, n, rfl, hr, hB⟩
  rcases hr with ⟨hok, rfl, hW⟩ | ⟨hbad, rfl, rfl⟩
  · obtain ⟨X, cap, rfl, _, _, hh⟩ := wsl_has hW
    rw [show lst x = allL x from if_pos hok, show okN x = 0 from if_pos hok]
    exact ⟨X, cap, rfl, hh, hB⟩
  · rw [show lst x = [] from if_neg hbad, show okN x = 8 from if_neg hbad]
    exact ⟨none, 0, rfl, Has.nil, hB⟩
theorem rall_l (x : WV) (w : World) : Calls Try.prog 15 #[.agg x.arr] w fun e w' => ∃ X c, e = .returned (.tuple #[.slice X (lst x).length c, .int .i64 (okN x)]) ∧ Has w' X (lst x) ∧ Below w.heap.size w w' := by
  by_cases h : WOk x
  · rw [show lst x = allL x from if_pos h, show okN x = 0 from if_pos h]
    exact rall_ok x h w
  · rw [show lst x = [] from if_neg h, show okN x = 8 from if_neg h]
    refine (rall_bad x h w).mono ?_
    rintro e w1 ⟨rfl, hB⟩
    exact ⟨none, 0, rfl, Has.nil, hB⟩
set_option maxRecDepth 100000 in
set_option maxHeartbeats 8000000 in
theorem tellsLaw (w : World) (d0 d1 d2 : Int) (wd0 : (Lit.int .i64 d0).wf = true) (wd1 : (Lit.int .i64 d1).wf = true) (wd2 : (Lit.int .i64 d2).wf = true) (x : WV) (wxa : (Lit.int .i64 x.a).wf = true) (wxb : (Lit.int .i64 x.b).wf = true) (wxc : (Lit.int .i64 x.c).wf = true)
    (sa sb sc : Int) (wa : (Lit.int .i64 sa).wf = true) (wb : (Lit.int .i64 sb).wf = true) (wc : (Lit.int .i64 sc).wf = true) (tp tq tr : Bool) :
    Calls Try.prog 6 #[.agg #[.int .i64 d0, .int .i64 d1, .int .i64 d2], .agg x.arr, .agg #[.int .i64 sa, .int .i64 sb, .int .i64 sc], .agg #[.bool tp, .bool tq, .bool tr]] w fun e w' => e = .returned (.bool true) ∧ Below w.heap.size w w' := by
  have HA := Lib.hid (all_l x)
  have HRA := Lib.hid (rall_l x)
  have HF := Lib.hid (fits_any d0 d1 d2 x)
  have HRF := Lib.hid (rfits_any d0 d1 d2 x)
  have HO := Lib.hid (of_any x sa sb sc tp tq tr wa wb wc)
  have HRO := Lib.hid (rof_any x sa sb sc tp tq tr wa wb wc)
  have HC := Lib.hid (check_any x)
  have HRC := Lib.hid (rcheck_any x)
  have hlen := lst_len x
  have HL := Lib.hid (fun (y : WV) (h : y ∈ lst x) => lst_ok h)
  generalize lst x = l at *
  generalize fitsV d0 d1 d2 x = F at *
  generalize ofV x ⟨sa, sb, sc, tp, tq, tr, x.tn⟩ = G at *
  generalize okN x = N at *
  unfold WV.arr at HA HRA HF HRF HO HRO HC HRC ⊢
  clear wd0 wd1 wd2 wxa wxb wxc wa wb wc
  go_enter Try.func6, Try.ntmps6
  go_wp2_with fail
  refine (HA.out _).mono ?_
  rintro e w1 ⟨X, cX, rfl, hh, hB1⟩
  have kd : Blk w1 (w.heap.size) 39 #[.int .i64 d0, .int .i64 d1, .int .i64 d2] := ((((Blk.new w _ _).alloc _).alloc _).alloc _).below hB1 (by simp; try omega)
  have kx : Blk w1 (w.heap.size + 1) 25 #[.int .i64 x.a, .int .i64 x.b, .int .i64 x.c, .bool x.p, .bool x.q, .bool x.r, .bool x.tn] := (((blk1 w _ _).alloc _).alloc _).below hB1 (by simp; try omega)
  have ks : Blk w1 (w.heap.size + 1 + 1) 22 #[.int .i64 sa, .int .i64 sb, .int .i64 sc] := ((blk2 w _ _).alloc _).below hB1 (by simp; try omega)
  have kt : Blk w1 (w.heap.size + 1 + 1 + 1) 23 #[.bool tp, .bool tq, .bool tr] := (blk3 w _ _).below hB1 (by simp; try omega)
  have HB1 := Lib.hid (below_up (below_alloc (below_alloc (below_alloc (below_alloc (Below.refl _ w))))) hB1)
  have K1 := Lib.hid (And.intro kd (And.intro kx (And.intro ks kt)))
  have H1 := Lib.hid hh
  clear hB1 kd kx ks kt hh
  have d0 : w1.cell? ⟨w.heap.size, 0, none⟩ = some (.int .i64 d0) := (K1.out.1).cell 0
  have d1 : w1.cell? ⟨w.heap.size, 1, none⟩ = some (.int .i64 d1) := (K1.out.1).cell 1
  have d2 : w1.cell? ⟨w.heap.size, 2, none⟩ = some (.int .i64 d2) := (K1.out.1).cell 2
  have x0 : w1.cell? ⟨w.heap.size + 1, 0, none⟩ = some (.int .i64 x.a) := (K1.out.2.1).cell 0
  have x1 : w1.cell? ⟨w.heap.size + 1, 1, none⟩ = some (.int .i64 x.b) := (K1.out.2.1).cell 1
  have x2 : w1.cell? ⟨w.heap.size + 1, 2, none⟩ = some (.int .i64 x.c) := (K1.out.2.1).cell 2
  have x3 : w1.cell? ⟨w.heap.size + 1, 3, none⟩ = some (.bool x.p) := (K1.out.2.1).cell 3
  have x4 : w1.cell? ⟨w.heap.size + 1, 4, none⟩ = some (.bool x.q) := (K1.out.2.1).cell 4
  have x5 : w1.cell? ⟨w.heap.size + 1, 5, none⟩ = some (.bool x.r) := (K1.out.2.1).cell 5
  have x6 : w1.cell? ⟨w.heap.size + 1, 6, none⟩ = some (.bool x.tn) := (K1.out.2.1).cell 6
  have s0 : w1.cell? ⟨w.heap.size + 1 + 1, 0, none⟩ = some (.int .i64 sa) := (K1.out.2.2.1).cell 0
  have s1 : w1.cell? ⟨w.heap.size + 1 + 1, 1, none⟩ = some (.int .i64 sb) := (K1.out.2.2.1).cell 1
  have s2 : w1.cell? ⟨w.heap.size + 1 + 1, 2, none⟩ = some (.int .i64 sc) := (K1.out.2.2.1).cell 2
  have t0 : w1.cell? ⟨w.heap.size + 1 + 1 + 1, 0, none⟩ = some (.bool tp) := (K1.out.2.2.2).cell 0
  have t1 : w1.cell? ⟨w.heap.size + 1 + 1 + 1, 1, none⟩ = some (.bool tq) := (K1.out.2.2.2).cell 1
  have t2 : w1.cell? ⟨w.heap.size + 1 + 1 + 1, 2, none⟩ = some (.bool tr) := (K1.out.2.2.2).cell 2
  go_wp2_with fail
  refine (HRA.out _).mono ?_
  rintro e w2 ⟨Y, cY, rfl, hh, hB2⟩
  have H2 := Lib.hid (And.intro (H1.out.up hB2) hh)
  have HB2 := Lib.hid (below_up HB1.out hB2)
  have K2 := Lib.hid (And.intro (K1.out.1.below hB2 K1.out.1.lt) (And.intro (K1.out.2.1.below hB2 K1.out.2.1.lt) (And.intro (K1.out.2.2.1.below hB2 K1.out.2.2.1.lt) (K1.out.2.2.2.below hB2 K1.out.2.2.2.lt))))
  clear hB2 hh K1 HB1 H1 HA HRA d0 d1 d2 x0 x1 x2 x3 x4 x5 x6 s0 s1 s2 t0 t1 t2
  go_wp2_with fail
  go_loopw [13] (fun i wr => ∃ k : Nat, k ≤ l.length ∧ i = .int .i64 k ∧ Hid (Below w.heap.size w wr) ∧ Hid (Has wr X l ∧ Has wr Y l) ∧ Hid (Blk wr (w.heap.size) 39 #[.int .i64 d0, .int .i64 d1, .int .i64 d2] ∧ Blk wr (w.heap.size + 1) 25 #[.int .i64 x.a, .int .i64 x.b, .int .i64 x.c, .bool x.p, .bool x.q, .bool x.r, .bool x.tn] ∧ Blk wr (w.heap.size + 1 + 1) 22 #[.int .i64 sa, .int .i64 sb, .int .i64 sc] ∧ Blk wr (w.heap.size + 1 + 1 + 1) 23 #[.bool tp, .bool tq, .bool tr]))
    (fun i _ => l.length - (intOf i).toNat)
  case atStart => exact ⟨0, Nat.zero_le _, rfl, HB2.out, H2.out, K2.out⟩
  case round =>
    obtain ⟨k, hk, rfl, hB, hX, hK⟩ := hrel
    clear HB2 H2 K2
    by_cases hlt : k < l.length
    · have hg : l[k]? = some l[k] := List.getElem?_eq_getElem hlt
      generalize l[k] = y at hg
      have hki : (k : Int) < (l.length : Int) := by omega
      obtain ⟨b, o, rfl, hb, y0, y1, y2, y3, y4, y5, y6⟩ := hX.out.1 k y hg
      obtain ⟨b', o', rfl, hb', v0, v1, v2, v3, v4, v5, v6⟩ := hX.out.2 k y hg
      have hwf := HL.out y (List.mem_of_getElem? hg)
      have hq : ∀ w, (Op.equalIn 10000 25 (.agg #[.int .i64 y.a, .int .i64 y.b, .int .i64 y.c, .bool y.p, .bool y.q, .bool y.r, .bool y.tn]) (.agg #[.int .i64 y.a, .int .i64 y.b, .int .i64 y.c, .bool y.p, .bool y.q, .bool y.r, .bool y.tn])).run Try.prog w = .ok true w := fun w => by
        have := eq_wants hwf hwf w
        rw [decide_eq_true rfl] at this
        exact this
      clear hg hwf
      go_wp2_with fail
      go_quiet (fail)
      go_wp2_with fail
      go_roundw
      case rel => exact ⟨k + 1, by omega, by go_num, below_drewN hB.out _, ⟨hX.out.1.up (below_drewN (Below.refl _ _) _), hX.out.2.up (below_drewN (Below.refl _ _) _)⟩, hK.out.1.drewN _, hK.out.2.1.drewN _, hK.out.2.2.1.drewN _, hK.out.2.2.2.drewN _⟩
      case measure => simp [intOf]; omega
    · obtain rfl : k = l.length := by omega
      have d0 : wr.cell? ⟨w.heap.size, 0, none⟩ = some (.int .i64 d0) := (hK.out.1).cell 0
      have d1 : wr.cell? ⟨w.heap.size, 1, none⟩ = some (.int .i64 d1) := (hK.out.1).cell 1
      have d2 : wr.cell? ⟨w.heap.size, 2, none⟩ = some (.int .i64 d2) := (hK.out.1).cell 2
      have x0 : wr.cell? ⟨w.heap.size + 1, 0, none⟩ = some (.int .i64 x.a) := (hK.out.2.1).cell 0
      have x1 : wr.cell? ⟨w.heap.size + 1, 1, none⟩ = some (.int .i64 x.b) := (hK.out.2.1).cell 1
      have x2 : wr.cell? ⟨w.heap.size + 1, 2, none⟩ = some (.int .i64 x.c) := (hK.out.2.1).cell 2
      have x3 : wr.cell? ⟨w.heap.size + 1, 3, none⟩ = some (.bool x.p) := (hK.out.2.1).cell 3
      have x4 : wr.cell? ⟨w.heap.size + 1, 4, none⟩ = some (.bool x.q) := (hK.out.2.1).cell 4
      have x5 : wr.cell? ⟨w.heap.size + 1, 5, none⟩ = some (.bool x.r) := (hK.out.2.1).cell 5
      have x6 : wr.cell? ⟨w.heap.size + 1, 6, none⟩ = some (.bool x.tn) := (hK.out.2.1).cell 6
      have s0 : wr.cell? ⟨w.heap.size + 1 + 1, 0, none⟩ = some (.int .i64 sa) := (hK.out.2.2.1).cell 0
      have s1 : wr.cell? ⟨w.heap.size + 1 + 1, 1, none⟩ = some (.int .i64 sb) := (hK.out.2.2.1).cell 1
      have s2 : wr.cell? ⟨w.heap.size + 1 + 1, 2, none⟩ = some (.int .i64 sc) := (hK.out.2.2.1).cell 2
      have t0 : wr.cell? ⟨w.heap.size + 1 + 1 + 1, 0, none⟩ = some (.bool tp) := (hK.out.2.2.2).cell 0
      have t1 : wr.cell? ⟨w.heap.size + 1 + 1 + 1, 1, none⟩ = some (.bool tq) := (hK.out.2.2.2).cell 1
      have t2 : wr.cell? ⟨w.heap.size + 1 + 1 + 1, 2, none⟩ = some (.bool tr) := (hK.out.2.2.2).cell 2
      go_wp2_with fail
      refine (HF.out _).mono ?_
      rintro e w3 ⟨rfl, hB3⟩
      have HB3 := Lib.hid (below_up hB.out hB3)
      have K3 := Lib.hid (And.intro (hK.out.1.below hB3 hK.out.1.lt) (And.intro (hK.out.2.1.below hB3 hK.out.2.1.lt) (And.intro (hK.out.2.2.1.below hB3 hK.out.2.2.1.lt) (hK.out.2.2.2.below hB3 hK.out.2.2.2.lt))))
      clear hB3 d0 d1 d2 x0 x1 x2 x3 x4 x5 x6 s0 s1 s2 t0 t1 t2
      have d0 : w3.cell? ⟨w.heap.size, 0, none⟩ = some (.int .i64 d0) := (K3.out.1).cell 0
      have d1 : w3.cell? ⟨w.heap.size, 1, none⟩ = some (.int .i64 d1) := (K3.out.1).cell 1
      have d2 : w3.cell? ⟨w.heap.size, 2, none⟩ = some (.int .i64 d2) := (K3.out.1).cell 2
      have x0 : w3.cell? ⟨w.heap.size + 1, 0, none⟩ = some (.int .i64 x.a) := (K3.out.2.1).cell 0
      have x1 : w3.cell? ⟨w.heap.size + 1, 1, none⟩ = some (.int .i64 x.b) := (K3.out.2.1).cell 1
      have x2 : w3.cell? ⟨w.heap.size + 1, 2, none⟩ = some (.int .i64 x.c) := (K3.out.2.1).cell 2
      have x3 : w3.cell? ⟨w.heap.size + 1, 3, none⟩ = some (.bool x.p) := (K3.out.2.1).cell 3
      have x4 : w3.cell? ⟨w.heap.size + 1, 4, none⟩ = some (.bool x.q) := (K3.out.2.1).cell 4
      have x5 : w3.cell? ⟨w.heap.size + 1, 5, none⟩ = some (.bool x.r) := (K3.out.2.1).cell 5
      have x6 : w3.cell? ⟨w.heap.size + 1, 6, none⟩ = some (.bool x.tn) := (K3.out.2.1).cell 6
      have s0 : w3.cell? ⟨w.heap.size + 1 + 1, 0, none⟩ = some (.int .i64 sa) := (K3.out.2.2.1).cell 0
      have s1 : w3.cell? ⟨w.heap.size + 1 + 1, 1, none⟩ = some (.int .i64 sb) := (K3.out.2.2.1).cell 1
      have s2 : w3.cell? ⟨w.heap.size + 1 + 1, 2, none⟩ = some (.int .i64 sc) := (K3.out.2.2.1).cell 2
      have t0 : w3.cell? ⟨w.heap.size + 1 + 1 + 1, 0, none⟩ = some (.bool tp) := (K3.out.2.2.2).cell 0
      have t1 : w3.cell? ⟨w.heap.size + 1 + 1 + 1, 1, none⟩ = some (.bool tq) := (K3.out.2.2.2).cell 1
      have t2 : w3.cell? ⟨w.heap.size + 1 + 1 + 1, 2, none⟩ = some (.bool tr) := (K3.out.2.2.2).cell 2
      go_wp2_with fail
      refine (HRF.out _).mono ?_
      rintro e w4 ⟨rfl, hB4⟩
      have HB4 := Lib.hid (below_up HB3.out hB4)
      have K4 := Lib.hid (And.intro (K3.out.1.below hB4 K3.out.1.lt) (And.intro (K3.out.2.1.below hB4 K3.out.2.1.lt) (And.intro (K3.out.2.2.1.below hB4 K3.out.2.2.1.lt) (K3.out.2.2.2.below hB4 K3.out.2.2.2.lt))))
      clear hB4 d0 d1 d2 x0 x1 x2 x3 x4 x5 x6 s0 s1 s2 t0 t1 t2
      have d0 : w4.cell? ⟨w.heap.size, 0, none⟩ = some (.int .i64 d0) := (K4.out.1).cell 0
      have d1 : w4.cell? ⟨w.heap.size, 1, none⟩ = some (.int .i64 d1) := (K4.out.1).cell 1
      have d2 : w4.cell? ⟨w.heap.size, 2, none⟩ = some (.int .i64 d2) := (K4.out.1).cell 2
      have x0 : w4.cell? ⟨w.heap.size + 1, 0, none⟩ = some (.int .i64 x.a) := (K4.out.2.1).cell 0
      have x1 : w4.cell? ⟨w.heap.size + 1, 1, none⟩ = some (.int .i64 x.b) := (K4.out.2.1).cell 1
      have x2 : w4.cell? ⟨w.heap.size + 1, 2, none⟩ = some (.int .i64 x.c) := (K4.out.2.1).cell 2
      have x3 : w4.cell? ⟨w.heap.size + 1, 3, none⟩ = some (.bool x.p) := (K4.out.2.1).cell 3
      have x4 : w4.cell? ⟨w.heap.size + 1, 4, none⟩ = some (.bool x.q) := (K4.out.2.1).cell 4
      have x5 : w4.cell? ⟨w.heap.size + 1, 5, none⟩ = some (.bool x.r) := (K4.out.2.1).cell 5
      have x6 : w4.cell? ⟨w.heap.size + 1, 6, none⟩ = some (.bool x.tn) := (K4.out.2.1).cell 6
      have s0 : w4.cell? ⟨w.heap.size + 1 + 1, 0, none⟩ = some (.int .i64 sa) := (K4.out.2.2.1).cell 0
      have s1 : w4.cell? ⟨w.heap.size + 1 + 1, 1, none⟩ = some (.int .i64 sb) := (K4.out.2.2.1).cell 1
      have s2 : w4.cell? ⟨w.heap.size + 1 + 1, 2, none⟩ = some (.int .i64 sc) := (K4.out.2.2.1).cell 2
      have t0 : w4.cell? ⟨w.heap.size + 1 + 1 + 1, 0, none⟩ = some (.bool tp) := (K4.out.2.2.2).cell 0
      have t1 : w4.cell? ⟨w.heap.size + 1 + 1 + 1, 1, none⟩ = some (.bool tq) := (K4.out.2.2.2).cell 1
      have t2 : w4.cell? ⟨w.heap.size + 1 + 1 + 1, 2, none⟩ = some (.bool tr) := (K4.out.2.2.2).cell 2
      go_wp2_with fail
      refine (HO.out _).mono ?_
      rintro e w5 ⟨rfl, hB5⟩
      have HB5 := Lib.hid (below_up HB4.out hB5)
      have K5 := Lib.hid (And.intro (K4.out.1.below hB5 K4.out.1.lt) (And.intro (K4.out.2.1.below hB5 K4.out.2.1.lt) (And.intro (K4.out.2.2.1.below hB5 K4.out.2.2.1.lt) (K4.out.2.2.2.below hB5 K4.out.2.2.2.lt))))
      clear hB5 d0 d1 d2 x0 x1 x2 x3 x4 x5 x6 s0 s1 s2 t0 t1 t2
      have d0 : w5.cell? ⟨w.heap.size, 0, none⟩ = some (.int .i64 d0) := (K5.out.1).cell 0
      have d1 : w5.cell? ⟨w.heap.size, 1, none⟩ = some (.int .i64 d1) := (K5.out.1).cell 1
      have d2 : w5.cell? ⟨w.heap.size, 2, none⟩ = some (.int .i64 d2) := (K5.out.1).cell 2
      have x0 : w5.cell? ⟨w.heap.size + 1, 0, none⟩ = some (.int .i64 x.a) := (K5.out.2.1).cell 0
      have x1 : w5.cell? ⟨w.heap.size + 1, 1, none⟩ = some (.int .i64 x.b) := (K5.out.2.1).cell 1
      have x2 : w5.cell? ⟨w.heap.size + 1, 2, none⟩ = some (.int .i64 x.c) := (K5.out.2.1).cell 2
      have x3 : w5.cell? ⟨w.heap.size + 1, 3, none⟩ = some (.bool x.p) := (K5.out.2.1).cell 3
      have x4 : w5.cell? ⟨w.heap.size + 1, 4, none⟩ = some (.bool x.q) := (K5.out.2.1).cell 4
      have x5 : w5.cell? ⟨w.heap.size + 1, 5, none⟩ = some (.bool x.r) := (K5.out.2.1).cell 5
      have x6 : w5.cell? ⟨w.heap.size + 1, 6, none⟩ = some (.bool x.tn) := (K5.out.2.1).cell 6
      have s0 : w5.cell? ⟨w.heap.size + 1 + 1, 0, none⟩ = some (.int .i64 sa) := (K5.out.2.2.1).cell 0
      have s1 : w5.cell? ⟨w.heap.size + 1 + 1, 1, none⟩ = some (.int .i64 sb) := (K5.out.2.2.1).cell 1
      have s2 : w5.cell? ⟨w.heap.size + 1 + 1, 2, none⟩ = some (.int .i64 sc) := (K5.out.2.2.1).cell 2
      have t0 : w5.cell? ⟨w.heap.size + 1 + 1 + 1, 0, none⟩ = some (.bool tp) := (K5.out.2.2.2).cell 0
      have t1 : w5.cell? ⟨w.heap.size + 1 + 1 + 1, 1, none⟩ = some (.bool tq) := (K5.out.2.2.2).cell 1
      have t2 : w5.cell? ⟨w.heap.size + 1 + 1 + 1, 2, none⟩ = some (.bool tr) := (K5.out.2.2.2).cell 2
      go_wp2_with fail
      refine (HRO.out _).mono ?_
      rintro e w6 ⟨rfl, hB6⟩
      have HB6 := Lib.hid (below_up HB5.out hB6)
      have K6 := Lib.hid (And.intro (K5.out.1.below hB6 K5.out.1.lt) (And.intro (K5.out.2.1.below hB6 K5.out.2.1.lt) (And.intro (K5.out.2.2.1.below hB6 K5.out.2.2.1.lt) (K5.out.2.2.2.below hB6 K5.out.2.2.2.lt))))
      clear hB6 d0 d1 d2 x0 x1 x2 x3 x4 x5 x6 s0 s1 s2 t0 t1 t2
      have d0 : w6.cell? ⟨w.heap.size, 0, none⟩ = some (.int .i64 d0) := (K6.out.1).cell 0
      have d1 : w6.cell? ⟨w.heap.size, 1, none⟩ = some (.int .i64 d1) := (K6.out.1).cell 1
      have d2 : w6.cell? ⟨w.heap.size, 2, none⟩ = some (.int .i64 d2) := (K6.out.1).cell 2
      have x0 : w6.cell? ⟨w.heap.size + 1, 0, none⟩ = some (.int .i64 x.a) := (K6.out.2.1).cell 0
      have x1 : w6.cell? ⟨w.heap.size + 1, 1, none⟩ = some (.int .i64 x.b) := (K6.out.2.1).cell 1
      have x2 : w6.cell? ⟨w.heap.size + 1, 2, none⟩ = some (.int .i64 x.c) := (K6.out.2.1).cell 2
      have x3 : w6.cell? ⟨w.heap.size + 1, 3, none⟩ = some (.bool x.p) := (K6.out.2.1).cell 3
      have x4 : w6.cell? ⟨w.heap.size + 1, 4, none⟩ = some (.bool x.q) := (K6.out.2.1).cell 4
      have x5 : w6.cell? ⟨w.heap.size + 1, 5, none⟩ = some (.bool x.r) := (K6.out.2.1).cell 5
      have x6 : w6.cell? ⟨w.heap.size + 1, 6, none⟩ = some (.bool x.tn) := (K6.out.2.1).cell 6
      have s0 : w6.cell? ⟨w.heap.size + 1 + 1, 0, none⟩ = some (.int .i64 sa) := (K6.out.2.2.1).cell 0
      have s1 : w6.cell? ⟨w.heap.size + 1 + 1, 1, none⟩ = some (.int .i64 sb) := (K6.out.2.2.1).cell 1
      have s2 : w6.cell? ⟨w.heap.size + 1 + 1, 2, none⟩ = some (.int .i64 sc) := (K6.out.2.2.1).cell 2
      have t0 : w6.cell? ⟨w.heap.size + 1 + 1 + 1, 0, none⟩ = some (.bool tp) := (K6.out.2.2.2).cell 0
      have t1 : w6.cell? ⟨w.heap.size + 1 + 1 + 1, 1, none⟩ = some (.bool tq) := (K6.out.2.2.2).cell 1
      have t2 : w6.cell? ⟨w.heap.size + 1 + 1 + 1, 2, none⟩ = some (.bool tr) := (K6.out.2.2.2).cell 2
      have kx0 := cell_regrown x0
      have kx1 := cell_regrown x1
      have kx2 := cell_regrown x2
      have kx3 := cell_regrown x3
      have kx4 := cell_regrown x4
      have kx5 := cell_regrown x5
      have kx6 := cell_regrown x6
      go_wp2_with fail
      refine wp_region_quiet_below (by kernel_rfl) (by kernel_rfl) ?_
      repeat (go_big_quiet_step (first | fail | exact Calls.regrown_of (HC.out _) | exact Calls.regrown_of (HRC.out _)))
      refine wpQuiet_nil ?_
      intro _ hw'
      obtain ⟨⟨dq, osq⟩, hw''⟩ := hw'
      subst hw''
      have hB8 := below_regrown w6 dq osq
      have B8 := Lib.hid (below_up HB6.out hB8)
      generalize grow (redrawn w6 dq) osq = w8 at *
      clear hB8 d0 d1 d2 x0 x1 x2 x3 x4 x5 x6 s0 s1 s2 t0 t1 t2 kx0 kx1 kx2 kx3 kx4 kx5 kx6
      go_wp2_with fail
      go_ret
      exact ⟨rfl, B8.out⟩
end Go.Proofs.Ytcapbkihjjhkjaa.TurnTells
