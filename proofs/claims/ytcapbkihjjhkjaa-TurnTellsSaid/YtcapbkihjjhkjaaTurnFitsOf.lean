/- turn.Of: for all wants, sizes and tori. -/
import Derived.BigQuiet
import Derived.Deep.QuietTactic
import Derived.Test.YtcapbkihjjhkjaaTurnFitsV
namespace Go.Proofs.Ytcapbkihjjhkjaa.TurnFitsOf
open Go.RowKit Mem PosMath PosCheck TurnMath TurnWalks TurnMap TurnSorted TurnAll TurnFitsV
set_option linter.unusedVariables false
set_option linter.unusedSimpArgs false

set_option maxRecDepth 100000 in
set_option maxHeartbeats 4000000 in
theorem index_any (X : Option Addr) (cap : Nat) (l : List WV) (z : WV) (hl : l.length ≤ 100) (hz : WWf z) (hw : ∀ x ∈ l, WWf x) (w : World) (hk : Has w X l) :
    Calls Try.prog 36 #[.slice X l.length cap, .agg z.arr] w fun e w' => ∃ r : Int, e = .returned (.int .i64 r) ∧ IdxOf l (fun x => decide (z = x)) r ∧ Below w.heap.size w w' := by
  obtain ⟨f, hf⟩ : ∃ f : WV → Bool, f = fun x => decide (z = x) := ⟨_, rfl⟩
  rw [← hf]
  have hq : ∀ x ∈ l, ∀ w, (Op.equalIn 10000 25 (.agg z.arr) (.agg x.arr)).run Try.prog w = .ok (f x) w := fun x hx w => by rw [hf]; exact eq_wants hz (hw x hx) w
  have HQ := Lib.hid hq
  have HK := Lib.hid hk
  clear hk hq hf
  obtain ⟨za, zb, zc, zp, zq, zr, zt⟩ := z
  unfold WV.arr at HQ
  dsimp only at HQ
  unfold WV.arr
  dsimp only
  go_enter Try.func36, Try.ntmps36
  go_wp2_with fail
  have kz := Blk.new w 25 #[.int .i64 za, .int .i64 zb, .int .i64 zc, .bool zp, .bool zq, .bool zr, .bool zt]
  have hb0 : Below w.heap.size w (w.alloc (.cells #[.int .i64 za, .int .i64 zb, .int .i64 zc, .bool zp, .bool zq, .bool zr, .bool zt] 25)) := below_alloc (Below.refl _ _)
  have HZ := Lib.hid (And.intro kz hb0)
  clear kz hb0
  generalize w.alloc (.cells #[.int .i64 za, .int .i64 zb, .int .i64 zc, .bool zp, .bool zq, .bool zr, .bool zt] 25) = w0 at *
  go_loopw [8] (fun i wr => (∃ k : Nat, k ≤ l.length ∧ i = .int .i64 k ∧ Hid (∀ j x, j < k → l[j]? = some x → f x = false) ∧ Hid (Below w.heap.size w wr)) ∧ Hid (Blk wr w.heap.size 25 #[.int .i64 za, .int .i64 zb, .int .i64 zc, .bool zp, .bool zq, .bool zr, .bool zt]))
    (fun i _ => l.length - (intOf i).toNat)
  case atStart => exact ⟨⟨0, Nat.zero_le _, rfl, fun j x h => by omega, HZ.out.2⟩, HZ.out.1⟩
  case round =>
    obtain ⟨⟨k, hk, rfl, hP, hB⟩, hZ⟩ := hrel
    have kz := hZ.out
    have z0 : wr.cell? ⟨w.heap.size, 0, none⟩ = some (.int .i64 za) := kz.cell 0
    have z1 : wr.cell? ⟨w.heap.size, 1, none⟩ = some (.int .i64 zb) := kz.cell 1
    have z2 : wr.cell? ⟨w.heap.size, 2, none⟩ = some (.int .i64 zc) := kz.cell 2
    have z3 : wr.cell? ⟨w.heap.size, 3, none⟩ = some (.bool zp) := kz.cell 3
    have z4 : wr.cell? ⟨w.heap.size, 4, none⟩ = some (.bool zq) := kz.cell 4
    have z5 : wr.cell? ⟨w.heap.size, 5, none⟩ = some (.bool zr) := kz.cell 5
    have z6 : wr.cell? ⟨w.heap.size, 6, none⟩ = some (.bool zt) := kz.cell 6
    clear kz
    by_cases hlt : k < l.length
    · skip
      have hg : l[k]? = some l[k] := List.getElem?_eq_getElem hlt
      generalize l[k] = x at hg
      obtain ⟨b, o, rfl, hb, y0, y1, y2, y3, y4, y5, y6⟩ := (HK.out.up hB.out) k x hg
      have hki : (k : Int) < (l.length : Int) := by omega
      have HG := Lib.hid hg
      clear hg
      have hq := HQ.out x (List.mem_of_getElem? HG.out)
      cases hfx : f x
      · have HF := Lib.hid hfx
        rw [hfx] at hq
        clear hfx
        go_wp2_with fail
        go_quiet (fail)
        go_wp2_with fail
        go_roundw
        case rel => exact ⟨⟨k + 1, by omega, by go_num, fun j z hj hz => by
            rcases Nat.lt_or_ge j k with h | h
            · exact hP.out j z h hz
            · obtain rfl : j = k := by omega
              rw [HG.out] at hz; cases hz; exact HF.out, below_drewN hB.out _⟩, hZ.out.drewN _⟩
        case measure => simp [intOf]; omega
      · have HF := Lib.hid hfx
        rw [hfx] at hq
        clear hfx
        go_wp2_with fail
        go_quiet (fail)
        go_wp2_with fail
        go_ret
        exact ⟨_, rfl, .inr ⟨k, x, rfl, HG.out, HF.out⟩, below_drewN hB.out _⟩
    · obtain rfl : k = l.length := by omega
      go_wp2_with fail
      go_ret
      refine ⟨_, rfl, .inl ⟨rfl, fun x hx => ?_⟩, hB.out⟩
      obtain ⟨j, hj, e⟩ := List.mem_iff_getElem.1 hx
      exact hP.out j x hj (by rw [List.getElem?_eq_getElem hj, e])
theorem contains_any (X : Option Addr) (cap : Nat) (l : List WV) (z : WV) (hl : l.length ≤ 100) (hz : WWf z) (hw : ∀ x ∈ l, WWf x) (w : World) (hk : Has w X l) :
    Calls Try.prog 23 #[.slice X l.length cap, .agg z.arr] w fun e w' => e = .returned (.bool (decide (z ∈ l))) ∧ Below w.heap.size w w' := by
  have H := Lib.hid (fun w' (hB : Below w.heap.size w w') => index_any X cap l z hl hz hw w' (hk.up hB))
  clear hk
  obtain ⟨d, hd⟩ : ∃ d, d = decide (z ∈ l) := ⟨_, rfl⟩
  have HD := Lib.hid hd
  rw [← hd]
  clear hd
  obtain ⟨za, zb, zc, zp, zq, zr, zt⟩ := z
  unfold WV.arr at H ⊢
  dsimp only at H ⊢
  go_enter Try.func23, Try.ntmps23
  go_wp2_with fail
  refine (H.out _ (below_alloc (Below.refl _ _))).mono ?_
  rintro e w1 ⟨r, rfl, hr, hB⟩
  have hd := any_of hr
  have e2 : l.any (fun x => decide ((⟨za, zb, zc, zp, zq, zr, zt⟩ : WV) = x)) = d := by
    rw [HD.out]
    by_cases hm : (⟨za, zb, zc, zp, zq, zr, zt⟩ : WV) ∈ l
    · rw [List.any_eq_true.2 ⟨_, hm, by simp⟩]; simp [hm]
    · rw [List.any_eq_false.2 fun x hx => by
        simp only [decide_eq_true_eq]
        intro e; rw [e] at hm; exact hm hx]
      simp [hm]
  rw [e2] at hd
  have HB := Lib.hid (And.intro hd (below_up (below_alloc (Below.refl _ w)) hB))
  clear hr hB hd e2
  go_wp2_with fail
  go_ret
  rw [← HB.out.1]
  exact ⟨rfl, HB.out.2⟩
def ofV (x z : WV) : Bool × Int := if WOk x then (decide (z ∈ allL x), 0) else (false, 8)
set_option maxRecDepth 100000 in
set_option maxHeartbeats 4000000 in
theorem of_any (x : WV) (sa sb sc : Int) (tp tq tr : Bool) (wa : (Lit.int .i64 sa).wf = true) (wb : (Lit.int .i64 sb).wf = true) (wc : (Lit.int .i64 sc).wf = true) (w : World) :
    Calls Try.prog 10 #[.agg x.arr, .agg #[.int .i64 sa, .int .i64 sb, .int .i64 sc], .agg #[.bool tp, .bool tq, .bool tr]] w fun e w' => e = .returned (.tuple #[.bool (ofV x ⟨sa, sb, sc, tp, tq, tr, x.tn⟩).1, .int .i64 (ofV x ⟨sa, sb, sc, tp, tq, tr, x.tn⟩).2]) ∧ Below w.heap.size w w' := by
  have HA := Lib.hid (all_any x)
  obtain ⟨V, hV⟩ : ∃ V, V = ofV x ⟨sa, sb, sc, tp, tq, tr, x.tn⟩ := ⟨_, rfl⟩
  rw [← hV]
  have HV := Lib.hid hV
  have HW := Lib.hid (show WWf ⟨sa, sb, sc, tp, tq, tr, x.tn⟩ from ⟨wa, wb, wc⟩)
  clear hV
  unfold WV.arr at HA ⊢
  go_enter Try.func10, Try.ntmps10
  go_wp2_with fail
  refine (HA.out _).mono ?_
  rintro e w1 ⟨v, n, rfl, hr, hB1⟩
  have kx : Blk w1 w.heap.size 25 #[.int .i64 x.a, .int .i64 x.b, .int .i64 x.c, .bool x.p, .bool x.q, .bool x.r, .bool x.tn] := (((Blk.new w _ _).alloc _).alloc _).below hB1 (by simp; omega)
  have ks : Blk w1 (w.heap.size + 1) 22 #[.int .i64 sa, .int .i64 sb, .int .i64 sc] := ((blk1 w _ _).alloc _).below hB1 (by simp)
  have kt : Blk w1 (w.heap.size + 1 + 1) 23 #[.bool tp, .bool tq, .bool tr] := (blk2 w _ _).below hB1 (by simp)
  have x6 : w1.cell? ⟨w.heap.size, 6, none⟩ = some (.bool x.tn) := kx.cell 6
  have s0 : w1.cell? ⟨w.heap.size + 1, 0, none⟩ = some (.int .i64 sa) := ks.cell 0
  have s1 : w1.cell? ⟨w.heap.size + 1, 1, none⟩ = some (.int .i64 sb) := ks.cell 1
  have s2 : w1.cell? ⟨w.heap.size + 1, 2, none⟩ = some (.int .i64 sc) := ks.cell 2
  have t0 : w1.cell? ⟨w.heap.size + 1 + 1, 0, none⟩ = some (.bool tp) := kt.cell 0
  have t1 : w1.cell? ⟨w.heap.size + 1 + 1, 1, none⟩ = some (.bool tq) := kt.cell 1
  have t2 : w1.cell? ⟨w.heap.size + 1 + 1, 2, none⟩ = some (.bool tr) := kt.cell 2
  have HB1 := Lib.hid (below_up (below_alloc (below_alloc (below_alloc (Below.refl _ w)))) hB1)
  obtain ⟨l, X, cap, rfl, hl, hh, hwl, hlv, hn⟩ : ∃ (l : List WV) (X : Option Addr) (cap : Nat), v = .slice X l.length cap ∧ l.length ≤ 100 ∧ Has w1 X l ∧ (∀ x ∈ l, WWf x) ∧ decide ((⟨sa, sb, sc, tp, tq, tr, x.tn⟩ : WV) ∈ l) = V.1 ∧ n = V.2 := by
    rcases hr with ⟨hok, rfl, hW⟩ | ⟨hbad, rfl, rfl⟩
    · obtain ⟨X, cap, e, _, _, hh⟩ := wsl_has hW
      have hlen := allL_len (x := x)
      have ev : V = (decide ((⟨sa, sb, sc, tp, tq, tr, x.tn⟩ : WV) ∈ allL x), 0) := by rw [HV.out]; exact if_pos hok
      exact ⟨_, X, cap, e, by omega, hh, fun y hy => wwf_of (allL_ok hok hy).1, by rw [ev], by rw [ev]⟩
    · have ev : V = (false, 8) := by rw [HV.out]; exact if_neg fun h => hbad h
      exact ⟨[], none, 0, rfl, by simp, Has.nil, (fun x hx => by cases hx), by rw [ev]; simp, by rw [ev]⟩
  have hc := contains_any X cap l ⟨sa, sb, sc, tp, tq, tr, x.tn⟩ hl HW.out hwl w1 hh
  rw [hlv] at hc
  unfold WV.arr at hc
  dsimp only at hc
  have HC := Lib.hid (And.intro hc hn)
  clear hc hh hr hB1 kx ks kt hlv hn hwl
  go_wp2_with fail
  refine HC.out.1.mono ?_
  rintro e w3 ⟨rfl, hB3⟩
  have HB3 := Lib.hid (below_up HB1.out hB3)
  clear hB3
  go_wp2_with fail
  go_ret2
  rw [HC.out.2]
  exact ⟨rfl, HB3.out⟩
end Go.Proofs.Ytcapbkihjjhkjaa.TurnFitsOf
