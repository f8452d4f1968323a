/- rank.key, rank.Key; what slices.SortFunc compares by. -/
import Derived.BigRegion
import Derived.BigQuiet
import Derived.Lib.QuietBelow
import Derived.Deep.QuietTactic
import Derived.Deep.DeepCutAuto
import Derived.Deep.RegionHeld3
import Derived.Laws.Rows
import Derived.Test.YtfpljpdjohmbaaaJobCheck
import Derived.Test.YtfpljpdjohmbaaaTurnWalks
import Derived.Test.YtfpljpdjohmbaaaRankMath
import Derived.Test.YtfpljpdjohmbaaaQuietRow
import Derived.Test.YtfpljpdjohmbaaaSetList
namespace Go.Proofs.Ytfpljpdjohmbaaa.RankKey
open Go.Sort (grow alloc_eq_grow grow_grow drew_grow)
open Go.RowKit Mem PosMath PartMath PartClass PartCheck TurnMath TurnWalks TurnFitsV JobMath JobIndex JobPlain JobAfter JobCheck RankMath QuietRow SetList
set_option linter.unusedVariables false
set_option linter.unusedSimpArgs false

set_option maxRecDepth 100000 in
set_option maxHeartbeats 4000000 in
theorem key_any (d0 d1 d2 bo fr tr ag : Int) (K : Option Addr) (kc : Nat) (ks : List Cls) (j : JV) (Y : Option Addr) (cj : Nat) (hlk : ks.length ≤ 4611686018427387904) (h : CfgOk d0 d1 d2 bo fr tr ag ks) (h2 : checkV d0 d1 d2 ks j = 0) (w : World) (hk : ClsAt w w.heap.size K ks) :
    Calls Try.prog 66 #[.agg #[.int .i64 d0, .int .i64 d1, .int .i64 d2, .int .i64 bo, .int .i64 fr, .int .i64 tr, .int .i64 ag, .slice K ks.length kc], .agg #[.int .i64 j.id, .int .i64 j.us, .int .i64 j.cl, .int .i64 j.x.a, .int .i64 j.x.b, .int .i64 j.x.c, .bool j.x.p, .bool j.x.q, .bool j.x.r, .bool j.x.tn, .int .i64 j.wa, .int .i64 j.pr, .bool j.he, .slice Y j.af.length cj, .int .u8 j.st, .int .i64 j.ca]] w fun e w' => e = .returned (.int .i64 (keyV ks ag j)) ∧ Below w.heap.size w w' := by
  obtain ⟨p0, p1, r0, r1, a0, a1, c0, c1, m0, m1, l0, l1⟩ := key_small h h2
  obtain ⟨m, hm, hml, hget⟩ := cls_at l0 l1
  obtain ⟨kb, ko, hKe, hkb, y0, _⟩ := hk m _ hget
  have HKE := Lib.hid hKe
  have HKB := Lib.hid (And.intro hkb y0)
  unfold keyV
  generalize (clsOf ks j.cl).1 = P at *
  have HM := Lib.hid hm
  have hmi : (m : Int) < (ks.length : Int) := by omega
  have hmi0 : (0 : Int) ≤ (m : Int) := by omega
  have f1 : IntKind.i64.wrap (P + j.pr) = P + j.pr := IntWalk.i64_in _ (by omega)
  have f2 : IntKind.i64.wrap ((P + j.pr) * ag) = (P + j.pr) * ag := IntWalk.i64_in _ (by omega)
  have f3 : IntKind.i64.wrap ((P + j.pr) * ag - j.ca) = (P + j.pr) * ag - j.ca := IntWalk.i64_in _ (by omega)
  clear hm hk hget hkb y0 hKe h h2 p0 p1 r0 r1 a0 a1 c0 c1 m0 m1 l0 l1 hml
  go_enter Try.func66, Try.ntmps66
  go_upto_region 1 with fail
  have kc0 : Blk ((w.alloc (.cells #[.int .i64 d0, .int .i64 d1, .int .i64 d2, .int .i64 bo, .int .i64 fr, .int .i64 tr, .int .i64 ag, .slice K ks.length kc] 26)).alloc (.cells #[.int .i64 j.id, .int .i64 j.us, .int .i64 j.cl, .int .i64 j.x.a, .int .i64 j.x.b, .int .i64 j.x.c, .bool j.x.p, .bool j.x.q, .bool j.x.r, .bool j.x.tn, .int .i64 j.wa, .int .i64 j.pr, .bool j.he, .slice Y j.af.length cj, .int .u8 j.st, .int .i64 j.ca] 33)) w.heap.size 26 #[.int .i64 d0, .int .i64 d1, .int .i64 d2, .int .i64 bo, .int .i64 fr, .int .i64 tr, .int .i64 ag, .slice K ks.length kc] := (Blk.new w _ _).alloc _
  have kj0 : Blk ((w.alloc (.cells #[.int .i64 d0, .int .i64 d1, .int .i64 d2, .int .i64 bo, .int .i64 fr, .int .i64 tr, .int .i64 ag, .slice K ks.length kc] 26)).alloc (.cells #[.int .i64 j.id, .int .i64 j.us, .int .i64 j.cl, .int .i64 j.x.a, .int .i64 j.x.b, .int .i64 j.x.c, .bool j.x.p, .bool j.x.q, .bool j.x.r, .bool j.x.tn, .int .i64 j.wa, .int .i64 j.pr, .bool j.he, .slice Y j.af.length cj, .int .u8 j.st, .int .i64 j.ca] 33)) (w.heap.size + 1) 33 #[.int .i64 j.id, .int .i64 j.us, .int .i64 j.cl, .int .i64 j.x.a, .int .i64 j.x.b, .int .i64 j.x.c, .bool j.x.p, .bool j.x.q, .bool j.x.r, .bool j.x.tn, .int .i64 j.wa, .int .i64 j.pr, .bool j.he, .slice Y j.af.length cj, .int .u8 j.st, .int .i64 j.ca] := blk1 w _ _
  have hb0 : Below w.heap.size w ((w.alloc (.cells #[.int .i64 d0, .int .i64 d1, .int .i64 d2, .int .i64 bo, .int .i64 fr, .int .i64 tr, .int .i64 ag, .slice K ks.length kc] 26)).alloc (.cells #[.int .i64 j.id, .int .i64 j.us, .int .i64 j.cl, .int .i64 j.x.a, .int .i64 j.x.b, .int .i64 j.x.c, .bool j.x.p, .bool j.x.q, .bool j.x.r, .bool j.x.tn, .int .i64 j.wa, .int .i64 j.pr, .bool j.he, .slice Y j.af.length cj, .int .u8 j.st, .int .i64 j.ca] 33)) := below_alloc (below_alloc (Below.refl _ _))
  generalize ((w.alloc (.cells #[.int .i64 d0, .int .i64 d1, .int .i64 d2, .int .i64 bo, .int .i64 fr, .int .i64 tr, .int .i64 ag, .slice K ks.length kc] 26)).alloc (.cells #[.int .i64 j.id, .int .i64 j.us, .int .i64 j.cl, .int .i64 j.x.a, .int .i64 j.x.b, .int .i64 j.x.c, .bool j.x.p, .bool j.x.q, .bool j.x.r, .bool j.x.tn, .int .i64 j.wa, .int .i64 j.pr, .bool j.he, .slice Y j.af.length cj, .int .u8 j.st, .int .i64 j.ca] 33)) = w0 at *
  have HB0 := Lib.hid hb0
  have KC0 := Lib.hid kc0
  have KJ0 := Lib.hid kj0
  clear hb0
  have x7 : w0.cell? ⟨w.heap.size, 7, none⟩ = some (.slice (some ⟨kb, ko, none⟩) ks.length kc) := by rw [← HKE.out]; exact kc0.cell 7
  have x6 : w0.cell? ⟨w.heap.size, 6, none⟩ = some (.int .i64 ag) := kc0.cell 6
  have z2 : w0.cell? ⟨w.heap.size + 1, 2, none⟩ = some (.int .i64 (m : Int)) := by rw [← HM.out]; exact kj0.cell 2
  have z11 : w0.cell? ⟨w.heap.size + 1, 11, none⟩ = some (.int .i64 j.pr) := kj0.cell 11
  have z15 : w0.cell? ⟨w.heap.size + 1, 15, none⟩ = some (.int .i64 j.ca) := kj0.cell 15
  have y0 : w0.cell? ⟨kb, ko + m * 4, none⟩ = some (.int .i64 P) := (HB0.out.cell (p := ⟨kb, ko + m * 4, none⟩) HKB.out.1).trans HKB.out.2
  clear kc0 kj0
  have kq0 := cell_regrown x7
  have kq1 := cell_regrown x6
  have kq2 := cell_regrown z2
  have kq3 := cell_regrown z11
  have kq4 := cell_regrown z15
  have kq5 := cell_regrown y0
  refine wp_region_quiet_below (by kernel_rfl) (by kernel_rfl) ?_
  repeat (first | go_big_quiet_step (first | fail))
  refine wpQuiet_nil ?_
  intro _ hw'
  obtain ⟨⟨dq, osq⟩, hw''⟩ := hw'
  subst hw''
  have hBq := below_regrown w0 dq osq
  clear kq0 kq1 kq2 kq3 kq4 kq5
  generalize grow (redrawn w0 dq) osq = w1 at *
  have HB1 := Lib.hid (below_up HB0.out hBq)
  go_wp2_with fail
  go_ret
  exact ⟨rfl, HB1.out⟩
theorem CheckV_zero {d0 d1 d2 bo fr tr ag : Int} {ks : List Cls} {j : JV} (h : CheckV d0 d1 d2 bo fr tr ag ks j = 0) : CfgOk d0 d1 d2 bo fr tr ag ks ∧ checkV d0 d1 d2 ks j = 0 := by
  unfold CheckV at h
  split at h
  · rename_i hc; exact ⟨hc, h⟩
  · omega
theorem CheckV_ok {d0 d1 d2 bo fr tr ag : Int} {ks : List Cls} {j : JV} (hc : CfgOk d0 d1 d2 bo fr tr ag ks) (h : checkV d0 d1 d2 ks j = 0) : CheckV d0 d1 d2 bo fr tr ag ks j = 0 := by
  unfold CheckV
  rw [if_pos hc]; exact h
set_option maxRecDepth 100000 in
set_option maxHeartbeats 4000000 in
theorem rKey_any (d0 d1 d2 bo fr tr ag : Int) (K : Option Addr) (kc : Nat) (ks : List Cls) (j : JV) (Y : Option Addr) (cj : Nat) (hlk : ks.length ≤ 4611686018427387904) (hla : j.af.length ≤ 4611686018427387904) (w : World) (hk : ClsAt w w.heap.size K ks) (hY : IntsAt w Y j.af) :
    Calls Try.prog 33 #[.agg #[.int .i64 d0, .int .i64 d1, .int .i64 d2, .int .i64 bo, .int .i64 fr, .int .i64 tr, .int .i64 ag, .slice K ks.length kc], .agg #[.int .i64 j.id, .int .i64 j.us, .int .i64 j.cl, .int .i64 j.x.a, .int .i64 j.x.b, .int .i64 j.x.c, .bool j.x.p, .bool j.x.q, .bool j.x.r, .bool j.x.tn, .int .i64 j.wa, .int .i64 j.pr, .bool j.he, .slice Y j.af.length cj, .int .u8 j.st, .int .i64 j.ca]] w fun e w' => e = .returned (.tuple #[.int .i64 (if CheckV d0 d1 d2 bo fr tr ag ks j = 0 then keyV ks ag j else 0), .int .i64 (CheckV d0 d1 d2 bo fr tr ag ks j)]) ∧ Below w.heap.size w w' := by
  have HCK := Lib.hid (fun w hk hY => jCheck d0 d1 d2 bo fr tr ag K kc ks j Y cj hlk hla w hk hY)
  have HKY := Lib.hid (fun h w hk => key_any d0 d1 d2 bo fr tr ag K kc ks j Y cj hlk (CheckV_zero h).1 (CheckV_zero h).2 w hk)
  have HK := Lib.hid hk
  have HY := Lib.hid hY
  generalize CheckV d0 d1 d2 bo fr tr ag ks j = V at *
  generalize keyV ks ag j = KV at *
  obtain ⟨R, hR⟩ : ∃ R, R = if V = 0 then KV else 0 := ⟨_, rfl⟩
  rw [← hR]
  have HRV := Lib.hid hR
  clear hk hY hR
  go_enter Try.func33, Try.ntmps33
  go_upto_region 1 with fail
  have kc0 : Blk ((w.alloc (.cells #[.int .i64 d0, .int .i64 d1, .int .i64 d2, .int .i64 bo, .int .i64 fr, .int .i64 tr, .int .i64 ag, .slice K ks.length kc] 26)).alloc (.cells #[.int .i64 j.id, .int .i64 j.us, .int .i64 j.cl, .int .i64 j.x.a, .int .i64 j.x.b, .int .i64 j.x.c, .bool j.x.p, .bool j.x.q, .bool j.x.r, .bool j.x.tn, .int .i64 j.wa, .int .i64 j.pr, .bool j.he, .slice Y j.af.length cj, .int .u8 j.st, .int .i64 j.ca] 33)) w.heap.size 26 #[.int .i64 d0, .int .i64 d1, .int .i64 d2, .int .i64 bo, .int .i64 fr, .int .i64 tr, .int .i64 ag, .slice K ks.length kc] := (Blk.new w _ _).alloc _
  have kj0 : Blk ((w.alloc (.cells #[.int .i64 d0, .int .i64 d1, .int .i64 d2, .int .i64 bo, .int .i64 fr, .int .i64 tr, .int .i64 ag, .slice K ks.length kc] 26)).alloc (.cells #[.int .i64 j.id, .int .i64 j.us, .int .i64 j.cl, .int .i64 j.x.a, .int .i64 j.x.b, .int .i64 j.x.c, .bool j.x.p, .bool j.x.q, .bool j.x.r, .bool j.x.tn, .int .i64 j.wa, .int .i64 j.pr, .bool j.he, .slice Y j.af.length cj, .int .u8 j.st, .int .i64 j.ca] 33)) (w.heap.size + 1) 33 #[.int .i64 j.id, .int .i64 j.us, .int .i64 j.cl, .int .i64 j.x.a, .int .i64 j.x.b, .int .i64 j.x.c, .bool j.x.p, .bool j.x.q, .bool j.x.r, .bool j.x.tn, .int .i64 j.wa, .int .i64 j.pr, .bool j.he, .slice Y j.af.length cj, .int .u8 j.st, .int .i64 j.ca] := blk1 w _ _
  have hb0 : Below w.heap.size w ((w.alloc (.cells #[.int .i64 d0, .int .i64 d1, .int .i64 d2, .int .i64 bo, .int .i64 fr, .int .i64 tr, .int .i64 ag, .slice K ks.length kc] 26)).alloc (.cells #[.int .i64 j.id, .int .i64 j.us, .int .i64 j.cl, .int .i64 j.x.a, .int .i64 j.x.b, .int .i64 j.x.c, .bool j.x.p, .bool j.x.q, .bool j.x.r, .bool j.x.tn, .int .i64 j.wa, .int .i64 j.pr, .bool j.he, .slice Y j.af.length cj, .int .u8 j.st, .int .i64 j.ca] 33)) := below_alloc (below_alloc (Below.refl _ _))
  generalize ((w.alloc (.cells #[.int .i64 d0, .int .i64 d1, .int .i64 d2, .int .i64 bo, .int .i64 fr, .int .i64 tr, .int .i64 ag, .slice K ks.length kc] 26)).alloc (.cells #[.int .i64 j.id, .int .i64 j.us, .int .i64 j.cl, .int .i64 j.x.a, .int .i64 j.x.b, .int .i64 j.x.c, .bool j.x.p, .bool j.x.q, .bool j.x.r, .bool j.x.tn, .int .i64 j.wa, .int .i64 j.pr, .bool j.he, .slice Y j.af.length cj, .int .u8 j.st, .int .i64 j.ca] 33)) = w0 at *
  have HB0 := Lib.hid hb0
  have KC0 := Lib.hid kc0
  have KJ0 := Lib.hid kj0
  clear hb0
  clear kc0 kj0
  go_wp2_with (first | (refine wpList_load_row rfl 26 _ rfl _ rfl 26 #[.int .i64 d0, .int .i64 d1, .int .i64 d2, .int .i64 bo, .int .i64 fr, .int .i64 tr, .int .i64 ag, .slice K ks.length kc] (0, 0) _ KC0.out Try.underlying26 rfl (by kernel_rfl) ?_) | (refine wpList_load_row rfl 33 _ rfl _ rfl 33 #[.int .i64 j.id, .int .i64 j.us, .int .i64 j.cl, .int .i64 j.x.a, .int .i64 j.x.b, .int .i64 j.x.c, .bool j.x.p, .bool j.x.q, .bool j.x.r, .bool j.x.tn, .int .i64 j.wa, .int .i64 j.pr, .bool j.he, .slice Y j.af.length cj, .int .u8 j.st, .int .i64 j.ca] (0, 0) _ KJ0.out Try.underlying33 rfl (by kernel_rfl) ?_))
  refine (HCK.out _ (HK.out.up HB0.out) (HY.out.up HB0.out)).mono ?_
  rintro e w1 ⟨rfl, hB1⟩
  have HB1 := Lib.hid (below_up HB0.out hB1)
  have KC1 := Lib.hid (KC0.out.below hB1 KC0.out.lt)
  have KJ1 := Lib.hid (KJ0.out.below hB1 KJ0.out.lt)
  clear hB1 KC0 KJ0 HB0 HCK
  by_cases hv : V = 0
  · have ev : R = KV := by rw [HRV.out, if_pos hv]
    have EV := Lib.hid ev
    clear ev HRV
    subst hv
    go_wp2_with (first | (refine wpList_load_row rfl 26 _ rfl _ rfl 26 #[.int .i64 d0, .int .i64 d1, .int .i64 d2, .int .i64 bo, .int .i64 fr, .int .i64 tr, .int .i64 ag, .slice K ks.length kc] (0, 0) _ KC1.out Try.underlying26 rfl (by kernel_rfl) ?_) | (refine wpList_load_row rfl 33 _ rfl _ rfl 33 #[.int .i64 j.id, .int .i64 j.us, .int .i64 j.cl, .int .i64 j.x.a, .int .i64 j.x.b, .int .i64 j.x.c, .bool j.x.p, .bool j.x.q, .bool j.x.r, .bool j.x.tn, .int .i64 j.wa, .int .i64 j.pr, .bool j.he, .slice Y j.af.length cj, .int .u8 j.st, .int .i64 j.ca] (0, 0) _ KJ1.out Try.underlying33 rfl (by kernel_rfl) ?_))
    refine (HKY.out (by first | exact trivial | rfl) _ (HK.out.up HB1.out)).mono ?_
    rintro e w2 ⟨rfl, hB2⟩
    have HB2 := Lib.hid (below_up HB1.out hB2)
    clear hB2
    go_wp2_with fail
    go_ret2
    rw [EV.out]
    exact ⟨rfl, HB2.out⟩
  · have ev : R = 0 := by rw [HRV.out, if_neg hv]
    have EV := Lib.hid ev
    clear ev HRV
    have hv' : (V != 0) = true := by simpa using hv
    go_wp2_with fail
    go_ret2
    rw [EV.out]
    exact ⟨rfl, HB1.out⟩
def OrRel (a b : Int) (w : World) (i : Value) (wr : World) : Prop := (i = .int .i64 0 ∨ (i = .int .i64 1 ∧ a = 0) ∨ (i = .int .i64 2 ∧ a = 0 ∧ b = 0)) ∧ wr = w
theorem or_any (g : Nat) (a b : Int) (w : World) (c0 : w.cell? ⟨g, 0, none⟩ = some (.int .i64 a)) (c1 : w.cell? ⟨g, 1, none⟩ = some (.int .i64 b)) :
    Calls Try.prog 69 #[.slice (some ⟨g, 0, none⟩) 2 2] w fun e w' => e = .returned (.int .i64 (if a ≠ 0 then a else b)) ∧ w' = w := by
  obtain ⟨R, hR⟩ : ∃ R, R = if a ≠ 0 then a else b := ⟨_, rfl⟩
  rw [← hR]
  have HR := Lib.hid hR
  clear hR
  go_enter Try.func69, Try.ntmps69
  go_wp2_with fail
  go_loopw [8] (fun i wr => OrRel a b w i wr)
    (fun i _ => 2 - (intOf i).toNat)
  case atStart => exact ⟨.inl rfl, rfl⟩
  case round =>
    obtain ⟨h, rfl⟩ := hrel
    rcases h with rfl | ⟨rfl, ha⟩ | ⟨rfl, ha, hb⟩
    · by_cases ha : a = 0
      · have e1 : (a != 0) = false := by simpa using ha
        have HA := Lib.hid ha
        clear ha
        go_wp2_with fail
        go_roundw
        case rel => exact ⟨.inr (.inl ⟨rfl, HA.out⟩), rfl⟩
        case measure => simp [intOf]
      · have e1 : (a != 0) = true := by simpa using ha
        have ev : R = a := by rw [HR.out, if_pos ha]
        have EV := Lib.hid ev
        clear ev ha
        go_wp2_with fail
        go_ret
        rw [EV.out]
        exact ⟨rfl, rfl⟩
    · have HA := Lib.hid ha
      by_cases hb : b = 0
      · have e1 : (b != 0) = false := by simpa using hb
        have HB := Lib.hid hb
        clear ha hb
        go_wp2_with fail
        go_roundw
        case rel => exact ⟨.inr (.inr ⟨rfl, HA.out, HB.out⟩), rfl⟩
        case measure => simp [intOf]
      · have e1 : (b != 0) = true := by simpa using hb
        have ev : R = b := by rw [HR.out, if_neg (by simp [ha])]
        have EV := Lib.hid ev
        clear ev ha hb
        go_wp2_with fail
        go_ret
        rw [EV.out]
        exact ⟨rfl, rfl⟩
    · have ev : R = 0 := by rw [HR.out, if_neg (by simp [ha]), hb]
      have EV := Lib.hid ev
      clear ev ha hb
      go_wp2_with fail
      go_ret
      rw [EV.out]
      exact ⟨rfl, rfl⟩
theorem grow_more {w w0 : World} {os : Array Obj} (h : w0 = grow w os) (o : Obj) : ∃ q os', (w0.alloc o).drew = grow (w.drewN q) os' := ⟨1, os ++ #[o], by rw [alloc_eq_grow, h, grow_grow, drew_grow]; rfl⟩
set_option maxRecDepth 100000 in
set_option maxHeartbeats 4000000 in
theorem less_any (a b c d : Int) (w : World) : Calls Try.prog 68 #[.agg #[.int .i64 a, .int .i64 b], .agg #[.int .i64 c, .int .i64 d]] w fun e w' => e = .returned (.int .i64 (cmpP (a, b) (c, d))) ∧ ∃ q os', w' = grow (w.drewN q) os' := by
  go_enter Try.func68, Try.ntmps68
  go_upto_region 1 with fail
  have x0 : ((w.alloc (.cells #[.int .i64 a, .int .i64 b] 89)).alloc (.cells #[.int .i64 c, .int .i64 d] 89)).cell? ⟨w.heap.size, 0, none⟩ = some (.int .i64 a) := ((Blk.new w _ _).alloc _).cell 0
  have x1 : ((w.alloc (.cells #[.int .i64 a, .int .i64 b] 89)).alloc (.cells #[.int .i64 c, .int .i64 d] 89)).cell? ⟨w.heap.size, 1, none⟩ = some (.int .i64 b) := ((Blk.new w _ _).alloc _).cell 1
  have x2 : ((w.alloc (.cells #[.int .i64 a, .int .i64 b] 89)).alloc (.cells #[.int .i64 c, .int .i64 d] 89)).cell? ⟨w.heap.size + 1, 0, none⟩ = some (.int .i64 c) := (blk1 w _ _).cell 0
  have x3 : ((w.alloc (.cells #[.int .i64 a, .int .i64 b] 89)).alloc (.cells #[.int .i64 c, .int .i64 d] 89)).cell? ⟨w.heap.size + 1, 1, none⟩ = some (.int .i64 d) := (blk1 w _ _).cell 1
  obtain ⟨R, hR⟩ : ∃ R, R = cmpP (a, b) (c, d) := ⟨_, rfl⟩
  have HO := Lib.hid (fun (g : Nat) (W : World) (h0 : W.cell? ⟨g, 0, none⟩ = some (.int .i64 (cmpI a c))) (h1 : W.cell? ⟨g, 1, none⟩ = some (.int .i64 (cmpI b d))) => (show Calls Try.prog 69 #[.slice (some ⟨g, 0, none⟩) 2 2] W (fun e w' => e = .returned (.int .i64 R) ∧ w' = W) from by rw [hR]; exact or_any g _ _ W h0 h1))
  have HRR := Lib.hid hR
  clear hR
  have HW : Hid (((w.alloc (.cells #[.int .i64 a, .int .i64 b] 89)).alloc (.cells #[.int .i64 c, .int .i64 d] 89)) = grow w #[.cells #[.int .i64 a, .int .i64 b] 89, .cells #[.int .i64 c, .int .i64 d] 89]) := Lib.hid (by rw [alloc_eq_grow, alloc_eq_grow, grow_grow]; rfl)
  generalize ((w.alloc (.cells #[.int .i64 a, .int .i64 b] 89)).alloc (.cells #[.int .i64 c, .int .i64 d] 89)) = w0 at *
  refine wp_region_held_drew (S := (fun W => W.cell? ⟨w.heap.size, 0, none⟩ = some (.int .i64 a) ∧ W.cell? ⟨w.heap.size, 1, none⟩ = some (.int .i64 b) ∧ W.cell? ⟨w.heap.size + 1, 0, none⟩ = some (.int .i64 c) ∧ W.cell? ⟨w.heap.size + 1, 1, none⟩ = some (.int .i64 d))) (by kernel_rfl) ?_ (fun hHeld => ?_)
  · exact ⟨x0, x1, x2, x3⟩
  refine' wpAnyH_take (i := 0) (v := ?v1) rfl (by kernel_rfl) (by kernel_rfl) (by kernel_rfl) (fun _ _ _ h => h) (Or.inl ⟨by rfl, ?y1⟩) (by assumption) ?r1
  case y1 => (intro W hSw; (try dsimp only at hSw); go_simp; try with_reducible rfl)
  (try simp only [Act.put, List.setIfInBounds_toArray, List.set_cons_zero, List.set_cons_succ])
  refine' wpAnyH_take (i := 1) (v := ?v2) rfl (by kernel_rfl) (by kernel_rfl) (by kernel_rfl) (fun _ _ _ h => h) (Or.inl ⟨by rfl, ?y2⟩) (by assumption) ?r2
  case y2 => (intro W hSw; (try dsimp only at hSw); go_simp; try with_reducible rfl)
  (try simp only [Act.put, List.setIfInBounds_toArray, List.set_cons_zero, List.set_cons_succ])
  refine' wpAnyH_take (i := 2) (v := ?v3) rfl (by kernel_rfl) (by kernel_rfl) (by kernel_rfl) (fun _ _ _ h => h) (Or.inl ⟨by rfl, ?y3⟩) (by assumption) ?r3
  case y3 => (intro W hSw; (try dsimp only at hSw); go_simp; try with_reducible rfl)
  (try simp only [Act.put, List.setIfInBounds_toArray, List.set_cons_zero, List.set_cons_succ])
  refine' wpAnyH_take (i := 3) (v := ?v4) rfl (by kernel_rfl) (by kernel_rfl) (by kernel_rfl) (fun _ _ _ h => h) (Or.inl ⟨by rfl, ?y4⟩) (by assumption) ?r4
  case y4 => (intro W hSw; (try dsimp only at hSw); go_simp; try with_reducible rfl)
  (try simp only [Act.put, List.setIfInBounds_toArray, List.set_cons_zero, List.set_cons_succ])
  refine' wpAnyH_take (i := 5) (v := ?v5) rfl (by kernel_rfl) (by kernel_rfl) (by kernel_rfl) (fun _ _ _ h => h) (Or.inl ⟨by rfl, ?y5⟩) (by assumption) ?r5
  case y5 => (intro W hSw; (try dsimp only at hSw); go_simp; try with_reducible rfl)
  (try simp only [Act.put, List.setIfInBounds_toArray, List.set_cons_zero, List.set_cons_succ])
  refine' wpAnyH_take (i := 6) (v := ?v6) rfl (by kernel_rfl) (by kernel_rfl) (by kernel_rfl) (fun _ _ _ h => h) (Or.inl ⟨by rfl, ?y6⟩) (by assumption) ?r6
  case y6 => (intro W hSw; (try dsimp only at hSw); go_simp; try with_reducible rfl)
  (try simp only [Act.put, List.setIfInBounds_toArray, List.set_cons_zero, List.set_cons_succ])
  refine' wpAnyH_take (i := 7) (v := ?v7) rfl (by kernel_rfl) (by kernel_rfl) (by kernel_rfl) (fun _ _ _ h => h) (Or.inl ⟨by rfl, ?y7⟩) (by assumption) ?r7
  case y7 => (intro W hSw; (try dsimp only at hSw); go_simp; try with_reducible rfl)
  (try simp only [Act.put, List.setIfInBounds_toArray, List.set_cons_zero, List.set_cons_succ])
  refine' wpAnyH_take (i := 8) (v := ?v8) rfl (by kernel_rfl) (by kernel_rfl) (by kernel_rfl) (fun _ _ _ h => h) (Or.inl ⟨by rfl, ?y8⟩) (by assumption) ?r8
  case y8 => (intro W hSw; (try dsimp only at hSw); go_simp; try with_reducible rfl)
  (try simp only [Act.put, List.setIfInBounds_toArray, List.set_cons_zero, List.set_cons_succ])
  refine wpAnyH_ready (rs := [4]) (by kernel_rfl) (by simp) ?_
  refine AllReadyH.cons (i := 4) rfl (fun K hK => ?_) ?_
  · go_simp
    refine (compare_any _ _ _).mono ?_
    rintro e w' ⟨rfl, rfl⟩
    (try dsimp only)
    refine hK.out _ _ ?_ (fun hHeld => ?_)
    · exact ⟨x0, x1, x2, x3⟩
    clear hK K
    (try simp only [Act.put, List.setIfInBounds_toArray, List.set_cons_zero, List.set_cons_succ])
    refine wpAnyH_ready (rs := [9]) (by kernel_rfl) (by simp) ?_
    refine AllReadyH.cons (i := 9) rfl (fun K hK => ?_) ?_
    · go_simp
      refine (compare_any _ _ _).mono ?_
      rintro e w' ⟨rfl, rfl⟩
      (try dsimp only)
      refine hK.out _ _ ?_ (fun hHeld => ?_)
      · exact ⟨x0, x1, x2, x3⟩
      clear hK K
      (try simp only [Act.put, List.setIfInBounds_toArray, List.set_cons_zero, List.set_cons_succ])
      refine wpAnyH_ready (rs := [10]) (by kernel_rfl) (by simp) ?_
      refine AllReadyH.cons (i := 10) rfl (fun K hK => ?_) ?_
      · go_simp
        refine hK.out _ _ ?_ (fun hHeld => ?_)
        · exact ⟨cell_over _ x0, cell_over _ x1, cell_over _ x2, cell_over _ x3⟩
        clear hK K
        (try simp only [Act.put, List.setIfInBounds_toArray, List.set_cons_zero, List.set_cons_succ])
        refine wpAnyH_ready (rs := [11]) (by kernel_rfl) (by simp) ?_
        refine AllReadyH.cons (i := 11) rfl (fun K hK => ?_) ?_
        · go_simp
          refine (HO.out _ _ ((Blk.new w0 _ _).drew.cell 0) ((Blk.new w0 _ _).drew.cell 1)).mono ?_
          rintro e w' ⟨rfl, rfl⟩
          (try dsimp only)
          refine hK.out _ _ ?_ (fun hHeld => ?_)
          · exact ⟨cell_over _ x0, cell_over _ x1, cell_over _ x2, cell_over _ x3⟩
          clear hK K
          (try simp only [Act.put, List.setIfInBounds_toArray, List.set_cons_zero, List.set_cons_succ])
          refine wpAnyH_ready (rs := [12]) (by kernel_rfl) (by simp) ?_
          refine AllReadyH.cons (i := 12) rfl (fun K hK => ?_) ?_
          · go_simp
            refine hK.out _ _ ?_ (fun hHeld => ?_)
            · exact ⟨cell_over _ x0, cell_over _ x1, cell_over _ x2, cell_over _ x3⟩
            clear hK K
            (try simp only [Act.put, List.setIfInBounds_toArray, List.set_cons_zero, List.set_cons_succ])
            refine wpAnyH_done (by kernel_rfl) ?_ _
            go_wp2_with fail
            go_ret
            exact ⟨by rw [← HRR.out]; rfl, grow_more HW.out _⟩
          exact AllReadyH.nil
        exact AllReadyH.nil
      exact AllReadyH.nil
    exact AllReadyH.nil
  exact AllReadyH.nil
end Go.Proofs.Ytfpljpdjohmbaaa.RankKey
