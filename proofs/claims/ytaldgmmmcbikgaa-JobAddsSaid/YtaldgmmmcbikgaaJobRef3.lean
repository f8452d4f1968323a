/- The reference's At, there, Find and Table. -/
import Derived.BigRegion
import Derived.BigQuiet
import Derived.Lib.QuietBelow
import Derived.Deep.QuietTactic
import Derived.Deep.MidRow
import Derived.Deep.DeepCutAuto
import Derived.Test.YtaldgmmmcbikgaaJobFind
import Derived.Test.YtaldgmmmcbikgaaJobRef2
namespace Go.Proofs.Ytaldgmmmcbikgaa.JobRef3
open Go.Sort (grow)
open Go.RowKit Mem PosMath PartMath PartClass PartCheck TurnMath TurnWalks TurnFitsV JobMath JobIndex JobPlain JobAfter JobCheck JobFind TurnRFits JobRef1 JobRef2
set_option linter.unusedVariables false
set_option linter.unusedSimpArgs false

theorem rAt (X : Option Addr) (cap : Nat) (l : List JV) (n : Int) (hl : l.length ≤ 4611686018427387904) (w : World) (hX : JobsAt w X l) :
    Calls Try.prog 26 #[.slice X l.length cap, .int .i64 n] w fun e w' => e = .returned (.int .i64 (atV l n)) ∧ Below w.heap.size w w' := by
  obtain ⟨V, hV⟩ : ∃ V, V = atV l n := ⟨_, rfl⟩
  rw [← hV]
  have HV := Lib.hid hV
  have HX := Lib.hid hX
  clear hV hX
  go_enter Try.func26, Try.ntmps26
  go_wp2_with fail
  go_loopw [5] (fun i wr => ∃ k : Nat, k ≤ l.length ∧ i = .int .i64 k ∧ Hid (∀ (j : Nat) (x : JV), j < k → l[j]? = some x → x.id ≠ n) ∧ Hid (Below w.heap.size w wr))
    (fun i _ => l.length - (intOf i).toNat)
  case atStart => exact ⟨0, Nat.zero_le _, rfl, (fun j x h => by omega), Below.refl _ _⟩
  case round =>
    obtain ⟨k, hk, rfl, hP, hB⟩ := hrel
    by_cases hlt : k < l.length
    · have hg : l[k]? = some l[k] := List.getElem?_eq_getElem hlt
      generalize l[k] = x at hg
      have hki : (k : Int) < (l.length : Int) := by omega
      have hki0 : (0 : Int) ≤ (k : Int) := by omega
      obtain ⟨b, o, Y, c, rfl, hb, hJ, _⟩ := HX.out.up hB.out k x hg
      have y0 := hJ.1
      have HG := Lib.hid hg
      clear hg hJ
      by_cases he : x.id = n
      · have he' : (x.id == n) = true := by simpa using he
        have ev : V = (k : Int) := by rw [HV.out]; exact atV_at HG.out he hP.out
        have EV := Lib.hid ev
        clear he ev
        go_wp2_with fail
        go_ret
        rw [EV.out]
        exact ⟨rfl, hB.out⟩
      · have he' : (x.id == n) = false := by simpa using he
        have HE := Lib.hid he
        clear he
        go_wp2_with fail
        go_roundw
        case rel => exact ⟨k + 1, by omega, by go_num, (fun j z hj hz => by
            rcases Nat.lt_or_ge j k with h | h
            · exact hP.out j z h hz
            · obtain rfl : j = k := by omega
              rw [HG.out] at hz; cases hz; exact HE.out), hB.out⟩
        case measure => simp [intOf]; omega
    · obtain rfl : k = l.length := by omega
      have ev : V = -1 := by
        rw [HV.out]
        refine atV_none fun j hj => ?_
        obtain ⟨i, hi, e⟩ := List.mem_iff_getElem.1 hj
        exact hP.out i j hi (by rw [List.getElem?_eq_getElem hi, e])
      have EV := Lib.hid ev
      clear ev
      go_wp2_with fail
      go_ret
      rw [EV.out]
      exact ⟨rfl, hB.out⟩
theorem rfind (X : Option Addr) (cap : Nat) (l : List JV) (n : Int) (hl : l.length ≤ 4611686018427387904) (w : World) (hX : JobsAt w X l) :
    Calls Try.prog 11 #[.slice X l.length cap, .int .i64 n] w fun e w' => e = .returned (.tuple #[.int .i64 (findV l n).1, .int .i64 (findV l n).2]) ∧ Below w.heap.size w w' := by
  have HA := Lib.hid (rAt X cap l n hl w hX)
  unfold findV
  generalize atV l n = r at *
  clear hX
  by_cases h : r < 0
  · rw [if_pos h]
    go_enter Try.func11, Try.ntmps11
    go_wp2_with fail
    refine HA.out.mono ?_
    rintro e w1 ⟨rfl, hB⟩
    have HB := Lib.hid hB
    clear hB
    go_wp2_with fail
    go_ret2
    exact ⟨rfl, HB.out⟩
  · rw [if_neg h]
    go_enter Try.func11, Try.ntmps11
    go_wp2_with fail
    refine HA.out.mono ?_
    rintro e w1 ⟨rfl, hB⟩
    have HB := Lib.hid hB
    clear hB
    go_wp2_with fail
    go_ret2
    exact ⟨rfl, HB.out⟩
theorem rthere (X : Option Addr) (cap : Nat) (l : List JV) (j : JV) (Y : Option Addr) (cj : Nat) (hl : l.length ≤ 4611686018427387904) (hla : j.af.length ≤ 4611686018427387904) (w : World) (hX : JobsAt w X l) (hY : IntsAt w Y j.af) :
    Calls Try.prog 36 #[.slice X l.length cap, .agg #[.int .i64 j.id, .int .i64 j.us, .int .i64 j.cl, .int .i64 j.x.a, .int .i64 j.x.b, .int .i64 j.x.c, .bool j.x.p, .bool j.x.q, .bool j.x.r, .bool j.x.tn, .int .i64 j.wa, .int .i64 j.pr, .bool j.he, .slice Y j.af.length cj, .int .u8 j.st, .int .i64 j.ca]] w fun e w' => e = .returned (.bool (thereB l j)) ∧ Below w.heap.size w w' := by
  obtain ⟨V, hV⟩ : ∃ V, V = thereB l j := ⟨_, rfl⟩
  rw [← hV]
  have HV := Lib.hid hV
  have HX := Lib.hid hX
  have HY := Lib.hid hY
  have HA := Lib.hid (fun n w hX => rAt X cap l n hl w hX)
  clear hV hX hY
  go_enter Try.func36, Try.ntmps36
  go_upto_region 1 with fail
  have kj0 : Blk (w.alloc (.cells #[.int .i64 j.id, .int .i64 j.us, .int .i64 j.cl, .int .i64 j.x.a, .int .i64 j.x.b, .int .i64 j.x.c, .bool j.x.p, .bool j.x.q, .bool j.x.r, .bool j.x.tn, .int .i64 j.wa, .int .i64 j.pr, .bool j.he, .slice Y j.af.length cj, .int .u8 j.st, .int .i64 j.ca] 33)) w.heap.size 33 #[.int .i64 j.id, .int .i64 j.us, .int .i64 j.cl, .int .i64 j.x.a, .int .i64 j.x.b, .int .i64 j.x.c, .bool j.x.p, .bool j.x.q, .bool j.x.r, .bool j.x.tn, .int .i64 j.wa, .int .i64 j.pr, .bool j.he, .slice Y j.af.length cj, .int .u8 j.st, .int .i64 j.ca] := Blk.new w _ _
  have hb0 : Below w.heap.size w (w.alloc (.cells #[.int .i64 j.id, .int .i64 j.us, .int .i64 j.cl, .int .i64 j.x.a, .int .i64 j.x.b, .int .i64 j.x.c, .bool j.x.p, .bool j.x.q, .bool j.x.r, .bool j.x.tn, .int .i64 j.wa, .int .i64 j.pr, .bool j.he, .slice Y j.af.length cj, .int .u8 j.st, .int .i64 j.ca] 33)) := below_alloc (Below.refl _ _)
  generalize (w.alloc (.cells #[.int .i64 j.id, .int .i64 j.us, .int .i64 j.cl, .int .i64 j.x.a, .int .i64 j.x.b, .int .i64 j.x.c, .bool j.x.p, .bool j.x.q, .bool j.x.r, .bool j.x.tn, .int .i64 j.wa, .int .i64 j.pr, .bool j.he, .slice Y j.af.length cj, .int .u8 j.st, .int .i64 j.ca] 33)) = w0 at *
  have HB0 := Lib.hid hb0
  have KJ0 := Lib.hid kj0
  clear hb0 kj0
  go_wp2_with fail
  go_loopw [5] (fun i wr => ∃ k : Nat, k ≤ j.af.length ∧ i = .int .i64 k ∧ Hid (∀ (i : Nat) (v : Int), i < k → j.af[i]? = some v → hasB l v = true) ∧ Hid (Below w.heap.size w wr) ∧ Hid (Blk wr w.heap.size 33 #[.int .i64 j.id, .int .i64 j.us, .int .i64 j.cl, .int .i64 j.x.a, .int .i64 j.x.b, .int .i64 j.x.c, .bool j.x.p, .bool j.x.q, .bool j.x.r, .bool j.x.tn, .int .i64 j.wa, .int .i64 j.pr, .bool j.he, .slice Y j.af.length cj, .int .u8 j.st, .int .i64 j.ca]))
    (fun i _ => j.af.length - (intOf i).toNat)
  case atStart => exact ⟨0, Nat.zero_le _, rfl, (fun i v h => by omega), HB0.out, KJ0.out⟩
  case round =>
    obtain ⟨k, hk, rfl, hP, hB, hJ⟩ := hrel
    clear HB0 KJ0
    have x13 : wr.cell? ⟨w.heap.size, 13, none⟩ = some (.slice Y j.af.length cj) := hJ.out.cell 13
    by_cases hlt : k < j.af.length
    · have hg : j.af[k]? = some j.af[k] := List.getElem?_eq_getElem hlt
      generalize j.af[k] = v at hg
      have hki : (k : Int) < (j.af.length : Int) := by omega
      have hki0 : (0 : Int) ≤ (k : Int) := by omega
      obtain ⟨b, o, rfl, hb, y0⟩ := HY.out.up hB.out k v hg
      have HG := Lib.hid hg
      clear hg
      go_wp2_with fail
      refine (HA.out v _ (HX.out.up hB.out)).mono ?_
      rintro e w1 ⟨rfl, hB1⟩
      have HB1 := Lib.hid (below_up hB.out hB1)
      have KJ1 := Lib.hid (hJ.out.below hB1 hJ.out.lt)
      have hh := hasB_at l v
      clear hB1 x13 y0
      generalize atV l v = r at *
      by_cases hr : r < 0
      · have ev : V = false := by
          rw [HV.out]
          unfold thereB
          rw [List.all_eq_false]
          exact ⟨v, List.mem_of_getElem? HG.out, by rw [hh]; simp; omega⟩
        have EV := Lib.hid ev
        clear hh ev
        go_wp2_with fail
        go_ret
        rw [EV.out]
        exact ⟨rfl, HB1.out⟩
      · have HH := Lib.hid (show hasB l v = true by rw [hh]; simp; omega)
        clear hh
        go_wp2_with fail
        go_roundw
        case rel => exact ⟨k + 1, by omega, by go_num, (fun i z hi hz => by
            rcases Nat.lt_or_ge i k with h | h
            · exact hP.out i z h hz
            · obtain rfl : i = k := by omega
              rw [HG.out] at hz; cases hz; exact HH.out), HB1.out, KJ1.out⟩
        case measure => simp [intOf]; omega
    · obtain rfl : k = j.af.length := by omega
      have ev : V = true := by
        rw [HV.out]
        unfold thereB
        rw [List.all_eq_true]
        intro x hx
        obtain ⟨i, hi, e⟩ := List.mem_iff_getElem.1 hx
        exact hP.out i x hi (by rw [List.getElem?_eq_getElem hi, e])
      have EV := Lib.hid ev
      clear ev
      go_wp2_with fail
      go_ret
      rw [EV.out]
      exact ⟨rfl, hB.out⟩
set_option maxRecDepth 100000 in
set_option maxHeartbeats 8000000 in
theorem rtb_bad (d0 d1 d2 bo fr tr ag : Int) (K : Option Addr) (kc : Nat) (ks : List Cls) (hlk : ks.length ≤ 4611686018427387904) (X : Option Addr) (cap : Nat) (l : List JV) (hl : l.length ≤ 4611686018427387904) (hla : ∀ j ∈ l, j.af.length ≤ 4611686018427387904) (h : ¬ CfgOk d0 d1 d2 bo fr tr ag ks) (w : World) (hk : ClsAt w w.heap.size K ks) (hX : JobsAt w X l) :
    Calls Try.prog 16 #[.agg #[.int .i64 d0, .int .i64 d1, .int .i64 d2, .int .i64 bo, .int .i64 fr, .int .i64 tr, .int .i64 ag, .slice K ks.length kc], .slice X l.length cap] w fun e w' => e = .returned (.int .i64 8) ∧ Below w.heap.size w w' := by
  have HP := Lib.hid (fun w hk => rmay_bad d0 d1 d2 bo fr tr ag K kc ks (by omega) h w hk)
  have HK := Lib.hid hk
  have HX := Lib.hid hX
  clear hk hX h
  go_enter Try.func16, Try.ntmps16
  go_upto_region 1 with fail
  have kc0 : Blk (w.alloc (.cells #[.int .i64 d0, .int .i64 d1, .int .i64 d2, .int .i64 bo, .int .i64 fr, .int .i64 tr, .int .i64 ag, .slice K ks.length kc] 26)) w.heap.size 26 #[.int .i64 d0, .int .i64 d1, .int .i64 d2, .int .i64 bo, .int .i64 fr, .int .i64 tr, .int .i64 ag, .slice K ks.length kc] := Blk.new w _ _
  have hb0 : Below w.heap.size w (w.alloc (.cells #[.int .i64 d0, .int .i64 d1, .int .i64 d2, .int .i64 bo, .int .i64 fr, .int .i64 tr, .int .i64 ag, .slice K ks.length kc] 26)) := below_alloc (Below.refl _ _)
  generalize (w.alloc (.cells #[.int .i64 d0, .int .i64 d1, .int .i64 d2, .int .i64 bo, .int .i64 fr, .int .i64 tr, .int .i64 ag, .slice K ks.length kc] 26)) = w0 at *
  have HB0 := Lib.hid hb0
  have KC0 := Lib.hid kc0
  clear hb0 kc0
  go_wp2_with (first | (refine wpList_load_row rfl 26 _ rfl _ rfl 26 #[.int .i64 d0, .int .i64 d1, .int .i64 d2, .int .i64 bo, .int .i64 fr, .int .i64 tr, .int .i64 ag, .slice K ks.length kc] (0, 0) _ KC0.out Try.underlying26 rfl (by kernel_rfl) ?_))
  refine (HP.out _ (HK.out.up HB0.out)).mono ?_
  rintro e w1 ⟨rfl, hB1⟩
  have HB1 := Lib.hid (below_up HB0.out hB1)
  have KC1 := Lib.hid (KC0.out.below hB1 KC0.out.lt)
  clear hB1 KC0 HB0 HP
  go_wp2_with fail
  go_ret
  exact ⟨rfl, HB1.out⟩
set_option maxRecDepth 100000 in
set_option maxHeartbeats 8000000 in
theorem rtb_many (d0 d1 d2 bo fr tr ag : Int) (K : Option Addr) (kc : Nat) (ks : List Cls) (hlk : ks.length ≤ 4611686018427387904) (X : Option Addr) (cap : Nat) (l : List JV) (hl : l.length ≤ 4611686018427387904) (hla : ∀ j ∈ l, j.af.length ≤ 4611686018427387904) (h : CfgOk d0 d1 d2 bo fr tr ag ks) (hn : (24 : Int) < (l.length : Int)) (w : World) (hk : ClsAt w w.heap.size K ks) (hX : JobsAt w X l) :
    Calls Try.prog 16 #[.agg #[.int .i64 d0, .int .i64 d1, .int .i64 d2, .int .i64 bo, .int .i64 fr, .int .i64 tr, .int .i64 ag, .slice K ks.length kc], .slice X l.length cap] w fun e w' => e = .returned (.int .i64 4) ∧ Below w.heap.size w w' := by
  have HP := Lib.hid (fun w hk => rmay_ok d0 d1 d2 bo fr tr ag K kc ks (by omega) h w hk)
  have HK := Lib.hid hk
  have HX := Lib.hid hX
  clear hk hX h
  go_enter Try.func16, Try.ntmps16
  go_upto_region 1 with fail
  have kc0 : Blk (w.alloc (.cells #[.int .i64 d0, .int .i64 d1, .int .i64 d2, .int .i64 bo, .int .i64 fr, .int .i64 tr, .int .i64 ag, .slice K ks.length kc] 26)) w.heap.size 26 #[.int .i64 d0, .int .i64 d1, .int .i64 d2, .int .i64 bo, .int .i64 fr, .int .i64 tr, .int .i64 ag, .slice K ks.length kc] := Blk.new w _ _
  have hb0 : Below w.heap.size w (w.alloc (.cells #[.int .i64 d0, .int .i64 d1, .int .i64 d2, .int .i64 bo, .int .i64 fr, .int .i64 tr, .int .i64 ag, .slice K ks.length kc] 26)) := below_alloc (Below.refl _ _)
  generalize (w.alloc (.cells #[.int .i64 d0, .int .i64 d1, .int .i64 d2, .int .i64 bo, .int .i64 fr, .int .i64 tr, .int .i64 ag, .slice K ks.length kc] 26)) = w0 at *
  have HB0 := Lib.hid hb0
  have KC0 := Lib.hid kc0
  clear hb0 kc0
  go_wp2_with (first | (refine wpList_load_row rfl 26 _ rfl _ rfl 26 #[.int .i64 d0, .int .i64 d1, .int .i64 d2, .int .i64 bo, .int .i64 fr, .int .i64 tr, .int .i64 ag, .slice K ks.length kc] (0, 0) _ KC0.out Try.underlying26 rfl (by kernel_rfl) ?_))
  refine (HP.out _ (HK.out.up HB0.out)).mono ?_
  rintro e w1 ⟨rfl, hB1⟩
  have HB1 := Lib.hid (below_up HB0.out hB1)
  have KC1 := Lib.hid (KC0.out.below hB1 KC0.out.lt)
  clear hB1 KC0 HB0 HP
  go_wp2_with fail
  go_ret
  exact ⟨rfl, HB1.out⟩
set_option maxRecDepth 100000 in
set_option maxHeartbeats 8000000 in
theorem rtb_main (d0 d1 d2 bo fr tr ag : Int) (K : Option Addr) (kc : Nat) (ks : List Cls) (hlk : ks.length ≤ 4611686018427387904) (X : Option Addr) (cap : Nat) (l : List JV) (hl : l.length ≤ 4611686018427387904) (hla : ∀ j ∈ l, j.af.length ≤ 4611686018427387904) (h : CfgOk d0 d1 d2 bo fr tr ag ks) (hn : ¬ 24 < l.length) (w : World) (hk : ClsAt w w.heap.size K ks) (hX : JobsAt w X l) :
    Calls Try.prog 16 #[.agg #[.int .i64 d0, .int .i64 d1, .int .i64 d2, .int .i64 bo, .int .i64 fr, .int .i64 tr, .int .i64 ag, .slice K ks.length kc], .slice X l.length cap] w fun e w' => e = .returned (.int .i64 (tableF (checkV d0 d1 d2 ks) l)) ∧ Below w.heap.size w w' := by
  have hlen : l.length ≤ 24 := by omega
  have HC := Lib.hid (fun (j : JV) (Y : Option Addr) (cj : Nat) (hj : j ∈ l) w hk hY => rchecked d0 d1 d2 bo fr tr ag K kc ks j Y cj hlk (hla j hj) w hk hY)
  have HT := Lib.hid (fun (j : JV) (Y : Option Addr) (cj : Nat) (hj : j ∈ l) w hX hY => rthere X cap l j Y cj hl (hla j hj) w hX hY)
  have HN := Lib.hid hn
  generalize checkV d0 d1 d2 ks = f at *
  obtain ⟨V, hV⟩ : ∃ V, V = tableF f l := ⟨_, rfl⟩
  rw [← hV]
  have HV := Lib.hid hV
  clear hn hla hV
  have HP := Lib.hid (fun w hk => rmay_ok d0 d1 d2 bo fr tr ag K kc ks (by omega) h w hk)
  have HK := Lib.hid hk
  have HX := Lib.hid hX
  clear hk hX h
  go_enter Try.func16, Try.ntmps16
  go_upto_region 1 with fail
  have kc0 : Blk (w.alloc (.cells #[.int .i64 d0, .int .i64 d1, .int .i64 d2, .int .i64 bo, .int .i64 fr, .int .i64 tr, .int .i64 ag, .slice K ks.length kc] 26)) w.heap.size 26 #[.int .i64 d0, .int .i64 d1, .int .i64 d2, .int .i64 bo, .int .i64 fr, .int .i64 tr, .int .i64 ag, .slice K ks.length kc] := Blk.new w _ _
  have hb0 : Below w.heap.size w (w.alloc (.cells #[.int .i64 d0, .int .i64 d1, .int .i64 d2, .int .i64 bo, .int .i64 fr, .int .i64 tr, .int .i64 ag, .slice K ks.length kc] 26)) := below_alloc (Below.refl _ _)
  generalize (w.alloc (.cells #[.int .i64 d0, .int .i64 d1, .int .i64 d2, .int .i64 bo, .int .i64 fr, .int .i64 tr, .int .i64 ag, .slice K ks.length kc] 26)) = w0 at *
  have HB0 := Lib.hid hb0
  have KC0 := Lib.hid kc0
  clear hb0 kc0
  go_wp2_with (first | (refine wpList_load_row rfl 26 _ rfl _ rfl 26 #[.int .i64 d0, .int .i64 d1, .int .i64 d2, .int .i64 bo, .int .i64 fr, .int .i64 tr, .int .i64 ag, .slice K ks.length kc] (0, 0) _ KC0.out Try.underlying26 rfl (by kernel_rfl) ?_))
  refine (HP.out _ (HK.out.up HB0.out)).mono ?_
  rintro e w1 ⟨rfl, hB1⟩
  have HB1 := Lib.hid (below_up HB0.out hB1)
  have KC1 := Lib.hid (KC0.out.below hB1 KC0.out.lt)
  clear hB1 KC0 HB0 HP
  go_wp2_with fail
  go_loopw [5] (fun i wr => ∃ k : Nat, k ≤ l.length ∧ i = .int .i64 k ∧ Hid (∀ i y, i < k → l[i]? = some y → f y = 0) ∧ Hid (Below w.heap.size w wr) ∧ Hid (Blk wr w.heap.size 26 #[.int .i64 d0, .int .i64 d1, .int .i64 d2, .int .i64 bo, .int .i64 fr, .int .i64 tr, .int .i64 ag, .slice K ks.length kc]))
    (fun i _ => l.length - (intOf i).toNat)
  case atStart => exact ⟨0, Nat.zero_le _, rfl, (fun i y h => by omega), HB1.out, KC1.out⟩
  case round =>
    obtain ⟨k, hk, rfl, hz, hB, hC⟩ := hrel
    clear HB1 KC1
    by_cases hlt : k < l.length
    · have hg : l[k]? = some l[k] := List.getElem?_eq_getElem hlt
      generalize l[k] = x at hg
      have hki : (k : Int) < (l.length : Int) := by omega
      have hki0 : (0 : Int) ≤ (k : Int) := by omega
      obtain ⟨b, o, Y, cj, rfl, hb, hJ, hY⟩ := HX.out.up hB.out k x hg
      obtain ⟨y0, y1, y2, y3, y4, y5, y6, y7, y8, y9, y10, y11, y12, y13, y14, y15⟩ := hJ
      have HCX := Lib.hid (fun w hk hY => HC.out x Y cj (List.mem_of_getElem? hg) w hk hY)
      have HG := Lib.hid hg
      have HY := Lib.hid hY
      clear hg hY
      have c0 : wr.cell? ⟨w.heap.size, 0, none⟩ = some (.int .i64 d0) := hC.out.cell 0
      have c1 : wr.cell? ⟨w.heap.size, 1, none⟩ = some (.int .i64 d1) := hC.out.cell 1
      have c2 : wr.cell? ⟨w.heap.size, 2, none⟩ = some (.int .i64 d2) := hC.out.cell 2
      have c3 : wr.cell? ⟨w.heap.size, 3, none⟩ = some (.int .i64 bo) := hC.out.cell 3
      have c4 : wr.cell? ⟨w.heap.size, 4, none⟩ = some (.int .i64 fr) := hC.out.cell 4
      have c5 : wr.cell? ⟨w.heap.size, 5, none⟩ = some (.int .i64 tr) := hC.out.cell 5
      have c6 : wr.cell? ⟨w.heap.size, 6, none⟩ = some (.int .i64 ag) := hC.out.cell 6
      have c7 : wr.cell? ⟨w.heap.size, 7, none⟩ = some (.slice K ks.length kc) := hC.out.cell 7
      go_wp2_with fail
      have kq0 := cell_regrown c0
      have kq1 := cell_regrown c1
      have kq2 := cell_regrown c2
      have kq3 := cell_regrown c3
      have kq4 := cell_regrown c4
      have kq5 := cell_regrown c5
      have kq6 := cell_regrown c6
      have kq7 := cell_regrown c7
      have kq8 := cell_regrown y0
      have kq9 := cell_regrown y1
      have kq10 := cell_regrown y2
      have kq11 := cell_regrown y3
      have kq12 := cell_regrown y4
      have kq13 := cell_regrown y5
      have kq14 := cell_regrown y6
      have kq15 := cell_regrown y7
      have kq16 := cell_regrown y8
      have kq17 := cell_regrown y9
      have kq18 := cell_regrown y10
      have kq19 := cell_regrown y11
      have kq20 := cell_regrown y12
      have kq21 := cell_regrown y13
      have kq22 := cell_regrown y14
      have kq23 := cell_regrown y15
      refine wp_region_quiet_below (by kernel_rfl) (by kernel_rfl) ?_
      repeat (go_big_quiet_step (first | fail | exact Calls.regrown_of (HCX.out _ ((HK.out.up hB.out).up (below_regrown _ _ _)) (HY.out.up (below_regrown _ _ _)))))
      refine wpQuiet_nil ?_
      intro _ hw'
      obtain ⟨⟨dq, osq⟩, hw''⟩ := hw'
      subst hw''
      have hBq := below_regrown wr dq osq
      clear kq0 kq1 kq2 kq3 kq4 kq5 kq6 kq7 kq8 kq9 kq10 kq11 kq12 kq13 kq14 kq15 kq16 kq17 kq18 kq19 kq20 kq21 kq22 kq23
      generalize grow (redrawn wr dq) osq = w2 at *
      have HB2 := Lib.hid (below_up hB.out hBq)
      have KC2 := Lib.hid (hC.out.below hBq hC.out.lt)
      clear hBq hB hC HCX HY c0 c1 c2 c3 c4 c5 c6 c7 y0 y1 y2 y3 y4 y5 y6 y7 y8 y9 y10 y11 y12 y13 y14 y15
      by_cases he : f x = 0
      · have he' : (f x != 0) = false := by simp [he]
        have HE := Lib.hid he
        clear he
        go_wp2_with fail
        go_roundw
        case rel => exact ⟨k + 1, by omega, by go_num, (fun j z hj hz' => by
            rcases Nat.lt_or_ge j k with h | h
            · exact hz.out j z h hz'
            · obtain rfl : j = k := by omega
              rw [HG.out] at hz'; cases hz'; exact HE.out), HB2.out, KC2.out⟩
        case measure => simp [intOf]; omega
      · have he' : (f x != 0) = true := by simp [he]
        have ev : V = f x := by rw [HV.out]; exact tableF_first HN.out HG.out hz.out he
        have EV := Lib.hid ev
        clear he ev
        go_wp2_with fail
        go_ret
        rw [EV.out]
        exact ⟨rfl, HB2.out⟩
    · obtain rfl : k = l.length := by omega
      go_wp2_with fail
      go_loopw [7] (fun i wi => ∃ k : Nat, 1 ≤ k ∧ k ≤ l.length + 1 ∧ i = .int .i64 k ∧ (l.length = 0 → k = 1) ∧ (0 < l.length → k ≤ l.length) ∧ Hid (risesK l k = true) ∧ Hid (Below w.heap.size w wi))
        (fun i _ => l.length + 1 - (intOf i).toNat)
      case atStart => exact ⟨1, by omega, by omega, rfl, by omega, by omega, rfl, hB.out⟩
      case round =>
        obtain ⟨k, hk1, hk2, rfl, hk3, hk4, hR, hB⟩ := hrel
        by_cases hlt : k < l.length
        · obtain ⟨m, rfl⟩ : ∃ m, k = m + 1 := ⟨k - 1, by omega⟩
          have hg : l[m + 1]? = some l[m + 1] := List.getElem?_eq_getElem hlt
          generalize l[m + 1] = x at hg
          have hgm : l[m]? = some l[m] := List.getElem?_eq_getElem (by omega)
          generalize l[m] = y at hgm
          have hki : ((m : Int) + 1) < (l.length : Int) := by omega
          have hki0 : (0 : Int) ≤ (m : Int) + 1 := by omega
          have hm0 : (0 : Int) ≤ (m : Int) := by omega
          have hm1 : (m : Int) < (l.length : Int) := by omega
          have f1 : IntKind.i64.wrap ((m : Int) + 1 - 1) = (m : Int) := by rw [show (m : Int) + 1 - 1 = m by omega]; exact IntWalk.i64_in _ (by omega)
          have f2 : IntKind.i64.wrap (m : Int) = (m : Int) := IntWalk.i64_in _ (by omega)
          obtain ⟨b, o, Y, cj, rfl, hb, hJ, _⟩ := HX.out.up hB.out (m + 1) x hg
          obtain ⟨b', o', Y', cj', e1, hb', hJm, _⟩ := HX.out.up hB.out m y hgm
          have e2 : b' = b ∧ o' = o := by
            simp at e1
            exact ⟨e1.1.symm, e1.2.symm⟩
          rw [e2.1, e2.2] at hJm
          have y0 := hJ.1
          have z0 := hJm.1
          have HS := Lib.hid (risesK_step hgm hg)
          clear e1 e2 hb' hJ hJm hg hgm
          by_cases hle : x.id ≤ y.id
          · have dd : decide (x.id ≤ y.id) = true := decide_eq_true hle
            have ev : V = 8 := by
              rw [HV.out]
              refine tableF_rise HN.out hz.out (risesK_less (n := m + 2) (by omega) ?_)
              rw [HS.out, decide_eq_false (by omega), Bool.and_false]
            have EV := Lib.hid ev
            clear hle ev
            go_wp2_with fail
            go_quiet (fail)
            go_wp2_with fail
            go_ret
            rw [EV.out]
            exact ⟨rfl, below_drewN hB.out _⟩
          · have dd : decide (x.id ≤ y.id) = false := decide_eq_false hle
            have HR2 : Hid (risesK l (m + 2) = true) := Lib.hid (by rw [HS.out, hR.out, decide_eq_true (by omega)]; rfl)
            clear hle
            go_wp2_with fail
            go_quiet (fail)
            go_wp2_with fail
            go_roundw
            case rel => exact ⟨m + 2, by omega, by omega, by go_num, by omega, by omega, HR2.out, below_drewN hB.out _⟩
            case measure => simp [intOf]; omega
        · have HR : Hid (risesK l l.length = true) := Lib.hid (by
            rcases Nat.eq_zero_or_pos l.length with h | h
            · rw [h]; rfl
            · obtain rfl : k = l.length := by have := hk4 h; omega
              exact hR.out)
          have hki : ¬ (k : Int) < (l.length : Int) := by omega
          go_wp2_with fail
          go_loopw [8] (fun i wi => ∃ k : Nat, k ≤ l.length ∧ i = .int .i64 k ∧ Hid (∀ i y, i < k → l[i]? = some y → thereB l y = true) ∧ Hid (Below w.heap.size w wi))
            (fun i _ => l.length - (intOf i).toNat)
          case atStart => exact ⟨0, Nat.zero_le _, rfl, (fun i y h => by omega), hB.out⟩
          case round =>
            clear hR hB
            obtain ⟨q, hq, rfl, ht, hB⟩ := hrel
            by_cases hlq : q < l.length
            · have hg : l[q]? = some l[q] := List.getElem?_eq_getElem hlq
              generalize l[q] = x at hg
              have hqi : (q : Int) < (l.length : Int) := by omega
              have hqi0 : (0 : Int) ≤ (q : Int) := by omega
              obtain ⟨b, o, Y, cj, rfl, hb, hJ, hY⟩ := HX.out.up hB.out q x hg
              have HJ := Lib.hid hJ
              have HY := Lib.hid hY
              have HG := Lib.hid hg
              have HTX := Lib.hid (fun w hX hY => HT.out x Y cj (List.mem_of_getElem? hg) w hX hY)
              clear hJ hY hg
              go_wp2_with (first | (refine wpList_load_mid rfl 33 _ rfl _ _ rfl _ _ HJ.out.range Try.underlying33 rfl (by kernel_rfl) ?_))
              refine (HTX.out _ (HX.out.up hB.out) HY.out).mono ?_
              rintro e w2 ⟨rfl, hB2⟩
              have HB2 := Lib.hid (below_up hB.out hB2)
              clear hB2 hB HJ HY HTX
              cases hx : thereB l x
              · have ev : V = 182 := by rw [HV.out]; exact tableF_after HN.out hz.out HR.out (List.mem_of_getElem? HG.out) hx
                have EV := Lib.hid ev
                clear hx ev
                go_wp2_with fail
                go_ret
                rw [EV.out]
                exact ⟨rfl, HB2.out⟩
              · have HXT := Lib.hid hx
                clear hx
                go_wp2_with fail
                go_roundw
                case rel => exact ⟨q + 1, by omega, by go_num, (fun j z hj hz => by
                    rcases Nat.lt_or_ge j q with h | h
                    · exact ht.out j z h hz
                    · obtain rfl : j = q := by omega
                      rw [HG.out] at hz; cases hz; exact HXT.out), HB2.out⟩
                case measure => simp [intOf]; omega
            · obtain rfl : q = l.length := by omega
              have ev : V = 0 := by rw [HV.out]; exact tableF_ok HN.out hz.out HR.out ht.out
              have EV := Lib.hid ev
              clear ev
              go_wp2_with fail
              go_ret
              rw [EV.out]
              exact ⟨rfl, hB.out⟩
/-- The reference's Table: for all configs and tables. -/
theorem rtable_any (d0 d1 d2 bo fr tr ag : Int) (K : Option Addr) (kc : Nat) (ks : List Cls) (hlk : ks.length ≤ 4611686018427387904) (X : Option Addr) (cap : Nat) (l : List JV) (hl : l.length ≤ 4611686018427387904) (hla : ∀ j ∈ l, j.af.length ≤ 4611686018427387904) (w : World) (hk : ClsAt w w.heap.size K ks) (hX : JobsAt w X l) :
    Calls Try.prog 16 #[.agg #[.int .i64 d0, .int .i64 d1, .int .i64 d2, .int .i64 bo, .int .i64 fr, .int .i64 tr, .int .i64 ag, .slice K ks.length kc], .slice X l.length cap] w fun e w' => e = .returned (.int .i64 (tableV d0 d1 d2 bo fr tr ag ks l)) ∧ Below w.heap.size w w' := by
  unfold tableV
  by_cases h : CfgOk d0 d1 d2 bo fr tr ag ks
  · rw [if_pos h]
    by_cases hn : 24 < l.length
    · rw [tableF_many hn]; exact rtb_many d0 d1 d2 bo fr tr ag K kc ks hlk X cap l hl hla h (by omega) w hk hX
    · exact rtb_main d0 d1 d2 bo fr tr ag K kc ks hlk X cap l hl hla h hn w hk hX
  · rw [if_neg h]; exact rtb_bad d0 d1 d2 bo fr tr ag K kc ks hlk X cap l hl hla h w hk hX
end Go.Proofs.Ytaldgmmmcbikgaa.JobRef3
