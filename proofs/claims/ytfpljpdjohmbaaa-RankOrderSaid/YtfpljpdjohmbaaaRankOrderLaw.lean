/- RankOrder: the walk. -/
import Derived.BigRegion
import Derived.BigQuiet
import Derived.Lib.QuietBelow
import Derived.Deep.QuietTactic
import Derived.Deep.DeepCutAuto
import Derived.Deep.MidRow
import Derived.Test.YtfpljpdjohmbaaaOpenJob
import Derived.Test.YtfpljpdjohmbaaaJobGreat
import Derived.Test.YtfpljpdjohmbaaaRankAlive
import Derived.Test.YtfpljpdjohmbaaaDepsWant
import Derived.Test.YtfpljpdjohmbaaaQuietRow
namespace Go.Proofs.Ytfpljpdjohmbaaa.RankOrderLaw
open Go.Sort (grow)
open Go.RowKit Mem PosMath PartMath TurnMath TurnMap TurnFitsV JobMath JobCheck JobIndex JobFind JobMem JobTable JobTwin JobSame JobRSame JobGreat DepsMath DepsWant RankMath RankKey RankSort RankOrd RankAlive QuietRow Lay
set_option linter.unusedVariables false
set_option linter.unusedSimpArgs false

set_option maxRecDepth 100000 in
set_option maxHeartbeats 16000000 in
theorem ro_cls (d0 d1 d2 bo fr tr ag : Int) (K : Option Addr) (kc : Nat) (ks : List Cls) (hlk : ks.length ≤ maxLen) (X : Option Addr) (cX : Nat) (l : List JV) (hl : l.length ≤ maxLen) (hla : ∀ j ∈ l, JWf j ∧ j.af.length ≤ maxLen) (h0 : (100 : Int) < (ks.length : Int)) (w : World) (hk : ClsAt w w.heap.size K ks) (hX : JobsAt w X l) :
    Calls Try.prog 9 #[.agg #[.int .i64 d0, .int .i64 d1, .int .i64 d2, .int .i64 bo, .int .i64 fr, .int .i64 tr, .int .i64 ag, .slice K ks.length kc], .slice X l.length cX] w fun e w' => e = .returned (.bool true) ∧ Below w.heap.size w w' := by
  unfold maxLen at hlk hl
  clear hk hX
  go_enter Try.func9, Try.ntmps9
  go_upto_region 1 with fail
  have kc0 : Blk (w.alloc (.cells #[.int .i64 d0, .int .i64 d1, .int .i64 d2, .int .i64 bo, .int .i64 fr, .int .i64 tr, .int .i64 ag, .slice K ks.length kc] 26)) w.heap.size 26 #[.int .i64 d0, .int .i64 d1, .int .i64 d2, .int .i64 bo, .int .i64 fr, .int .i64 tr, .int .i64 ag, .slice K ks.length kc] := Blk.new w _ _
  have hb0 : Below w.heap.size w (w.alloc (.cells #[.int .i64 d0, .int .i64 d1, .int .i64 d2, .int .i64 bo, .int .i64 fr, .int .i64 tr, .int .i64 ag, .slice K ks.length kc] 26)) := below_alloc (Below.refl _ _)
  generalize (w.alloc (.cells #[.int .i64 d0, .int .i64 d1, .int .i64 d2, .int .i64 bo, .int .i64 fr, .int .i64 tr, .int .i64 ag, .slice K ks.length kc] 26)) = w0 at *
  have HB0 := Lib.hid hb0
  have KC0 := Lib.hid kc0
  clear hb0 kc0
  go_wp2_with fail
  refine (ralive _).mono ?_
  rintro e w1 ⟨rfl, hB1⟩
  have HB1 := Lib.hid (below_up HB0.out hB1)
  have KC1 := Lib.hid (KC0.out.below hB1 KC0.out.lt)
  have xk : w1.cell? ⟨w.heap.size, 7, none⟩ = some (.slice K ks.length kc) := KC1.out.cell 7
  clear hB1 KC0 HB0
  go_wp2_with fail
  go_ret
  exact ⟨rfl, HB1.out⟩
set_option maxRecDepth 100000 in
set_option maxHeartbeats 16000000 in
theorem ro_great (d0 d1 d2 bo fr tr ag : Int) (K : Option Addr) (kc : Nat) (ks : List Cls) (hlk : ks.length ≤ maxLen) (X : Option Addr) (cX : Nat) (l : List JV) (hl : l.length ≤ maxLen) (hla : ∀ j ∈ l, JWf j ∧ j.af.length ≤ maxLen) (h0 : ¬ (100 : Int) < (ks.length : Int)) (h1 : greatB l = true) (w : World) (hk : ClsAt w w.heap.size K ks) (hX : JobsAt w X l) :
    Calls Try.prog 9 #[.agg #[.int .i64 d0, .int .i64 d1, .int .i64 d2, .int .i64 bo, .int .i64 fr, .int .i64 tr, .int .i64 ag, .slice K ks.length kc], .slice X l.length cX] w fun e w' => e = .returned (.bool true) ∧ Below w.heap.size w w' := by
  unfold maxLen at hlk hl
  have HG1 := Lib.hid (fun w h => great_big X cX l (by omega) (fun j hj => by have := (hla j hj).2; unfold maxLen at this; omega) w h)
  rw [h1] at HG1
  have HX := Lib.hid hX
  clear hk hX h1
  go_enter Try.func9, Try.ntmps9
  go_upto_region 1 with fail
  have kc0 : Blk (w.alloc (.cells #[.int .i64 d0, .int .i64 d1, .int .i64 d2, .int .i64 bo, .int .i64 fr, .int .i64 tr, .int .i64 ag, .slice K ks.length kc] 26)) w.heap.size 26 #[.int .i64 d0, .int .i64 d1, .int .i64 d2, .int .i64 bo, .int .i64 fr, .int .i64 tr, .int .i64 ag, .slice K ks.length kc] := Blk.new w _ _
  have hb0 : Below w.heap.size w (w.alloc (.cells #[.int .i64 d0, .int .i64 d1, .int .i64 d2, .int .i64 bo, .int .i64 fr, .int .i64 tr, .int .i64 ag, .slice K ks.length kc] 26)) := below_alloc (Below.refl _ _)
  generalize (w.alloc (.cells #[.int .i64 d0, .int .i64 d1, .int .i64 d2, .int .i64 bo, .int .i64 fr, .int .i64 tr, .int .i64 ag, .slice K ks.length kc] 26)) = w0 at *
  have HB0 := Lib.hid hb0
  have KC0 := Lib.hid kc0
  clear hb0 kc0
  go_wp2_with fail
  refine (ralive _).mono ?_
  rintro e w1 ⟨rfl, hB1⟩
  have HB1 := Lib.hid (below_up HB0.out hB1)
  have KC1 := Lib.hid (KC0.out.below hB1 KC0.out.lt)
  have xk : w1.cell? ⟨w.heap.size, 7, none⟩ = some (.slice K ks.length kc) := KC1.out.cell 7
  clear hB1 KC0 HB0
  go_wp2_with fail
  refine (HG1.out _ (HX.out.up HB1.out)).mono ?_
  rintro e w2 ⟨rfl, hB2⟩
  have HB2 := Lib.hid (below_up HB1.out hB2)
  have KC2 := Lib.hid (KC1.out.below hB2 KC1.out.lt)
  clear hB2 KC1 xk HB1 HG1
  go_wp2_with fail
  go_ret
  exact ⟨rfl, HB2.out⟩
set_option maxRecDepth 100000 in
set_option maxHeartbeats 16000000 in
theorem ro_bad (d0 d1 d2 bo fr tr ag : Int) (K : Option Addr) (kc : Nat) (ks : List Cls) (hlk : ks.length ≤ maxLen) (X : Option Addr) (cX : Nat) (l : List JV) (hl : l.length ≤ maxLen) (hla : ∀ j ∈ l, JWf j ∧ j.af.length ≤ maxLen) (h0 : ¬ (100 : Int) < (ks.length : Int)) (h1 : greatB l = false) (hv : tableV d0 d1 d2 bo fr tr ag ks l ≠ 0) (w : World) (hk : ClsAt w w.heap.size K ks) (hX : JobsAt w X l) :
    Calls Try.prog 9 #[.agg #[.int .i64 d0, .int .i64 d1, .int .i64 d2, .int .i64 bo, .int .i64 fr, .int .i64 tr, .int .i64 ag, .slice K ks.length kc], .slice X l.length cX] w fun e w' => e = .returned (.bool true) ∧ Below w.heap.size w w' := by
  unfold maxLen at hlk hl
  have HG1 := Lib.hid (fun w h => great_big X cX l (by omega) (fun j hj => by have := (hla j hj).2; unfold maxLen at this; omega) w h)
  rw [h1] at HG1
  obtain ⟨hl1, hl2⟩ := great_not h1
  have hlj : ∀ j ∈ l, JWf j := fun j hj => (hla j hj).1
  have hl4 : ∀ j ∈ l, j.af.length ≤ 1000 := fun j hj => by have := hl2 j hj; omega
  have HX := Lib.hid hX
  have HK := Lib.hid hk
  have HO1 := Lib.hid (fun w hk hX => order_all d0 d1 d2 bo fr tr ag K kc ks (by omega) X cX l (by omega) hl4 w hk hX)
  have er : orderR (tableV d0 d1 d2 bo fr tr ag ks l) ks ag l = [] := if_neg hv
  rw [er] at HO1
  generalize tableV d0 d1 d2 bo fr tr ag ks l = V at *
  have hv' : (V != 0) = true := by simpa using hv
  clear hk hX h1 hlj hl4 hl2 hv er
  go_enter Try.func9, Try.ntmps9
  go_upto_region 1 with fail
  have kc0 : Blk (w.alloc (.cells #[.int .i64 d0, .int .i64 d1, .int .i64 d2, .int .i64 bo, .int .i64 fr, .int .i64 tr, .int .i64 ag, .slice K ks.length kc] 26)) w.heap.size 26 #[.int .i64 d0, .int .i64 d1, .int .i64 d2, .int .i64 bo, .int .i64 fr, .int .i64 tr, .int .i64 ag, .slice K ks.length kc] := Blk.new w _ _
  have hb0 : Below w.heap.size w (w.alloc (.cells #[.int .i64 d0, .int .i64 d1, .int .i64 d2, .int .i64 bo, .int .i64 fr, .int .i64 tr, .int .i64 ag, .slice K ks.length kc] 26)) := below_alloc (Below.refl _ _)
  generalize (w.alloc (.cells #[.int .i64 d0, .int .i64 d1, .int .i64 d2, .int .i64 bo, .int .i64 fr, .int .i64 tr, .int .i64 ag, .slice K ks.length kc] 26)) = w0 at *
  have HB0 := Lib.hid hb0
  have KC0 := Lib.hid kc0
  clear hb0 kc0
  go_wp2_with fail
  refine (ralive _).mono ?_
  rintro e w1 ⟨rfl, hB1⟩
  have HB1 := Lib.hid (below_up HB0.out hB1)
  have KC1 := Lib.hid (KC0.out.below hB1 KC0.out.lt)
  have xk : w1.cell? ⟨w.heap.size, 7, none⟩ = some (.slice K ks.length kc) := KC1.out.cell 7
  clear hB1 KC0 HB0
  go_wp2_with fail
  refine (HG1.out _ (HX.out.up HB1.out)).mono ?_
  rintro e w2 ⟨rfl, hB2⟩
  have HB2 := Lib.hid (below_up HB1.out hB2)
  have KC2 := Lib.hid (KC1.out.below hB2 KC1.out.lt)
  clear hB2 KC1 xk HB1 HG1
  go_wp2_with (first | (refine wpList_load_row rfl 26 _ rfl _ rfl 26 #[.int .i64 d0, .int .i64 d1, .int .i64 d2, .int .i64 bo, .int .i64 fr, .int .i64 tr, .int .i64 ag, .slice K ks.length kc] (0, 0) _ KC2.out Try.underlying26 rfl (by kernel_rfl) ?_))
  refine (HO1.out _ (HK.out.up HB2.out) (HX.out.up HB2.out)).mono ?_
  rintro e w3 ⟨X1, c1, rfl, hI, hB3⟩
  have HB3 := Lib.hid (below_up HB2.out hB3)
  have KC3 := Lib.hid (KC2.out.below hB3 KC2.out.lt)
  have HI3 := Lib.hid hI
  clear hI KC2
  simp only [List.length_nil]
  go_wp2_with fail
  go_ret
  exact ⟨rfl, HB3.out⟩
set_option maxRecDepth 100000 in
set_option maxHeartbeats 16000000 in
theorem ro_main (d0 d1 d2 bo fr tr ag : Int) (K : Option Addr) (kc : Nat) (ks : List Cls) (hlk : ks.length ≤ maxLen) (X : Option Addr) (cX : Nat) (l : List JV) (hl : l.length ≤ maxLen) (hla : ∀ j ∈ l, JWf j ∧ j.af.length ≤ maxLen) (h0 : ¬ (100 : Int) < (ks.length : Int)) (h1 : greatB l = false) (hv : tableV d0 d1 d2 bo fr tr ag ks l = 0) (w : World) (hk : ClsAt w w.heap.size K ks) (hX : JobsAt w X l) :
    Calls Try.prog 9 #[.agg #[.int .i64 d0, .int .i64 d1, .int .i64 d2, .int .i64 bo, .int .i64 fr, .int .i64 tr, .int .i64 ag, .slice K ks.length kc], .slice X l.length cX] w fun e w' => e = .returned (.bool true) ∧ Below w.heap.size w w' := by
  unfold maxLen at hlk hl
  have HG1 := Lib.hid (fun w h => great_big X cX l (by omega) (fun j hj => by have := (hla j hj).2; unfold maxLen at this; omega) w h)
  rw [h1] at HG1
  obtain ⟨hl1, hl2⟩ := great_not h1
  have hlj : ∀ j ∈ l, JWf j := fun j hj => (hla j hj).1
  have hl4 : ∀ j ∈ l, j.af.length ≤ 1000 := fun j hj => by have := hl2 j hj; omega
  have HX := Lib.hid hX
  have HK := Lib.hid hk
  have HO1 := Lib.hid (fun w hk hX => order_all d0 d1 d2 bo fr tr ag K kc ks (by omega) X cX l (by omega) hl4 w hk hX)
  have er : orderR (tableV d0 d1 d2 bo fr tr ag ks l) ks ag l = orderV ks ag l := if_pos hv
  rw [er, hv] at HO1
  obtain ⟨hC, hT⟩ := tableV_of hv
  have hol := order_len ks ag l
  have hol2 : (ordP (pairs ks ag l)).length = (orderV ks ag l).length := by unfold orderV; rw [List.length_map]
  have hat : ∀ (i : Nat) (n : Int), (orderV ks ag l)[i]? = some n → ∃ (k : Nat) (j : JV), l[k]? = some j ∧ waitsB j = true ∧ j.id = n ∧ (ordP (pairs ks ag l))[i]? = some (pairV ks ag j) ∧ atV l j.id = k ∧ CheckV d0 d1 d2 bo fr tr ag ks j = 0 := fun i n h => by
    obtain ⟨p, hp, e⟩ := order_get h
    obtain ⟨k, j, hk, hw, rfl⟩ := order_at hp
    exact ⟨k, j, hk, hw, e, hp, atV_up hT.rise hk, CheckV_ok hC (hT.each j (List.mem_of_getElem? hk))⟩
  have hnext : ∀ (i : Nat) (p q : Int × Int), (ordP (pairs ks ag l))[i]? = some p → (ordP (pairs ks ag l))[i + 1]? = some q → p.1 < q.1 ∨ (p.1 = q.1 ∧ p.2 < q.2) := fun i p q hp hq => order_next hT.rise hp hq
  have HF := Lib.hid (fun n w hX => find_any X cX l n (by omega) w hX)
  have HKE := Lib.hid (fun (j : JV) (Y : Option Addr) (cj : Nat) (w : World) (h : CheckV d0 d1 d2 bo fr tr ag ks j = 0) (ha : j.af.length ≤ 1000) (hk : ClsAt w w.heap.size K ks) (hY : IntsAt w Y j.af) =>
    (show Calls Try.prog 33 #[.agg #[.int .i64 d0, .int .i64 d1, .int .i64 d2, .int .i64 bo, .int .i64 fr, .int .i64 tr, .int .i64 ag, .slice K ks.length kc], .agg #[.int .i64 j.id, .int .i64 j.us, .int .i64 j.cl, .int .i64 j.x.a, .int .i64 j.x.b, .int .i64 j.x.c, .bool j.x.p, .bool j.x.q, .bool j.x.r, .bool j.x.tn, .int .i64 j.wa, .int .i64 j.pr, .bool j.he, .slice Y j.af.length cj, .int .u8 j.st, .int .i64 j.ca]] w (fun e w' => e = .returned (.tuple #[.int .i64 (keyV ks ag j), .int .i64 0]) ∧ Below w.heap.size w w') from by
      have h2 := rKey_any d0 d1 d2 bo fr tr ag K kc ks j Y cj (by omega) (by omega) w hk hY
      rw [h, if_pos rfl] at h2
      exact h2))
  generalize orderV ks ag l = os at *
  generalize ordP (pairs ks ag l) = ps at *
  have HAT := Lib.hid hat
  have HNX := Lib.hid hnext
  have HOL := Lib.hid hol
  have HL4 := Lib.hid hl4
  clear hk hX h1 hlj hl4 hl2 hv er hC hT hat hnext hol
  go_enter Try.func9, Try.ntmps9
  go_upto_region 1 with fail
  have kc0 : Blk (w.alloc (.cells #[.int .i64 d0, .int .i64 d1, .int .i64 d2, .int .i64 bo, .int .i64 fr, .int .i64 tr, .int .i64 ag, .slice K ks.length kc] 26)) w.heap.size 26 #[.int .i64 d0, .int .i64 d1, .int .i64 d2, .int .i64 bo, .int .i64 fr, .int .i64 tr, .int .i64 ag, .slice K ks.length kc] := Blk.new w _ _
  have hb0 : Below w.heap.size w (w.alloc (.cells #[.int .i64 d0, .int .i64 d1, .int .i64 d2, .int .i64 bo, .int .i64 fr, .int .i64 tr, .int .i64 ag, .slice K ks.length kc] 26)) := below_alloc (Below.refl _ _)
  generalize (w.alloc (.cells #[.int .i64 d0, .int .i64 d1, .int .i64 d2, .int .i64 bo, .int .i64 fr, .int .i64 tr, .int .i64 ag, .slice K ks.length kc] 26)) = w0 at *
  have HB0 := Lib.hid hb0
  have KC0 := Lib.hid kc0
  clear hb0 kc0
  go_wp2_with fail
  refine (ralive _).mono ?_
  rintro e w1 ⟨rfl, hB1⟩
  have HB1 := Lib.hid (below_up HB0.out hB1)
  have KC1 := Lib.hid (KC0.out.below hB1 KC0.out.lt)
  have xk : w1.cell? ⟨w.heap.size, 7, none⟩ = some (.slice K ks.length kc) := KC1.out.cell 7
  clear hB1 KC0 HB0
  go_wp2_with fail
  refine (HG1.out _ (HX.out.up HB1.out)).mono ?_
  rintro e w2 ⟨rfl, hB2⟩
  have HB2 := Lib.hid (below_up HB1.out hB2)
  have KC2 := Lib.hid (KC1.out.below hB2 KC1.out.lt)
  clear hB2 KC1 xk HB1 HG1
  go_wp2_with (first | (refine wpList_load_row rfl 26 _ rfl _ rfl 26 #[.int .i64 d0, .int .i64 d1, .int .i64 d2, .int .i64 bo, .int .i64 fr, .int .i64 tr, .int .i64 ag, .slice K ks.length kc] (0, 0) _ KC2.out Try.underlying26 rfl (by kernel_rfl) ?_))
  refine (HO1.out _ (HK.out.up HB2.out) (HX.out.up HB2.out)).mono ?_
  rintro e w3 ⟨X1, c1, rfl, hI, hB3⟩
  have HB3 := Lib.hid (below_up HB2.out hB3)
  have KC3 := Lib.hid (KC2.out.below hB3 KC2.out.lt)
  have HI3 := Lib.hid hI
  clear hI KC2
  clear hB3
  go_wp2_with fail
  go_loopw [11, 8] (fun i m wr => ∃ k : Nat, k ≤ l.length ∧ i = .int .i64 k ∧ m = .int .i64 (((l.take k).filter waitsB).length : Nat) ∧ Hid (Below w3.heap.size w3 wr))
    (fun i _ _ => l.length - (intOf i).toNat)
  case atStart => exact ⟨0, Nat.zero_le _, rfl, rfl, Below.refl _ _⟩
  case round =>
    obtain ⟨k, hk, rfl, rfl, hB⟩ := hrel
    by_cases hlt : k < l.length
    · have hg : l[k]? = some l[k] := List.getElem?_eq_getElem hlt
      generalize l[k] = x at hg
      have hki : (k : Int) < (l.length : Int) := by omega
      have hki0 : (0 : Int) ≤ (k : Int) := by omega
      obtain ⟨b, o, Y, c, hXe, hb, hJ, _⟩ := HX.out.up (below_up HB3.out hB.out) k x hg
      have y14 : wr.cell? ⟨b, o + k * 16 + 14, none⟩ = some (.int .u8 x.st) := hJ.2.2.2.2.2.2.2.2.2.2.2.2.2.2.1
      have y12 : wr.cell? ⟨b, o + k * 16 + 12, none⟩ = some (.bool x.he) := hJ.2.2.2.2.2.2.2.2.2.2.2.2.1
      subst hXe
      have hst : ((l.take (k + 1)).filter waitsB).length = ((l.take k).filter waitsB).length + (if waitsB x = true then 1 else 0) := by
        rw [List.take_add_one, hg]
        cases hw : waitsB x <;> simp [hw]
      have hle : ((l.take k).filter waitsB).length ≤ 1000 := by
        have := List.length_filter_le waitsB (l.take k)
        rw [List.length_take] at this
        omega
      generalize ((l.take k).filter waitsB).length = n0 at *
      have HST := Lib.hid hst
      clear hg hJ hb hst
      go_upto_region 11 with fail
      go_cut [64] (fun s wx => s = .bool (waitsB x) ∧ wx = wr)
      case first =>
        by_cases h1 : x.st = 1
        · have e1 : (x.st == 1) = true := by simpa using h1
          have H1 := Lib.hid (decide_eq_true h1)
          clear h1
          go_wp2_with fail
          go_meet
          exact ⟨by unfold waitsB; rw [H1.out]; rfl, rfl⟩
        · have e1 : (x.st == 1) = false := by simpa using h1
          have H1 := Lib.hid (decide_eq_false h1)
          clear h1
          go_wp2_with fail
          go_meet
          exact ⟨by unfold waitsB; rw [H1.out]; rfl, rfl⟩
      case rest =>
        obtain ⟨rfl, e⟩ := hcut
        subst e
        cases hw : waitsB x
        · have h2 : ((l.take (k + 1)).filter waitsB).length = n0 := by rw [HST.out, if_neg (by simp [hw])]; omega
          have H2 := Lib.hid h2
          clear hw h2 HST
          go_wp2_with fail
          go_roundw
          case rel => exact ⟨k + 1, by omega, by go_num, by rw [H2.out], hB.out⟩
          case measure => simp [intOf]; omega
        · have h2 : ((l.take (k + 1)).filter waitsB).length = n0 + 1 := by rw [HST.out, if_pos hw]
          have H2 := Lib.hid h2
          clear hw h2 HST
          go_wp2_with fail
          go_roundw
          case rel => exact ⟨k + 1, by omega, by go_num, by rw [H2.out]; go_num, hB.out⟩
          case measure => simp [intOf]; omega
    · obtain rfl : k = l.length := by omega
      rw [List.take_length]
      have hom : os.length = (l.filter waitsB).length := HOL.out
      rw [← hom]
      have hos : os.length ≤ 1000 := by have := List.length_filter_le waitsB l; omega
      have HI := Lib.hid (HI3.out.up hB.out)
      have HBr := Lib.hid (below_up HB3.out hB.out)
      have KCr := Lib.hid (KC3.out.below hB.out KC3.out.lt)
      clear hB HI3 HB3 KC3 hom HOL
      obtain ⟨w4, rfl⟩ : ∃ w4 : World, w4 = wr := ⟨_, rfl⟩
      go_wp2_with fail
      go_loopw [12, 9, 10] (fun i s9 s10 wr => ∃ (k : Nat) (la id : Int), k ≤ os.length ∧ i = .int .i64 k ∧ s9 = .int .i64 la ∧ s10 = .int .i64 id ∧ Hid (0 < k → ps[k - 1]? = some (-la, id)) ∧ Hid (Below w4.heap.size w4 wr))
        (fun i _ _ _ => os.length - (intOf i).toNat)
      case atStart => exact ⟨0, 0, 0, Nat.zero_le _, rfl, rfl, rfl, fun h => by omega, Below.refl _ _⟩
      case round =>
        obtain ⟨k, la, id, hk, rfl, rfl, rfl, hL, hB⟩ := hrel
        by_cases hlt : k < os.length
        · have hg : os[k]? = some os[k] := List.getElem?_eq_getElem hlt
          generalize os[k] = n at hg
          have hki : (k : Int) < (os.length : Int) := by omega
          have hki0 : (0 : Int) ≤ (k : Int) := by omega
          obtain ⟨q, j, hq, hw, rfl, hp, ha, hc⟩ := HAT.out k n hg
          have hql := (List.getElem?_eq_some_iff.1 hq).1
          have hqi : (q : Int) < (l.length : Int) := by omega
          have hqi0 : (0 : Int) ≤ (q : Int) := by omega
          have hf : findV l j.id = ((q : Int), 0) := by unfold findV; rw [ha, if_neg (by omega)]
          have hC := HF.out j.id wr (HX.out.up (below_up HBr.out hB.out))
          rw [hf] at hC
          have HC := Lib.hid hC
          obtain ⟨b0, o0, hX1, _, yo⟩ := (HI.out.up hB.out) k _ hg
          subst hX1
          have hst : j.st = 1 ∧ j.he = false := by unfold waitsB at hw; simpa using hw
          have hkey : 0 < k → keyV ks ag j < la ∨ (keyV ks ag j = la ∧ id < j.id) := fun h0 => by
            have h2 := HNX.out (k - 1) _ _ (hL.out h0) (by rw [show k - 1 + 1 = k by omega]; exact hp)
            unfold pairV at h2
            simp only at h2
            omega
          have HP := Lib.hid hp
          have HKY := Lib.hid hkey
          have HQ := Lib.hid (And.intro hq (And.intro hst (And.intro hc (HL4.out j (List.mem_of_getElem? hq)))))
          clear hg hq hw hp ha hc hf hC hst hkey
          go_wp2_with fail
          refine HC.out.mono ?_
          rintro e w5 ⟨rfl, hB5⟩
          have HB5 := Lib.hid (below_up hB.out hB5)
          have KC5 := Lib.hid (KCr.out.below HB5.out KCr.out.lt)
          have HBz := Lib.hid (below_up HBr.out HB5.out)
          have yo5 := keep_cell yo hB5
          obtain ⟨b, o, Y, c, hXe, hb, hJ, hY⟩ := HX.out.up HBz.out q j HQ.out.1
          subst hXe
          have y14 : w5.cell? ⟨b, o + q * 16 + 14, none⟩ = some (.int .u8 1) := by rw [← HQ.out.2.1.1]; exact hJ.2.2.2.2.2.2.2.2.2.2.2.2.2.2.1
          have y12 : w5.cell? ⟨b, o + q * 16 + 12, none⟩ = some (.bool false) := by rw [← HQ.out.2.1.2]; exact hJ.2.2.2.2.2.2.2.2.2.2.2.2.1
          have HJ := Lib.hid (And.intro hJ.range hY)
          clear hB5 yo hB hJ hY hb HC
          go_wp2_with fail
          clear y14 y12
          have kq0 := cell_regrown yo5
          refine wp_region_quiet_below (by kernel_rfl) (by kernel_rfl) ?_
          repeat (first | (refine quiet_load_row (by rfl) 26 _ rfl _ rfl 26 #[.int .i64 d0, .int .i64 d1, .int .i64 d2, .int .i64 bo, .int .i64 fr, .int .i64 tr, .int .i64 ag, .slice K ks.length kc] KC5.out _ Try.underlying26 rfl (by kernel_rfl) ?_; simp only [Act.put, List.setIfInBounds_toArray, List.set_cons_zero, List.set_cons_succ]) | (refine quiet_load_mid (by rfl) 33 _ rfl _ _ rfl _ HJ.out.1 _ Try.underlying33 rfl (by kernel_rfl) ?_; simp only [Act.put, List.setIfInBounds_toArray, List.set_cons_zero, List.set_cons_succ]) | go_big_quiet_step (first | fail | exact Calls.regrown_of (HKE.out _ _ _ _ HQ.out.2.2.1 HQ.out.2.2.2 ((HK.out.up HBz.out).up (below_regrown _ _ _)) (HJ.out.2.up (below_regrown _ _ _)))))
          refine wpQuiet_nil ?_
          intro _ hw'
          obtain ⟨⟨dq, osq⟩, hw''⟩ := hw'
          subst hw''
          have hBq := below_regrown w5 dq osq
          clear kq0
          generalize grow (redrawn w5 dq) osq = w6 at *
          have HB6 := Lib.hid (below_up HB5.out hBq)
          have yo6 := keep_cell yo5 hBq
          clear hBq yo5 HBz KC5 HB5 HJ
          generalize hkv : keyV ks ag j = kv at *
          have HKV := Lib.hid hkv
          clear hkv
          by_cases hk0 : k = 0
          · have h00 : ¬ ((0 : Int) < (k : Int)) := by omega
            clear hk0
            go_upto_region 22 with fail
            have kq0 := cell_regrown yo6
            refine wp_region_quiet_below (by kernel_rfl) (by kernel_rfl) ?_
            repeat (first | go_big_quiet_step (first | fail))
            refine wpQuiet_nil ?_
            intro _ hw'
            obtain ⟨⟨dq, osq⟩, hw''⟩ := hw'
            subst hw''
            have hBq := below_regrown w6 dq osq
            clear kq0
            generalize grow (redrawn w6 dq) osq = w7 at *
            have HB7 := Lib.hid (below_up HB6.out hBq)
            clear hBq
            go_wp2_with fail
            go_roundw
            case rel => exact ⟨k + 1, kv, j.id, by omega, by go_num, rfl, rfl, (fun _ => by rw [show k + 1 - 1 = k by omega, ← HKV.out]; exact HP.out), HB7.out⟩
            case measure => simp [intOf]; omega
          · have h00 : (0 : Int) < (k : Int) := by omega
            rcases HKY.out (by omega) with hl2 | ⟨heq, hid⟩
            · have c1 : ¬ la < kv := by omega
              have c2 : (kv == la) = false := by simp; omega
              clear hk0 hl2
              go_upto_region 22 with fail
              have kq0 := cell_regrown yo6
              refine wp_region_quiet_below (by kernel_rfl) (by kernel_rfl) ?_
              repeat (first | go_big_quiet_step (first | fail))
              refine wpQuiet_nil ?_
              intro _ hw'
              obtain ⟨⟨dq, osq⟩, hw''⟩ := hw'
              subst hw''
              have hBq := below_regrown w6 dq osq
              clear kq0
              generalize grow (redrawn w6 dq) osq = w7 at *
              have HB7 := Lib.hid (below_up HB6.out hBq)
              clear hBq
              go_wp2_with fail
              go_roundw
              case rel => exact ⟨k + 1, kv, j.id, by omega, by go_num, rfl, rfl, (fun _ => by rw [show k + 1 - 1 = k by omega, ← HKV.out]; exact HP.out), HB7.out⟩
              case measure => simp [intOf]; omega
            · have c1 : ¬ la < kv := by omega
              have c2 : (kv == la) = true := by simp; omega
              have c3 : ¬ j.id ≤ id := by omega
              clear hk0 heq hid
              go_upto_region 22 with fail
              have kq0 := cell_regrown yo6
              refine wp_region_quiet_below (by kernel_rfl) (by kernel_rfl) ?_
              repeat (first | go_big_quiet_step (first | fail))
              refine wpQuiet_nil ?_
              intro _ hw'
              obtain ⟨⟨dq, osq⟩, hw''⟩ := hw'
              subst hw''
              have hBq := below_regrown w6 dq osq
              clear kq0
              generalize grow (redrawn w6 dq) osq = w7 at *
              have HB7 := Lib.hid (below_up HB6.out hBq)
              clear hBq
              go_wp2_with fail
              go_roundw
              case rel => exact ⟨k + 1, kv, j.id, by omega, by go_num, rfl, rfl, (fun _ => by rw [show k + 1 - 1 = k by omega, ← HKV.out]; exact HP.out), HB7.out⟩
              case measure => simp [intOf]; omega
        · obtain rfl : k = os.length := by omega
          go_wp2_with fail
          go_ret
          exact ⟨rfl, below_up HBr.out hB.out⟩
theorem orderLaw (w : World) (d0 d1 d2 bo fr tr ag : Int) (K : Option Addr) (kc : Nat) (ks : List Cls) (hkc : ks.length ≤ kc) (hkm : kc ≤ maxLen) (hk : ClsAt w w.heap.size K ks)
    (X : Option Addr) (cX : Nat) (l : List JV) (hlc : l.length ≤ cX) (hlm : cX ≤ maxLen) (hX : JobsAt w X l) (hla : ∀ j ∈ l, JWf j ∧ j.af.length ≤ maxLen) :
    Calls Try.prog 9 #[.agg #[.int .i64 d0, .int .i64 d1, .int .i64 d2, .int .i64 bo, .int .i64 fr, .int .i64 tr, .int .i64 ag, .slice K ks.length kc], .slice X l.length cX] w fun e w' => e = .returned (.bool true) ∧ Below w.heap.size w w' := by
  have hlk : ks.length ≤ maxLen := Nat.le_trans hkc hkm
  have hl : l.length ≤ maxLen := Nat.le_trans hlc hlm
  by_cases h0 : (100 : Int) < (ks.length : Int)
  · exact ro_cls d0 d1 d2 bo fr tr ag K kc ks hlk X cX l hl hla h0 w hk hX
  · cases h1 : greatB l
    · by_cases hv : tableV d0 d1 d2 bo fr tr ag ks l = 0
      · exact ro_main d0 d1 d2 bo fr tr ag K kc ks hlk X cX l hl hla h0 h1 hv w hk hX
      · exact ro_bad d0 d1 d2 bo fr tr ag K kc ks hlk X cX l hl hla h0 h1 hv w hk hX
    · exact ro_great d0 d1 d2 bo fr tr ag K kc ks hlk X cX l hl hla h0 h1 w hk hX
end Go.Proofs.Ytfpljpdjohmbaaa.RankOrderLaw
