/- deps.Ready: what it answers. -/
import Derived.BigRegion
import Derived.BigQuiet
import Derived.Deep.QuietTactic
import Derived.Deep.DeepCutAuto
import Derived.Deep.RegionHeld3
import Derived.Laws.Rows
import Derived.Deep.MidRow
import Derived.Test.YtfpljpdjohmbaaaOpenJob
import Derived.Test.YtfpljpdjohmbaaaJobTable
import Derived.Test.YtfpljpdjohmbaaaDepsMath2
import Derived.Test.YtfpljpdjohmbaaaSetList
namespace Go.Proofs.Ytfpljpdjohmbaaa.DepsReady
open Go.RowKit Mem PosMath PartMath TurnMath TurnMap JobMath JobIndex JobMem JobTable JobFind DepsStates DepsSettle DepsMath DepsMath2 SetList Lay
set_option linter.unusedVariables false
set_option linter.unusedSimpArgs false

theorem range_up {w w' : World} {b o : Nat} {cs : List Value} (h : w.rangeAt b o cs) (hB : Below w.heap.size w w') : w'.rangeAt b o cs := fun i v hi => keep_cell (h i v hi) hB
theorem wait_eq (f : Int → Int) (l : List Int) : (l.any fun v => (f v != 3)) = l.any fun v => decide (f v ≠ 3) := by
  congr 1
  funext v
  by_cases h : f v = 3 <;> simp [h]
theorem wait_any (gm b m : Nat) (f : Int → Int) (x : JV) (Y : Option Addr) (cj : Nat) (hx : x.af.length ≤ 4611686018427387904) (hw : ∀ v ∈ x.af, (Lit.int .i64 v).wf = true) (w : World) (cm : w.cell? ⟨gm, 0, none⟩ = some (.map (some b))) (hS : StAt w b f m) (hY : IntsAt w Y x.af) :
    Calls Try.prog 54 #[.slice Y x.af.length cj, .func (.func 72) #[] #[.pointer (some ⟨gm, 0, none⟩)]] w fun e w' => e = .returned (.bool (x.af.any (fun v => decide (f v ≠ 3)))) ∧ Below w.heap.size w w' := by
  rw [← wait_eq]
  refine (iContainsFunc Y cj x.af (fun _ v => (f v != 3)) (fun _ w' => w' = w) 72 #[.pointer (some ⟨gm, 0, none⟩)] hx w rfl (fun k w' h => by rw [h]; exact hY) (enters_of Try.func72 (by kernel_rfl) rfl)
    (fun k v hk w' h => by
      rw [h]
      exact ready_step gm b f m v (hw v (List.mem_of_getElem? hk)) w cm hS)).mono ?_
  rintro e w1 ⟨r, rfl, hr, k, rfl⟩
  rw [hr.eq]
  exact ⟨rfl, Below.refl _ _⟩
set_option maxRecDepth 100000 in
set_option maxHeartbeats 8000000 in
theorem ready_bad (d0 d1 d2 bo fr tr ag : Int) (K : Option Addr) (kc : Nat) (ks : List Cls) (hlk : ks.length ≤ 4611686018427387904) (X : Option Addr) (cap : Nat) (l : List JV) (hl : l.length ≤ 1000) (hla : ∀ j ∈ l, j.af.length ≤ 1000) (n : Int) (hv : tableV d0 d1 d2 bo fr tr ag ks l ≠ 0) (w : World) (hk : ClsAt w w.heap.size K ks) (hX : JobsAt w X l) :
    Calls Try.prog 38 #[.agg #[.int .i64 d0, .int .i64 d1, .int .i64 d2, .int .i64 bo, .int .i64 fr, .int .i64 tr, .int .i64 ag, .slice K ks.length kc], .slice X l.length cap, .int .i64 n] w fun e w' => e = .returned (.tuple #[.bool false, .int .i64 (tableV d0 d1 d2 bo fr tr ag ks l)]) ∧ Below w.heap.size w w' := by
  have HT := Lib.hid (fun w hk hX => table_any d0 d1 d2 bo fr tr ag K kc ks hlk X cap l (by omega) (fun j hj => by have := hla j hj; omega) w hk hX)
  generalize tableV d0 d1 d2 bo fr tr ag ks l = V at *
  have HK := Lib.hid hk
  have HX := Lib.hid hX
  have hv' : (V != 0) = true := by simpa using hv
  clear hk hX hv hla
  go_enter Try.func38, Try.ntmps38
  go_upto_region 1 with fail
  have kc0 : Blk (w.alloc (.cells #[.int .i64 d0, .int .i64 d1, .int .i64 d2, .int .i64 bo, .int .i64 fr, .int .i64 tr, .int .i64 ag, .slice K ks.length kc] 26)) w.heap.size 26 #[.int .i64 d0, .int .i64 d1, .int .i64 d2, .int .i64 bo, .int .i64 fr, .int .i64 tr, .int .i64 ag, .slice K ks.length kc] := Blk.new w _ _
  have hb0 : Below w.heap.size w (w.alloc (.cells #[.int .i64 d0, .int .i64 d1, .int .i64 d2, .int .i64 bo, .int .i64 fr, .int .i64 tr, .int .i64 ag, .slice K ks.length kc] 26)) := below_alloc (Below.refl _ _)
  generalize (w.alloc (.cells #[.int .i64 d0, .int .i64 d1, .int .i64 d2, .int .i64 bo, .int .i64 fr, .int .i64 tr, .int .i64 ag, .slice K ks.length kc] 26)) = w0 at *
  have HB0 := Lib.hid hb0
  have KC0 := Lib.hid kc0
  clear hb0 kc0
  go_wp2_with (first | (refine wpList_load_row rfl 26 _ rfl _ rfl 26 #[.int .i64 d0, .int .i64 d1, .int .i64 d2, .int .i64 bo, .int .i64 fr, .int .i64 tr, .int .i64 ag, .slice K ks.length kc] (0, 0) _ KC0.out Try.underlying26 rfl (by kernel_rfl) ?_))
  refine (HT.out _ (HK.out.up HB0.out) (HX.out.up HB0.out)).mono ?_
  rintro e w1 ⟨rfl, hB1⟩
  have HB1 := Lib.hid (below_up HB0.out hB1)
  clear hB1 KC0 HB0 HT
  go_wp2_with fail
  go_ret2
  exact ⟨rfl, HB1.out⟩
set_option maxRecDepth 100000 in
set_option maxHeartbeats 8000000 in
theorem ready_none (d0 d1 d2 bo fr tr ag : Int) (K : Option Addr) (kc : Nat) (ks : List Cls) (hlk : ks.length ≤ 4611686018427387904) (X : Option Addr) (cap : Nat) (l : List JV) (hl : l.length ≤ 1000) (hla : ∀ j ∈ l, j.af.length ≤ 1000) (n : Int) (hv : tableV d0 d1 d2 bo fr tr ag ks l = 0) (hn : atV l n < 0) (w : World) (hk : ClsAt w w.heap.size K ks) (hX : JobsAt w X l) :
    Calls Try.prog 38 #[.agg #[.int .i64 d0, .int .i64 d1, .int .i64 d2, .int .i64 bo, .int .i64 fr, .int .i64 tr, .int .i64 ag, .slice K ks.length kc], .slice X l.length cap, .int .i64 n] w fun e w' => e = .returned (.tuple #[.bool false, .int .i64 6]) ∧ Below w.heap.size w w' := by
  have HT := Lib.hid (fun w hk hX => table_any d0 d1 d2 bo fr tr ag K kc ks hlk X cap l (by omega) (fun j hj => by have := hla j hj; omega) w hk hX)
  generalize tableV d0 d1 d2 bo fr tr ag ks l = V at *
  have HK := Lib.hid hk
  have HX := Lib.hid hX
  have HF := Lib.hid (fun w hX => find_any X cap l n (by omega) w hX)
  have hf : findV l n = (0, 6) := by unfold findV; rw [if_pos hn]
  rw [hf] at HF
  subst hv
  clear hk hX hla hf hn
  go_enter Try.func38, Try.ntmps38
  go_upto_region 1 with fail
  have kc0 : Blk (w.alloc (.cells #[.int .i64 d0, .int .i64 d1, .int .i64 d2, .int .i64 bo, .int .i64 fr, .int .i64 tr, .int .i64 ag, .slice K ks.length kc] 26)) w.heap.size 26 #[.int .i64 d0, .int .i64 d1, .int .i64 d2, .int .i64 bo, .int .i64 fr, .int .i64 tr, .int .i64 ag, .slice K ks.length kc] := Blk.new w _ _
  have hb0 : Below w.heap.size w (w.alloc (.cells #[.int .i64 d0, .int .i64 d1, .int .i64 d2, .int .i64 bo, .int .i64 fr, .int .i64 tr, .int .i64 ag, .slice K ks.length kc] 26)) := below_alloc (Below.refl _ _)
  generalize (w.alloc (.cells #[.int .i64 d0, .int .i64 d1, .int .i64 d2, .int .i64 bo, .int .i64 fr, .int .i64 tr, .int .i64 ag, .slice K ks.length kc] 26)) = w0 at *
  have HB0 := Lib.hid hb0
  have KC0 := Lib.hid kc0
  clear hb0 kc0
  go_wp2_with (first | (refine wpList_load_row rfl 26 _ rfl _ rfl 26 #[.int .i64 d0, .int .i64 d1, .int .i64 d2, .int .i64 bo, .int .i64 fr, .int .i64 tr, .int .i64 ag, .slice K ks.length kc] (0, 0) _ KC0.out Try.underlying26 rfl (by kernel_rfl) ?_))
  refine (HT.out _ (HK.out.up HB0.out) (HX.out.up HB0.out)).mono ?_
  rintro e w1 ⟨rfl, hB1⟩
  have HB1 := Lib.hid (below_up HB0.out hB1)
  clear hB1 KC0 HB0 HT
  go_wp2_with fail
  refine (HF.out _ (HX.out.up HB1.out)).mono ?_
  rintro e w2 ⟨rfl, hB2⟩
  have HB2 := Lib.hid (below_up HB1.out hB2)
  clear hB2
  go_wp2_with fail
  go_ret2
  exact ⟨rfl, HB2.out⟩
set_option maxRecDepth 100000 in
set_option maxHeartbeats 8000000 in
theorem ready_ok (d0 d1 d2 bo fr tr ag : Int) (K : Option Addr) (kc : Nat) (ks : List Cls) (hlk : ks.length ≤ 4611686018427387904) (X : Option Addr) (cap : Nat) (l : List JV) (hl : l.length ≤ 1000) (hla : ∀ j ∈ l, j.af.length ≤ 1000) (n : Int) (hw : ∀ j ∈ l, JWf j) (hv : tableV d0 d1 d2 bo fr tr ag ks l = 0) (k : Nat) (j : JV) (hn : atV l n = k) (hj : l[k]? = some j) (w : World) (hk : ClsAt w w.heap.size K ks) (hX : JobsAt w X l) :
    Calls Try.prog 38 #[.agg #[.int .i64 d0, .int .i64 d1, .int .i64 d2, .int .i64 bo, .int .i64 fr, .int .i64 tr, .int .i64 ag, .slice K ks.length kc], .slice X l.length cap, .int .i64 n] w fun e w' => e = .returned (.tuple #[.bool (readyV l j), .int .i64 0]) ∧ Below w.heap.size w w' := by
  have HT := Lib.hid (fun w hk hX => table_any d0 d1 d2 bo fr tr ag K kc ks hlk X cap l (by omega) (fun j hj => by have := hla j hj; omega) w hk hX)
  generalize tableV d0 d1 d2 bo fr tr ag ks l = V at *
  have HK := Lib.hid hk
  have HX := Lib.hid hX
  have HF := Lib.hid (fun w hX => find_any X cap l n (by omega) w hX)
  have hf : findV l n = ((k : Int), 0) := by unfold findV; rw [hn, if_neg (by omega)]
  rw [hf] at HF
  subst hv
  have hjm := List.mem_of_getElem? hj
  have hkl := (List.getElem?_eq_some_iff.1 hj).1
  have HST := Lib.hid (fun w hX => states_any X cap l hl (fun j hj => ⟨(hw j hj).1, (hw j hj).2.2.2.2.2.2.1⟩) w hX)
  have hja := hla j hjm
  have hjw := (hw j hjm).2.2.2.2.2.2.2.2
  have hki : (k : Int) < (l.length : Int) := by omega
  have hki0 : (0 : Int) ≤ (k : Int) := by omega
  have HJ := Lib.hid (And.intro hj (And.intro (show j.af.length ≤ 4611686018427387904 by omega) hjw))
  have hrd : readyV l j = ((j.st == 1) && !j.he && !(j.af.any fun v => decide (stOf l v ≠ 3))) := by unfold readyV; rfl
  obtain ⟨R, hR⟩ : ∃ R, R = readyV l j := ⟨_, rfl⟩
  rw [← hR]
  rw [hrd] at hR
  have HRV := Lib.hid hR
  clear hk hX hla hw hf hn hj hjm hja hjw hrd hR
  go_enter Try.func38, Try.ntmps38
  go_upto_region 1 with fail
  have kc0 : Blk (w.alloc (.cells #[.int .i64 d0, .int .i64 d1, .int .i64 d2, .int .i64 bo, .int .i64 fr, .int .i64 tr, .int .i64 ag, .slice K ks.length kc] 26)) w.heap.size 26 #[.int .i64 d0, .int .i64 d1, .int .i64 d2, .int .i64 bo, .int .i64 fr, .int .i64 tr, .int .i64 ag, .slice K ks.length kc] := Blk.new w _ _
  have hb0 : Below w.heap.size w (w.alloc (.cells #[.int .i64 d0, .int .i64 d1, .int .i64 d2, .int .i64 bo, .int .i64 fr, .int .i64 tr, .int .i64 ag, .slice K ks.length kc] 26)) := below_alloc (Below.refl _ _)
  generalize (w.alloc (.cells #[.int .i64 d0, .int .i64 d1, .int .i64 d2, .int .i64 bo, .int .i64 fr, .int .i64 tr, .int .i64 ag, .slice K ks.length kc] 26)) = w0 at *
  have HB0 := Lib.hid hb0
  have KC0 := Lib.hid kc0
  clear hb0 kc0
  go_wp2_with (first | (refine wpList_load_row rfl 26 _ rfl _ rfl 26 #[.int .i64 d0, .int .i64 d1, .int .i64 d2, .int .i64 bo, .int .i64 fr, .int .i64 tr, .int .i64 ag, .slice K ks.length kc] (0, 0) _ KC0.out Try.underlying26 rfl (by kernel_rfl) ?_))
  refine (HT.out _ (HK.out.up HB0.out) (HX.out.up HB0.out)).mono ?_
  rintro e w1 ⟨rfl, hB1⟩
  have HB1 := Lib.hid (below_up HB0.out hB1)
  clear hB1 KC0 HB0 HT
  go_wp2_with fail
  refine (HF.out _ (HX.out.up HB1.out)).mono ?_
  rintro e w2 ⟨rfl, hB2⟩
  have HB2 := Lib.hid (below_up HB1.out hB2)
  have HX2 := Lib.hid (HX.out.up HB2.out)
  clear hB2 HB1 HX HF
  obtain ⟨b, o, Y, cj, hXe, hb, hJ, hY⟩ := HX2.out k j HJ.out.1
  subst hXe
  have HY := Lib.hid hY
  have HR := Lib.hid hJ.range
  clear hY hb hJ
  go_upto_region 7 with fail
  go_cut [11, 12] (fun s11 s12 wx => ∃ gm gj bm : Nat, s11 = .pointer (some ⟨gm, 0, none⟩) ∧ s12 = .pointer (some ⟨gj, 0, none⟩) ∧ Hid (Below w2.heap.size w2 wx) ∧ Hid (Blk wx gm 94 #[.map (some bm)]) ∧ Hid (Blk wx gj 33 #[.int .i64 j.id, .int .i64 j.us, .int .i64 j.cl, .int .i64 j.x.a, .int .i64 j.x.b, .int .i64 j.x.c, .bool j.x.p, .bool j.x.q, .bool j.x.r, .bool j.x.tn, .int .i64 j.wa, .int .i64 j.pr, .bool j.he, .slice Y j.af.length cj, .int .u8 j.st, .int .i64 j.ca]) ∧ Hid (StAt wx bm (stOf l) l.length))
  case first =>
    have K2 : Below w2.heap.size w2 w2 := Below.refl _ _
    refine wp_region_noPanic ?_
    refine wp_region_held_drew (S := (fun W => Below w2.heap.size w2 W)) (by kernel_rfl) ?_ (fun hHeld => ?_)
    · exact K2.drew
    refine' wpAnyH_take (i := 0) (v := ?v1) rfl (by kernel_rfl) (by kernel_rfl) (by kernel_rfl) (fun _ _ _ h => h) (Or.inl ⟨by rfl, ?y1⟩) (by assumption) ?r1
    case y1 => (intro w hSw; (try dsimp only at hSw); go_simp; try with_reducible rfl)
    (try simp only [Act.put, List.setIfInBounds_toArray, List.set_cons_zero, List.set_cons_succ])
    refine' wpAnyH_take (i := 2) (v := ?v2) rfl (by kernel_rfl) (by kernel_rfl) (by kernel_rfl) (fun _ _ _ h => h) (Or.inl ⟨by rfl, ?y2⟩) (by assumption) ?r2
    case y2 => (intro w hSw; (try dsimp only at hSw); go_simp; try with_reducible rfl)
    (try simp only [Act.put, List.setIfInBounds_toArray, List.set_cons_zero, List.set_cons_succ])
    refine' wpAnyH_take (i := 3) (v := ?v3) rfl (by kernel_rfl) (by kernel_rfl) (by kernel_rfl) (fun _ _ _ h => h) (Or.inl ⟨by rfl, ?y3⟩) (by assumption) ?r3
    case y3 => (intro w hSw; (try dsimp only at hSw); go_simp; try with_reducible rfl)
    (try simp only [Act.put, List.setIfInBounds_toArray, List.set_cons_zero, List.set_cons_succ])
    refine' wpAnyH_take (i := 4) (v := ?v4) rfl (by kernel_rfl) (by kernel_rfl) (by kernel_rfl) (fun _ _ _ h => h) (Or.inl ⟨by rfl, ?y4⟩) (by assumption) ?r4
    case y4 => (intro w hSw; (try dsimp only at hSw); go_simp; try with_reducible rfl)
    (try simp only [Act.put, List.setIfInBounds_toArray, List.set_cons_zero, List.set_cons_succ])
    refine' wpAnyH_take (i := 5) (v := _) rfl (by kernel_rfl) (by kernel_rfl) (by kernel_rfl) (fun _ _ _ h => h) (yieldsIf_load_mid (by rfl) _ _ rfl _ _ rfl [.int .i64 j.id, .int .i64 j.us, .int .i64 j.cl, .int .i64 j.x.a, .int .i64 j.x.b, .int .i64 j.x.c, .bool j.x.p, .bool j.x.q, .bool j.x.r, .bool j.x.tn, .int .i64 j.wa, .int .i64 j.pr, .bool j.he, .slice Y j.af.length cj, .int .u8 j.st, .int .i64 j.ca] _ (fun W hW => range_up HR.out hW) Try.underlying33 rfl (by kernel_rfl)) (by assumption) ?r5
    (try simp only [Act.put, List.setIfInBounds_toArray, List.set_cons_zero, List.set_cons_succ])
    refine wpAnyH_ready (rs := [1, 6, 7]) (by kernel_rfl) (by simp) ?_
    refine AllReadyH.cons (i := 1) rfl (fun K hK => ?_) ?_
    · go_simp
      refine (HST.out _ (HX2.out.up K2.drew)).mono ?_
      rintro e w3 ⟨bm, rfl, hbm, hS, hB3⟩
      have KB : Below w2.heap.size w2 w3 := below_up K2.drew hB3
      have hbl := StAt.lt hS
      have hsz := hB3.size
      simp only [World.size_alloc, World.size_drew] at hbm hsz
      have HQ := Lib.hid (And.intro hbm (And.intro hbl hsz))
      have HS := Lib.hid hS
      clear hbm hS hB3 hbl hsz
      (try dsimp only)
      refine hK.out _ _ ?_ (fun hHeld => ?_)
      · exact KB
      clear hK K
      (try simp only [Act.put, List.setIfInBounds_toArray, List.set_cons_zero, List.set_cons_succ])
      refine wpAnyH_ready (rs := [6, 7]) (by kernel_rfl) (by simp) ?_
      refine AllReadyH.cons (i := 6) rfl (fun K hK => ?_) ?_
      · go_simp
        refine hK.out _ _ ?_ (fun hHeld => ?_)
        · exact (below_alloc KB)
        clear hK K
        (try simp only [Act.put, List.setIfInBounds_toArray, List.set_cons_zero, List.set_cons_succ])
        refine wpAnyH_ready (rs := [7]) (by kernel_rfl) (by simp) ?_
        refine AllReadyH.cons (i := 7) rfl (fun K hK => ?_) ?_
        · go_simp
          refine hK.out _ _ ?_ (fun hHeld => ?_)
          · exact (below_alloc (below_alloc KB))
          clear hK K
          (try simp only [Act.put, List.setIfInBounds_toArray, List.set_cons_zero, List.set_cons_succ])
          refine wpAnyH_ready (rs := [8]) (by kernel_rfl) (by simp) ?_
          refine AllReadyH.cons (i := 8) rfl (fun K hK => ?_) ?_
          · go_simp
            refine hK.out _ _ ?_ (fun hHeld => ?_)
            · exact (below_alloc (below_alloc KB))
            clear hK K
            (try simp only [Act.put, List.setIfInBounds_toArray, List.set_cons_zero, List.set_cons_succ])
            refine wpAnyH_ready (rs := [9]) (by kernel_rfl) (by simp) ?_
            refine AllReadyH.cons (i := 9) rfl (fun K hK => ?_) ?_
            · rw [if_pos (by rfl)]
              refine wp_store_mid _ _ _ rfl (w3.heap.size + 1) 0 (List.toArray [.int .i64 j.id, .int .i64 j.us, .int .i64 j.cl, .int .i64 j.x.a, .int .i64 j.x.b, .int .i64 j.x.c, .bool j.x.p, .bool j.x.q, .bool j.x.r, .bool j.x.tn, .int .i64 j.wa, .int .i64 j.pr, .bool j.he, .slice Y j.af.length cj, .int .u8 j.st, .int .i64 j.ca]) rfl rfl (there_of (blk1 _ _ _) rfl) (by kernel_rfl) (by kernel_rfl) ?_
              simp only [Act.put, List.setIfInBounds_toArray, List.set_cons_zero, List.set_cons_succ, List.toList_toArray]
              have hq := HQ.out
              refine hK.out _ _ ?_ (fun hHeld => ?_)
              · exact below_sets (by omega) (below_alloc (below_alloc KB))
              clear hK K
              (try simp only [Act.put, List.setIfInBounds_toArray, List.set_cons_zero, List.set_cons_succ])
              refine wpAnyH_done (by kernel_rfl) ?_ _
              refine NoPanic.normal ?_
              go_wp2_with fail
              go_meet
              have hq := HQ.out
              exact ⟨_, _, bm, rfl, rfl, below_sets (by omega) (below_alloc (below_alloc KB)), blk_sets_far (by omega) ((Blk.new _ _ _).alloc _), blk_sets0 (blk1 _ _ _) rfl, st_sets_far (by omega) (StAt.up HS.out (below_alloc (below_alloc (Below.refl _ _))))⟩
            exact AllReadyH.nil
          exact AllReadyH.nil
        exact AllReadyH.nil
      refine AllReadyH.cons (i := 7) rfl (fun K hK => ?_) ?_
      · go_simp
        refine hK.out _ _ ?_ (fun hHeld => ?_)
        · exact (below_alloc KB)
        clear hK K
        (try simp only [Act.put, List.setIfInBounds_toArray, List.set_cons_zero, List.set_cons_succ])
        refine wpAnyH_ready (rs := [6]) (by kernel_rfl) (by simp) ?_
        refine AllReadyH.cons (i := 6) rfl (fun K hK => ?_) ?_
        · go_simp
          refine hK.out _ _ ?_ (fun hHeld => ?_)
          · exact (below_alloc (below_alloc KB))
          clear hK K
          (try simp only [Act.put, List.setIfInBounds_toArray, List.set_cons_zero, List.set_cons_succ])
          refine wpAnyH_ready (rs := [8]) (by kernel_rfl) (by simp) ?_
          refine AllReadyH.cons (i := 8) rfl (fun K hK => ?_) ?_
          · go_simp
            refine hK.out _ _ ?_ (fun hHeld => ?_)
            · exact (below_alloc (below_alloc KB))
            clear hK K
            (try simp only [Act.put, List.setIfInBounds_toArray, List.set_cons_zero, List.set_cons_succ])
            refine wpAnyH_ready (rs := [9]) (by kernel_rfl) (by simp) ?_
            refine AllReadyH.cons (i := 9) rfl (fun K hK => ?_) ?_
            · rw [if_pos (by rfl)]
              refine wp_store_mid _ _ _ rfl (w3.heap.size) 0 (List.toArray [.int .i64 j.id, .int .i64 j.us, .int .i64 j.cl, .int .i64 j.x.a, .int .i64 j.x.b, .int .i64 j.x.c, .bool j.x.p, .bool j.x.q, .bool j.x.r, .bool j.x.tn, .int .i64 j.wa, .int .i64 j.pr, .bool j.he, .slice Y j.af.length cj, .int .u8 j.st, .int .i64 j.ca]) rfl rfl (there_of ((Blk.new _ _ _).alloc _) rfl) (by kernel_rfl) (by kernel_rfl) ?_
              simp only [Act.put, List.setIfInBounds_toArray, List.set_cons_zero, List.set_cons_succ, List.toList_toArray]
              have hq := HQ.out
              refine hK.out _ _ ?_ (fun hHeld => ?_)
              · exact below_sets (by omega) (below_alloc (below_alloc KB))
              clear hK K
              (try simp only [Act.put, List.setIfInBounds_toArray, List.set_cons_zero, List.set_cons_succ])
              refine wpAnyH_done (by kernel_rfl) ?_ _
              refine NoPanic.normal ?_
              go_wp2_with fail
              go_meet
              have hq := HQ.out
              exact ⟨_, _, bm, rfl, rfl, below_sets (by omega) (below_alloc (below_alloc KB)), blk_sets_far (by omega) (blk1 _ _ _), blk_sets0 ((Blk.new _ _ _).alloc _) rfl, st_sets_far (by omega) (StAt.up HS.out (below_alloc (below_alloc (Below.refl _ _))))⟩
            exact AllReadyH.nil
          exact AllReadyH.nil
        exact AllReadyH.nil
      exact AllReadyH.nil
    refine AllReadyH.cons (i := 6) rfl (fun K hK => ?_) ?_
    · go_simp
      refine hK.out _ _ ?_ (fun hHeld => ?_)
      · exact (below_alloc K2).drew
      clear hK K
      (try simp only [Act.put, List.setIfInBounds_toArray, List.set_cons_zero, List.set_cons_succ])
      refine wpAnyH_ready (rs := [1, 7]) (by kernel_rfl) (by simp) ?_
      refine AllReadyH.cons (i := 1) rfl (fun K hK => ?_) ?_
      · go_simp
        refine (HST.out _ (HX2.out.up (below_alloc K2).drew)).mono ?_
        rintro e w3 ⟨bm, rfl, hbm, hS, hB3⟩
        have KB : Below w2.heap.size w2 w3 := below_up (below_alloc K2).drew hB3
        have hbl := StAt.lt hS
        have hsz := hB3.size
        simp only [World.size_alloc, World.size_drew] at hbm hsz
        have kM : Blk w3 (w2.heap.size) 94 #[.map none] := Blk.below (Blk.new w2 _ _).drew hB3 (Blk.lt (Blk.new w2 _ _).drew)
        have yM : w3.cell? ⟨w2.heap.size, 0, none⟩ = some (.map none) := kM.cell 0
        have fM : w3.frozen? ⟨w2.heap.size, 0, none⟩ = false := kM.frozen 0
        have zM : w2.heap.size < w3.heap.size := Blk.lt kM
        have KM := Lib.hid kM
        clear kM
        have HQ := Lib.hid (And.intro hbm (And.intro hbl hsz))
        have HS := Lib.hid hS
        clear hbm hS hB3 hbl hsz
        (try dsimp only)
        refine hK.out _ _ ?_ (fun hHeld => ?_)
        · exact KB
        clear hK K
        (try simp only [Act.put, List.setIfInBounds_toArray, List.set_cons_zero, List.set_cons_succ])
        refine wpAnyH_ready (rs := [7]) (by kernel_rfl) (by simp) ?_
        refine AllReadyH.cons (i := 7) rfl (fun K hK => ?_) ?_
        · go_simp
          refine hK.out _ _ ?_ (fun hHeld => ?_)
          · exact (below_alloc KB)
          clear hK K
          (try simp only [Act.put, List.setIfInBounds_toArray, List.set_cons_zero, List.set_cons_succ])
          refine wpAnyH_ready (rs := [8]) (by kernel_rfl) (by simp) ?_
          refine AllReadyH.cons (i := 8) rfl (fun K hK => ?_) ?_
          · go_simp
            refine hK.out _ _ ?_ (fun hHeld => ?_)
            · exact (below_alloc (below_set1 (Nat.le_refl _) KB))
            clear hK K
            (try simp only [Act.put, List.setIfInBounds_toArray, List.set_cons_zero, List.set_cons_succ])
            refine wpAnyH_ready (rs := [9]) (by kernel_rfl) (by simp) ?_
            refine AllReadyH.cons (i := 9) rfl (fun K hK => ?_) ?_
            · rw [if_pos (by rfl)]
              refine wp_store_mid _ _ _ rfl (w3.heap.size) 0 (List.toArray [.int .i64 j.id, .int .i64 j.us, .int .i64 j.cl, .int .i64 j.x.a, .int .i64 j.x.b, .int .i64 j.x.c, .bool j.x.p, .bool j.x.q, .bool j.x.r, .bool j.x.tn, .int .i64 j.wa, .int .i64 j.pr, .bool j.he, .slice Y j.af.length cj, .int .u8 j.st, .int .i64 j.ca]) rfl rfl (there_of (blk_new_of (World.size_setCell ..) _ _) rfl) (by kernel_rfl) (by kernel_rfl) ?_
              simp only [Act.put, List.setIfInBounds_toArray, List.set_cons_zero, List.set_cons_succ, List.toList_toArray]
              have hq := HQ.out
              refine hK.out _ _ ?_ (fun hHeld => ?_)
              · exact below_sets (by omega) (below_alloc (below_set1 (Nat.le_refl _) KB))
              clear hK K
              (try simp only [Act.put, List.setIfInBounds_toArray, List.set_cons_zero, List.set_cons_succ])
              refine wpAnyH_done (by kernel_rfl) ?_ _
              refine NoPanic.normal ?_
              go_wp2_with fail
              go_meet
              have hq := HQ.out
              exact ⟨_, _, bm, rfl, rfl, below_sets (by omega) (below_alloc (below_set1 (Nat.le_refl _) KB)), blk_sets_far (by omega) ((show Blk _ _ _ #[.map (some bm)] from KM.out.set_ 0 _).alloc _), blk_sets0 (blk_new_of (World.size_setCell ..) _ _) rfl, st_sets_far (by omega) (StAt.up (HS.out.far (p := ⟨w2.heap.size, 0, none⟩) (by show bm ≠ w2.heap.size; omega) (.map (some bm))) (below_alloc (Below.refl _ _)))⟩
            exact AllReadyH.nil
          exact AllReadyH.nil
        exact AllReadyH.nil
      refine AllReadyH.cons (i := 7) rfl (fun K hK => ?_) ?_
      · go_simp
        refine hK.out _ _ ?_ (fun hHeld => ?_)
        · exact (below_alloc (below_alloc K2)).drew
        clear hK K
        (try simp only [Act.put, List.setIfInBounds_toArray, List.set_cons_zero, List.set_cons_succ])
        refine wpAnyH_ready (rs := [1]) (by kernel_rfl) (by simp) ?_
        refine AllReadyH.cons (i := 1) rfl (fun K hK => ?_) ?_
        · go_simp
          refine (HST.out _ (HX2.out.up (below_alloc (below_alloc K2)).drew)).mono ?_
          rintro e w3 ⟨bm, rfl, hbm, hS, hB3⟩
          have KB : Below w2.heap.size w2 w3 := below_up (below_alloc (below_alloc K2)).drew hB3
          have hbl := StAt.lt hS
          have hsz := hB3.size
          simp only [World.size_alloc, World.size_drew] at hbm hsz
          have kM : Blk w3 (w2.heap.size) 94 #[.map none] := Blk.below ((Blk.new w2 _ _).alloc _).drew hB3 (Blk.lt ((Blk.new w2 _ _).alloc _).drew)
          have yM : w3.cell? ⟨w2.heap.size, 0, none⟩ = some (.map none) := kM.cell 0
          have fM : w3.frozen? ⟨w2.heap.size, 0, none⟩ = false := kM.frozen 0
          have zM : w2.heap.size < w3.heap.size := Blk.lt kM
          have KM := Lib.hid kM
          clear kM
          have kZ : Blk w3 (w2.heap.size + 1) 33 #[.int .i64 0, .int .i64 0, .int .i64 0, .int .i64 0, .int .i64 0, .int .i64 0, .bool false, .bool false, .bool false, .bool false, .int .i64 0, .int .i64 0, .bool false, .slice none 0 0, .int .u8 0, .int .i64 0] := Blk.below (blk1 w2 _ _).drew hB3 (Blk.lt (blk1 w2 _ _).drew)
          have KZ := Lib.hid kZ
          clear kZ
          have HQ := Lib.hid (And.intro hbm (And.intro hbl hsz))
          have HS := Lib.hid hS
          clear hbm hS hB3 hbl hsz
          (try dsimp only)
          refine hK.out _ _ ?_ (fun hHeld => ?_)
          · exact KB
          clear hK K
          (try simp only [Act.put, List.setIfInBounds_toArray, List.set_cons_zero, List.set_cons_succ])
          refine wpAnyH_ready (rs := [8]) (by kernel_rfl) (by simp) ?_
          refine AllReadyH.cons (i := 8) rfl (fun K hK => ?_) ?_
          · go_simp
            refine hK.out _ _ ?_ (fun hHeld => ?_)
            · exact (below_set1 (Nat.le_refl _) KB)
            clear hK K
            (try simp only [Act.put, List.setIfInBounds_toArray, List.set_cons_zero, List.set_cons_succ])
            refine wpAnyH_ready (rs := [9]) (by kernel_rfl) (by simp) ?_
            refine AllReadyH.cons (i := 9) rfl (fun K hK => ?_) ?_
            · rw [if_pos (by rfl)]
              refine wp_store_mid _ _ _ rfl (w2.heap.size + 1) 0 (List.toArray [.int .i64 j.id, .int .i64 j.us, .int .i64 j.cl, .int .i64 j.x.a, .int .i64 j.x.b, .int .i64 j.x.c, .bool j.x.p, .bool j.x.q, .bool j.x.r, .bool j.x.tn, .int .i64 j.wa, .int .i64 j.pr, .bool j.he, .slice Y j.af.length cj, .int .u8 j.st, .int .i64 j.ca]) rfl rfl (there_of (KZ.out.far (p := ⟨w2.heap.size, 0, none⟩) (by show w2.heap.size + 1 ≠ w2.heap.size; omega) (.map (some bm))) rfl) (by kernel_rfl) (by kernel_rfl) ?_
              simp only [Act.put, List.setIfInBounds_toArray, List.set_cons_zero, List.set_cons_succ, List.toList_toArray]
              have hq := HQ.out
              refine hK.out _ _ ?_ (fun hHeld => ?_)
              · exact below_sets (Nat.le_add_right _ _) (below_set1 (Nat.le_refl _) KB)
              clear hK K
              (try simp only [Act.put, List.setIfInBounds_toArray, List.set_cons_zero, List.set_cons_succ])
              refine wpAnyH_done (by kernel_rfl) ?_ _
              refine NoPanic.normal ?_
              go_wp2_with fail
              go_meet
              have hq := HQ.out
              exact ⟨_, _, bm, rfl, rfl, below_sets (Nat.le_add_right _ _) (below_set1 (Nat.le_refl _) KB), blk_sets_far (by omega) (show Blk _ _ _ #[.map (some bm)] from KM.out.set_ 0 _), blk_sets0 (KZ.out.far (p := ⟨w2.heap.size, 0, none⟩) (by show w2.heap.size + 1 ≠ w2.heap.size; omega) (.map (some bm))) rfl, st_sets_far (by omega) (HS.out.far (p := ⟨w2.heap.size, 0, none⟩) (by show bm ≠ w2.heap.size; omega) (.map (some bm)))⟩
            exact AllReadyH.nil
          exact AllReadyH.nil
        exact AllReadyH.nil
      exact AllReadyH.nil
    refine AllReadyH.cons (i := 7) rfl (fun K hK => ?_) ?_
    · go_simp
      refine hK.out _ _ ?_ (fun hHeld => ?_)
      · exact (below_alloc K2).drew
      clear hK K
      (try simp only [Act.put, List.setIfInBounds_toArray, List.set_cons_zero, List.set_cons_succ])
      refine wpAnyH_ready (rs := [1, 6]) (by kernel_rfl) (by simp) ?_
      refine AllReadyH.cons (i := 1) rfl (fun K hK => ?_) ?_
      · go_simp
        refine (HST.out _ (HX2.out.up (below_alloc K2).drew)).mono ?_
        rintro e w3 ⟨bm, rfl, hbm, hS, hB3⟩
        have KB : Below w2.heap.size w2 w3 := below_up (below_alloc K2).drew hB3
        have hbl := StAt.lt hS
        have hsz := hB3.size
        simp only [World.size_alloc, World.size_drew] at hbm hsz
        have kZ : Blk w3 (w2.heap.size) 33 #[.int .i64 0, .int .i64 0, .int .i64 0, .int .i64 0, .int .i64 0, .int .i64 0, .bool false, .bool false, .bool false, .bool false, .int .i64 0, .int .i64 0, .bool false, .slice none 0 0, .int .u8 0, .int .i64 0] := Blk.below (Blk.new w2 _ _).drew hB3 (Blk.lt (Blk.new w2 _ _).drew)
        have KZ := Lib.hid kZ
        clear kZ
        have HQ := Lib.hid (And.intro hbm (And.intro hbl hsz))
        have HS := Lib.hid hS
        clear hbm hS hB3 hbl hsz
        (try dsimp only)
        refine hK.out _ _ ?_ (fun hHeld => ?_)
        · exact KB
        clear hK K
        (try simp only [Act.put, List.setIfInBounds_toArray, List.set_cons_zero, List.set_cons_succ])
        refine wpAnyH_ready (rs := [6]) (by kernel_rfl) (by simp) ?_
        refine AllReadyH.cons (i := 6) rfl (fun K hK => ?_) ?_
        · go_simp
          refine hK.out _ _ ?_ (fun hHeld => ?_)
          · exact (below_alloc KB)
          clear hK K
          (try simp only [Act.put, List.setIfInBounds_toArray, List.set_cons_zero, List.set_cons_succ])
          refine wpAnyH_ready (rs := [8]) (by kernel_rfl) (by simp) ?_
          refine AllReadyH.cons (i := 8) rfl (fun K hK => ?_) ?_
          · go_simp
            refine hK.out _ _ ?_ (fun hHeld => ?_)
            · exact (below_alloc KB)
            clear hK K
            (try simp only [Act.put, List.setIfInBounds_toArray, List.set_cons_zero, List.set_cons_succ])
            refine wpAnyH_ready (rs := [9]) (by kernel_rfl) (by simp) ?_
            refine AllReadyH.cons (i := 9) rfl (fun K hK => ?_) ?_
            · rw [if_pos (by rfl)]
              refine wp_store_mid _ _ _ rfl (w2.heap.size) 0 (List.toArray [.int .i64 j.id, .int .i64 j.us, .int .i64 j.cl, .int .i64 j.x.a, .int .i64 j.x.b, .int .i64 j.x.c, .bool j.x.p, .bool j.x.q, .bool j.x.r, .bool j.x.tn, .int .i64 j.wa, .int .i64 j.pr, .bool j.he, .slice Y j.af.length cj, .int .u8 j.st, .int .i64 j.ca]) rfl rfl (there_of (KZ.out.alloc _) rfl) (by kernel_rfl) (by kernel_rfl) ?_
              simp only [Act.put, List.setIfInBounds_toArray, List.set_cons_zero, List.set_cons_succ, List.toList_toArray]
              have hq := HQ.out
              refine hK.out _ _ ?_ (fun hHeld => ?_)
              · exact below_sets (Nat.le_refl _) (below_alloc KB)
              clear hK K
              (try simp only [Act.put, List.setIfInBounds_toArray, List.set_cons_zero, List.set_cons_succ])
              refine wpAnyH_done (by kernel_rfl) ?_ _
              refine NoPanic.normal ?_
              go_wp2_with fail
              go_meet
              have hq := HQ.out
              exact ⟨_, _, bm, rfl, rfl, below_sets (Nat.le_refl _) (below_alloc KB), blk_sets_far (by omega) (Blk.new _ _ _), blk_sets0 (KZ.out.alloc _) rfl, st_sets_far (by omega) (StAt.up HS.out (below_alloc (Below.refl _ _)))⟩
            exact AllReadyH.nil
          exact AllReadyH.nil
        exact AllReadyH.nil
      refine AllReadyH.cons (i := 6) rfl (fun K hK => ?_) ?_
      · go_simp
        refine hK.out _ _ ?_ (fun hHeld => ?_)
        · exact (below_alloc (below_alloc K2)).drew
        clear hK K
        (try simp only [Act.put, List.setIfInBounds_toArray, List.set_cons_zero, List.set_cons_succ])
        refine wpAnyH_ready (rs := [1]) (by kernel_rfl) (by simp) ?_
        refine AllReadyH.cons (i := 1) rfl (fun K hK => ?_) ?_
        · go_simp
          refine (HST.out _ (HX2.out.up (below_alloc (below_alloc K2)).drew)).mono ?_
          rintro e w3 ⟨bm, rfl, hbm, hS, hB3⟩
          have KB : Below w2.heap.size w2 w3 := below_up (below_alloc (below_alloc K2)).drew hB3
          have hbl := StAt.lt hS
          have hsz := hB3.size
          simp only [World.size_alloc, World.size_drew] at hbm hsz
          have kZ : Blk w3 (w2.heap.size) 33 #[.int .i64 0, .int .i64 0, .int .i64 0, .int .i64 0, .int .i64 0, .int .i64 0, .bool false, .bool false, .bool false, .bool false, .int .i64 0, .int .i64 0, .bool false, .slice none 0 0, .int .u8 0, .int .i64 0] := Blk.below ((Blk.new w2 _ _).alloc _).drew hB3 (Blk.lt ((Blk.new w2 _ _).alloc _).drew)
          have KZ := Lib.hid kZ
          clear kZ
          have kM : Blk w3 (w2.heap.size + 1) 94 #[.map none] := Blk.below (blk1 w2 _ _).drew hB3 (Blk.lt (blk1 w2 _ _).drew)
          have yM : w3.cell? ⟨w2.heap.size + 1, 0, none⟩ = some (.map none) := kM.cell 0
          have fM : w3.frozen? ⟨w2.heap.size + 1, 0, none⟩ = false := kM.frozen 0
          have zM : w2.heap.size + 1 < w3.heap.size := Blk.lt kM
          have KM := Lib.hid kM
          clear kM
          have HQ := Lib.hid (And.intro hbm (And.intro hbl hsz))
          have HS := Lib.hid hS
          clear hbm hS hB3 hbl hsz
          (try dsimp only)
          refine hK.out _ _ ?_ (fun hHeld => ?_)
          · exact KB
          clear hK K
          (try simp only [Act.put, List.setIfInBounds_toArray, List.set_cons_zero, List.set_cons_succ])
          refine wpAnyH_ready (rs := [8]) (by kernel_rfl) (by simp) ?_
          refine AllReadyH.cons (i := 8) rfl (fun K hK => ?_) ?_
          · go_simp
            refine hK.out _ _ ?_ (fun hHeld => ?_)
            · exact (below_set1 (Nat.le_add_right _ _) KB)
            clear hK K
            (try simp only [Act.put, List.setIfInBounds_toArray, List.set_cons_zero, List.set_cons_succ])
            refine wpAnyH_ready (rs := [9]) (by kernel_rfl) (by simp) ?_
            refine AllReadyH.cons (i := 9) rfl (fun K hK => ?_) ?_
            · rw [if_pos (by rfl)]
              refine wp_store_mid _ _ _ rfl (w2.heap.size) 0 (List.toArray [.int .i64 j.id, .int .i64 j.us, .int .i64 j.cl, .int .i64 j.x.a, .int .i64 j.x.b, .int .i64 j.x.c, .bool j.x.p, .bool j.x.q, .bool j.x.r, .bool j.x.tn, .int .i64 j.wa, .int .i64 j.pr, .bool j.he, .slice Y j.af.length cj, .int .u8 j.st, .int .i64 j.ca]) rfl rfl (there_of (KZ.out.far (p := ⟨w2.heap.size + 1, 0, none⟩) (by show w2.heap.size ≠ w2.heap.size + 1; omega) (.map (some bm))) rfl) (by kernel_rfl) (by kernel_rfl) ?_
              simp only [Act.put, List.setIfInBounds_toArray, List.set_cons_zero, List.set_cons_succ, List.toList_toArray]
              have hq := HQ.out
              refine hK.out _ _ ?_ (fun hHeld => ?_)
              · exact below_sets (Nat.le_refl _) (below_set1 (Nat.le_add_right _ _) KB)
              clear hK K
              (try simp only [Act.put, List.setIfInBounds_toArray, List.set_cons_zero, List.set_cons_succ])
              refine wpAnyH_done (by kernel_rfl) ?_ _
              refine NoPanic.normal ?_
              go_wp2_with fail
              go_meet
              have hq := HQ.out
              exact ⟨_, _, bm, rfl, rfl, below_sets (Nat.le_refl _) (below_set1 (Nat.le_add_right _ _) KB), blk_sets_far (by omega) (show Blk _ _ _ #[.map (some bm)] from KM.out.set_ 0 _), blk_sets0 (KZ.out.far (p := ⟨w2.heap.size + 1, 0, none⟩) (by show w2.heap.size ≠ w2.heap.size + 1; omega) (.map (some bm))) rfl, st_sets_far (by omega) (HS.out.far (p := ⟨w2.heap.size + 1, 0, none⟩) (by show bm ≠ w2.heap.size + 1; omega) (.map (some bm)))⟩
            exact AllReadyH.nil
          exact AllReadyH.nil
        exact AllReadyH.nil
      exact AllReadyH.nil
    exact AllReadyH.nil
  case rest =>
    obtain ⟨gm, gj, bm, rfl, rfl, hB, hM, hJ, hS⟩ := hcut
    have HI := Lib.hid (HY.out.up hB.out)
    have x13 : wc.cell? ⟨gj, 13, none⟩ = some (.slice Y j.af.length cj) := hJ.out.cell 13
    go_wp2_with fail
    refine (wait_any gm bm _ (stOf l) j Y cj HJ.out.2.1 HJ.out.2.2 wc (hM.out.cell 0) hS.out HI.out).mono ?_
    rintro e w4 ⟨rfl, hB4⟩
    have HB4 := Lib.hid (below_up (below_up HB2.out hB.out) hB4)
    have kj := hJ.out.below hB4 hJ.out.lt
    have x14 : w4.cell? ⟨gj, 14, none⟩ = some (.int .u8 j.st) := kj.cell 14
    have x12 : w4.cell? ⟨gj, 12, none⟩ = some (.bool j.he) := kj.cell 12
    clear hB4 hB hM hJ hS kj x13 HI
    generalize hBe : (j.af.any fun v => decide (stOf l v ≠ 3)) = B at *
    have HBE := Lib.hid hBe
    clear hBe
    by_cases h1 : j.st = 1
    · have e1 : (j.st == 1) = true := by simpa using h1
      have H1 := Lib.hid e1
      clear h1
      rcases hhe : j.he with _ | _
      · rw [hhe] at x12
        have HHE := Lib.hid hhe
        clear hhe
        rcases B with _ | _
        · have ev : R = true := by rw [HRV.out, H1.out, HHE.out]; rfl
          have EV := Lib.hid ev
          clear ev HRV HBE HHE
          go_wp2_with fail
          go_ret2
          rw [EV.out]
          exact ⟨rfl, HB4.out⟩
        · have ev : R = false := by rw [HRV.out, H1.out, HHE.out]; rfl
          have EV := Lib.hid ev
          clear ev HRV HBE HHE
          go_wp2_with fail
          go_ret2
          rw [EV.out]
          exact ⟨rfl, HB4.out⟩
      · rw [hhe] at x12
        have ev : R = false := by rw [HRV.out, H1.out, hhe]; rfl
        have EV := Lib.hid ev
        clear ev HRV HBE hhe
        go_wp2_with fail
        go_ret2
        rw [EV.out]
        exact ⟨rfl, HB4.out⟩
    · have e1 : (j.st == 1) = false := by simpa using h1
      have ev : R = false := by rw [HRV.out, e1]; rfl
      have EV := Lib.hid ev
      clear h1 ev HRV HBE
      go_wp2_with fail
      go_ret2
      rw [EV.out]
      exact ⟨rfl, HB4.out⟩
end Go.Proofs.Ytfpljpdjohmbaaa.DepsReady
