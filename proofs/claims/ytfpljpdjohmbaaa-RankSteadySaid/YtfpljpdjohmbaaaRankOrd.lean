/- rank.Order. -/
import Derived.BigRegion
import Derived.BigQuiet
import Derived.Deep.QuietTactic
import Derived.Deep.DeepCutAuto
import Derived.Deep.RegionHeld3
import Derived.Laws.Rows
import Derived.Laws.AppendOwn
import Derived.Deep.MidRow
import Derived.Test.YtfpljpdjohmbaaaOpenJob
import Derived.Test.YtfpljpdjohmbaaaJobTable
import Derived.Test.YtfpljpdjohmbaaaJobRTwin
import Derived.Test.YtfpljpdjohmbaaaRankSort
import Derived.Test.YtfpljpdjohmbaaaSetList
namespace Go.Proofs.Ytfpljpdjohmbaaa.RankOrd
open Go.RowKit Mem PosMath PartMath TurnMath TurnMap TurnFitsV JobMath JobIndex JobMem JobTable JobFind JobTwin JobRTwin DepsMath RankMath RankKey RankSort SetList Lay
set_option linter.unusedVariables false
set_option linter.unusedSimpArgs false

theorem pair_info : (Try.prog.info? 89).map (fun i => (i.zero, i.size, i.bytes)) = some (some (.agg #[.int .i64 0, .int .i64 0]), 2, 16) := by kernel_rfl
theorem own_block_ge {w : World} {base size n j : Nat} {e : TypeId} {v : Value} {xs : List Value} (h : w.ownsRow base e size v n xs) (hj : v.ownBlock = some j) : base ≤ j := (h.lt j hj).1
theorem pairs_step {ks : List Cls} {ag : Int} {l : List JV} {k : Nat} {x : JV} (h : l[k]? = some x) : pairs ks ag (l.take (k + 1)) = if waitsB x = true then pairs ks ag (l.take k) ++ [pairV ks ag x] else pairs ks ag (l.take k) := by
  unfold pairs
  rw [List.take_add_one, h]
  cases hw : waitsB x <;> simp [hw]
theorem pairs_len (ks : List Cls) (ag : Int) (l : List JV) : (pairs ks ag l).length ≤ l.length := by
  unfold pairs
  rw [List.length_map]
  exact List.length_filter_le _ _
theorem PairsAt.up {w w' : World} {v : Value} {l : List (Int × Int)} (h : PairsAt w v l) (hB : Below w.heap.size w w') : PairsAt w' v l := by
  obtain ⟨X, c, e, h⟩ := h
  refine ⟨X, c, e, fun i q hq => ?_⟩
  obtain ⟨b, e, hb, c0, c1⟩ := h i q hq
  exact ⟨b, e, Nat.lt_of_lt_of_le hb hB.size, keep_cell c0 hB, keep_cell c1 hB⟩
theorem flat_one (l : List (Int × Int)) (x : Int × Int) : flatP (l ++ [x]) = flatP l ++ [.int .i64 x.1, .int .i64 x.2] := flat_snoc l x
set_option maxRecDepth 100000 in
set_option maxHeartbeats 8000000 in
theorem order_bad (d0 d1 d2 bo fr tr ag : Int) (K : Option Addr) (kc : Nat) (ks : List Cls) (hlk : ks.length ≤ 4611686018427387904) (X : Option Addr) (cap : Nat) (l : List JV) (hl : l.length ≤ 1000) (hla : ∀ j ∈ l, j.af.length ≤ 1000) (hv : tableV d0 d1 d2 bo fr tr ag ks l ≠ 0) (w : World) (hk : ClsAt w w.heap.size K ks) (hX : JobsAt w X l) :
    Calls Try.prog 37 #[.agg #[.int .i64 d0, .int .i64 d1, .int .i64 d2, .int .i64 bo, .int .i64 fr, .int .i64 tr, .int .i64 ag, .slice K ks.length kc], .slice X l.length cap] w fun e w' => e = .returned (.tuple #[.slice none 0 0, .int .i64 (tableV d0 d1 d2 bo fr tr ag ks l)]) ∧ Below w.heap.size w w' := by
  have HT := Lib.hid (fun w hk hX => table_any d0 d1 d2 bo fr tr ag K kc ks hlk X cap l (by omega) (fun j hj => by have := hla j hj; omega) w hk hX)
  generalize tableV d0 d1 d2 bo fr tr ag ks l = V at *
  have HK := Lib.hid hk
  have HX := Lib.hid hX
  have hv' : (V != 0) = true := by simpa using hv
  clear hk hX hv hla
  go_enter Try.func37, Try.ntmps37
  go_upto_region 1 with fail
  have kc0 : Blk (w.alloc (.cells #[.int .i64 d0, .int .i64 d1, .int .i64 d2, .int .i64 bo, .int .i64 fr, .int .i64 tr, .int .i64 ag, .slice K ks.length kc] 26)) w.heap.size 26 #[.int .i64 d0, .int .i64 d1, .int .i64 d2, .int .i64 bo, .int .i64 fr, .int .i64 tr, .int .i64 ag, .slice K ks.length kc] := Blk.new w _ _
  have hb0 : Below w.heap.size w (w.alloc (.cells #[.int .i64 d0, .int .i64 d1, .int .i64 d2, .int .i64 bo, .int .i64 fr, .int .i64 tr, .int .i64 ag, .slice K ks.length kc] 26)) := below_alloc (Below.refl _ _)
  generalize (w.alloc (.cells #[.int .i64 d0, .int .i64 d1, .int .i64 d2, .int .i64 bo, .int .i64 fr, .int .i64 tr, .int .i64 ag, .slice K ks.length kc] 26)) = w0 at *
  have HB0 := Lib.hid hb0
  have KC0 := Lib.hid kc0
  clear hb0 kc0
  go_wp2_with (first | (refine wpList_load_row rfl 26 _ rfl _ rfl 26 #[.int .i64 d0, .int .i64 d1, .int .i64 d2, .int .i64 bo, .int .i64 fr, .int .i64 tr, .int .i64 ag, .slice K ks.length kc] (0, 0) _ KC0.out Try.underlying26 rfl (by kernel_rfl) ?_))
  refine (HT.out _ (HK.out.up HB0.out) (HX.out.up HB0.out)).mono ?_
  rintro e w1 ⟨rfl, hB1⟩
  have HB1 := Lib.hid (below_up HB0.out hB1)
  have KC1 := Lib.hid (KC0.out.below hB1 KC0.out.lt)
  clear hB1 KC0 HB0 HT
  go_wp2_with fail
  go_ret2
  exact ⟨rfl, HB1.out⟩
set_option maxRecDepth 100000 in
set_option maxHeartbeats 8000000 in
theorem order_ok (d0 d1 d2 bo fr tr ag : Int) (K : Option Addr) (kc : Nat) (ks : List Cls) (hlk : ks.length ≤ 4611686018427387904) (X : Option Addr) (cap : Nat) (l : List JV) (hl : l.length ≤ 1000) (hla : ∀ j ∈ l, j.af.length ≤ 1000) (hv : tableV d0 d1 d2 bo fr tr ag ks l = 0) (w : World) (hk : ClsAt w w.heap.size K ks) (hX : JobsAt w X l) :
    Calls Try.prog 37 #[.agg #[.int .i64 d0, .int .i64 d1, .int .i64 d2, .int .i64 bo, .int .i64 fr, .int .i64 tr, .int .i64 ag, .slice K ks.length kc], .slice X l.length cap] w fun e w' => ∃ X' c', e = .returned (.tuple #[.slice X' (orderV ks ag l).length c', .int .i64 0]) ∧ IntsAt w' X' (orderV ks ag l) ∧ Below w.heap.size w w' := by
  obtain ⟨hC, hT⟩ := tableV_of hv
  have HT := Lib.hid (fun w hk hX => table_any d0 d1 d2 bo fr tr ag K kc ks hlk X cap l (by omega) (fun j hj => by have := hla j hj; omega) w hk hX)
  generalize tableV d0 d1 d2 bo fr tr ag ks l = V at *
  have HK := Lib.hid hk
  have HX := Lib.hid hX
  have hck := hT.each
  have hl24 := hT.len
  obtain ⟨ii, a0, a1, a2, a3⟩ := info_parts int_info
  obtain ⟨i2, b0, b1, b2, b3⟩ := info_parts pair_info
  have HII := Lib.hid (And.intro a0 (And.intro a1 (And.intro a2 a3)))
  have H22 := Lib.hid (And.intro b0 (And.intro b1 (And.intro b2 b3)))
  have HKY := Lib.hid (fun (x : JV) (Y : Option Addr) (cj : Nat) (w : World) (h : checkV d0 d1 d2 ks x = 0) (hk : ClsAt w w.heap.size K ks) => key_any d0 d1 d2 bo fr tr ag K kc ks x Y cj hlk hC h w hk)
  have HSM := Lib.hid (fun (x : JV) (h : checkV d0 d1 d2 ks x = 0) => key_small hC h)
  have HCK := Lib.hid hck
  obtain ⟨R, hR⟩ : ∃ R, R = orderV ks ag l := ⟨_, rfl⟩
  rw [← hR]
  have HRR := Lib.hid hR
  subst hv
  clear hR hk hX hla hck hT hC a0 a1 a2 a3 b0 b1 b2 b3
  go_enter Try.func37, Try.ntmps37
  go_upto_region 1 with fail
  have kc0 : Blk (w.alloc (.cells #[.int .i64 d0, .int .i64 d1, .int .i64 d2, .int .i64 bo, .int .i64 fr, .int .i64 tr, .int .i64 ag, .slice K ks.length kc] 26)) w.heap.size 26 #[.int .i64 d0, .int .i64 d1, .int .i64 d2, .int .i64 bo, .int .i64 fr, .int .i64 tr, .int .i64 ag, .slice K ks.length kc] := Blk.new w _ _
  have hb0 : Below w.heap.size w (w.alloc (.cells #[.int .i64 d0, .int .i64 d1, .int .i64 d2, .int .i64 bo, .int .i64 fr, .int .i64 tr, .int .i64 ag, .slice K ks.length kc] 26)) := below_alloc (Below.refl _ _)
  generalize (w.alloc (.cells #[.int .i64 d0, .int .i64 d1, .int .i64 d2, .int .i64 bo, .int .i64 fr, .int .i64 tr, .int .i64 ag, .slice K ks.length kc] 26)) = w0 at *
  have HB0 := Lib.hid hb0
  have KC0 := Lib.hid kc0
  clear hb0 kc0
  go_wp2_with (first | (refine wpList_load_row rfl 26 _ rfl _ rfl 26 #[.int .i64 d0, .int .i64 d1, .int .i64 d2, .int .i64 bo, .int .i64 fr, .int .i64 tr, .int .i64 ag, .slice K ks.length kc] (0, 0) _ KC0.out Try.underlying26 rfl (by kernel_rfl) ?_))
  refine (HT.out _ (HK.out.up HB0.out) (HX.out.up HB0.out)).mono ?_
  rintro e w1 ⟨rfl, hB1⟩
  have HB1 := Lib.hid (below_up HB0.out hB1)
  have KC1 := Lib.hid (KC0.out.below hB1 KC0.out.lt)
  clear hB1 KC0 HB0 HT
  go_wp2_with fail
  go_loopw [7, 21] (fun v i wr => ∃ (k : Nat) (vv : Value), vv = v ∧ k ≤ l.length ∧ i = .int .i64 k ∧ Hid (wr.ownsRow w.heap.size 89 2 vv (pairs ks ag (l.take k)).length (flatP (pairs ks ag (l.take k)))) ∧ Hid (Blk wr w.heap.size 26 #[.int .i64 d0, .int .i64 d1, .int .i64 d2, .int .i64 bo, .int .i64 fr, .int .i64 tr, .int .i64 ag, .slice K ks.length kc]) ∧ Hid (Below w.heap.size w wr))
    (fun _ i _ => l.length - (intOf i).toNat)
  case atStart => exact ⟨0, _, rfl, Nat.zero_le _, rfl, ⟨rfl, .inl ⟨rfl, rfl⟩⟩, KC1.out, HB1.out⟩
  case round =>
    obtain ⟨k, v, hv, hk, rfl, hO, hC, hB⟩ := hrel
    subst hv
    clear KC1 HB1
    by_cases hlt : k < l.length
    · have hg : l[k]? = some l[k] := List.getElem?_eq_getElem hlt
      generalize l[k] = x at hg
      have hki : (k : Int) < (l.length : Int) := by omega
      have hki0 : (0 : Int) ≤ (k : Int) := by omega
      obtain ⟨b, o, Y, cj, rfl, hb, hJ, hY⟩ := HX.out.up hB.out k x hg
      have HJ := Lib.hid hJ
      have HG := Lib.hid hg
      have hck := HCK.out x (List.mem_of_getElem? hg)
      have HCX0 := Lib.hid hck
      clear hg hJ hY hck hb
      go_upto_region 8 with (first | (refine wpList_load_mid rfl 33 _ rfl _ _ rfl _ _ HJ.out.range Try.underlying33 rfl (by kernel_rfl) ?_))
      have kj0 : Blk (wr.alloc (.cells #[.int .i64 x.id, .int .i64 x.us, .int .i64 x.cl, .int .i64 x.x.a, .int .i64 x.x.b, .int .i64 x.x.c, .bool x.x.p, .bool x.x.q, .bool x.x.r, .bool x.x.tn, .int .i64 x.wa, .int .i64 x.pr, .bool x.he, .slice Y x.af.length cj, .int .u8 x.st, .int .i64 x.ca] 33)) wr.heap.size 33 #[.int .i64 x.id, .int .i64 x.us, .int .i64 x.cl, .int .i64 x.x.a, .int .i64 x.x.b, .int .i64 x.x.c, .bool x.x.p, .bool x.x.q, .bool x.x.r, .bool x.x.tn, .int .i64 x.wa, .int .i64 x.pr, .bool x.he, .slice Y x.af.length cj, .int .u8 x.st, .int .i64 x.ca] := Blk.new wr _ _
      have hbz : Below wr.heap.size wr (wr.alloc (.cells #[.int .i64 x.id, .int .i64 x.us, .int .i64 x.cl, .int .i64 x.x.a, .int .i64 x.x.b, .int .i64 x.x.c, .bool x.x.p, .bool x.x.q, .bool x.x.r, .bool x.x.tn, .int .i64 x.wa, .int .i64 x.pr, .bool x.he, .slice Y x.af.length cj, .int .u8 x.st, .int .i64 x.ca] 33)) := below_alloc (Below.refl _ _)
      generalize (wr.alloc (.cells #[.int .i64 x.id, .int .i64 x.us, .int .i64 x.cl, .int .i64 x.x.a, .int .i64 x.x.b, .int .i64 x.x.c, .bool x.x.p, .bool x.x.q, .bool x.x.r, .bool x.x.tn, .int .i64 x.wa, .int .i64 x.pr, .bool x.he, .slice Y x.af.length cj, .int .u8 x.st, .int .i64 x.ca] 33)) = wz at *
      have KJ := Lib.hid kj0
      have KZ := Lib.hid (hC.out.below hbz hC.out.lt)
      have HOZ := Lib.hid (ownsRow_below hO.out hbz)
      have HBZ := Lib.hid (below_up hB.out hbz)
      have HZS := Lib.hid (show w.heap.size ≤ wz.heap.size from (below_up hB.out hbz).size)
      have hne0 := own_blk_ne HOZ.out KZ.out (by decide)
      have hne1 : v.ownBlock ≠ some wr.heap.size := fun e => by have := (hO.out.lt _ e).2; omega
      have HR0 := Lib.hid (And.intro (range_of KZ.out) (Ne.symm hne0))
      have HR1 := Lib.hid (And.intro (range_of KJ.out) (Ne.symm hne1))
      have HGK := Lib.hid (And.intro KZ.out (And.intro (Ne.symm hne0) HBZ.out))
      have HOW := Lib.hid hO.out
      have x14 : wz.cell? ⟨wr.heap.size, 14, none⟩ = some (.int .u8 x.st) := kj0.cell 14
      have x12 : wz.cell? ⟨wr.heap.size, 12, none⟩ = some (.bool x.he) := kj0.cell 12
      have hps : pairs ks ag (l.take (k + 1)) = if waitsB x = true then pairs ks ag (l.take k) ++ [pairV ks ag x] else pairs ks ag (l.take k) := pairs_step HG.out
      have HPS0 := Lib.hid hps
      have hln := pairs_len ks ag (l.take k)
      have HLN := Lib.hid (show (pairs ks ag (l.take k)).length ≤ 1000 by rw [List.length_take] at hln; omega)
      clear kj0 hbz hC hO hB hne0 hne1 hps hln
      go_cut [32] (fun s wx => s = .bool (waitsB x) ∧ wx = wz)
      case first =>
        by_cases h1 : x.st = 1
        · have e1 : (x.st == 1) = true := by simpa using h1
          have H1 := Lib.hid (decide_eq_true h1)
          clear h1
          go_wp2_with fail
          go_meet
          exact ⟨by unfold waitsB; rw [H1.out]; rfl, rfl⟩
        · have e1 : (x.st == 1) = false := by simpa using h1
          have H1 := Lib.hid (decide_eq_false h1)
          clear h1
          go_wp2_with fail
          go_meet
          exact ⟨by unfold waitsB; rw [H1.out]; rfl, rfl⟩
      case rest =>
        obtain ⟨rfl, e⟩ := hcut
        subst e
        cases hw : waitsB x
        · have HPS := Lib.hid (HPS0.out.trans (if_neg (by simp [hw])))
          clear hw
          go_wp2_with fail
          go_roundw
          case rel => exact ⟨k + 1, v, rfl, by omega, by go_num, by rw [HPS.out]; exact HOZ.out, KZ.out, HBZ.out⟩
          case measure => simp [intOf]; omega
        · have HPS := Lib.hid (HPS0.out.trans (if_pos hw))
          have hs := HSM.out x HCX0.out
          have hneg : IntKind.i64.wrap (-(keyV ks ag x)) = -(keyV ks ag x) := IntWalk.i64_in _ (by unfold keyV; omega)
          have y0 : wc.cell? ⟨wr.heap.size, 0, none⟩ = some (.int .i64 x.id) := KJ.out.cell 0
          have HCX := Lib.hid (And.intro HCX0.out (below_up HBZ.out (Below.refl _ _).drew))
          clear hw hs x14 x12
          go_upto_region 9 with fail
          refine wp_region_noPanic ?_
          refine wp_region_held_drew (S := (fun W => wc.grownBy W v.ownBlock)) (by kernel_rfl) ?_ (fun hHeld => ?_)
          · exact grown_of_below (Below.refl _ _).drew _
          refine' wpAnyH_take (i := 0) (v := ?v1) rfl (by kernel_rfl) (by kernel_rfl) (by kernel_rfl) (fun _ _ _ h => h) (Or.inl ⟨by rfl, ?y1⟩) (by assumption) ?r1
          case y1 => (intro W hSw; (try dsimp only at hSw); go_simp; try with_reducible rfl)
          (try simp only [Act.put, List.setIfInBounds_toArray, List.set_cons_zero, List.set_cons_succ])
          refine' wpAnyH_take (i := 1) (v := _) rfl (by kernel_rfl) (by kernel_rfl) (by kernel_rfl) (fun _ _ _ h => h) (yieldsIf_load_mid (by rfl) _ _ rfl _ _ rfl [.int .i64 d0, .int .i64 d1, .int .i64 d2, .int .i64 bo, .int .i64 fr, .int .i64 tr, .int .i64 ag, .slice K ks.length kc] _ (fun W hW => range_grown hW HR0.out.1 HR0.out.2) Try.underlying26 rfl (by kernel_rfl)) (by assumption) ?r2
          (try simp only [Act.put, List.setIfInBounds_toArray, List.set_cons_zero, List.set_cons_succ])
          refine' wpAnyH_take (i := 2) (v := _) rfl (by kernel_rfl) (by kernel_rfl) (by kernel_rfl) (fun _ _ _ h => h) (yieldsIf_load_mid (by rfl) _ _ rfl _ _ rfl [.int .i64 x.id, .int .i64 x.us, .int .i64 x.cl, .int .i64 x.x.a, .int .i64 x.x.b, .int .i64 x.x.c, .bool x.x.p, .bool x.x.q, .bool x.x.r, .bool x.x.tn, .int .i64 x.wa, .int .i64 x.pr, .bool x.he, .slice Y x.af.length cj, .int .u8 x.st, .int .i64 x.ca] _ (fun W hW => range_grown hW HR1.out.1 HR1.out.2) Try.underlying33 rfl (by kernel_rfl)) (by assumption) ?r3
          (try simp only [Act.put, List.setIfInBounds_toArray, List.set_cons_zero, List.set_cons_succ])
          refine' wpAnyH_take (i := 5) (v := ?v4) rfl (by kernel_rfl) (by kernel_rfl) (by kernel_rfl) (fun _ _ _ h => h) (Or.inl ⟨by rfl, ?y4⟩) (by assumption) ?r4
          case y4 => (intro W hSw; (try dsimp only at hSw); go_simp; try with_reducible rfl)
          (try simp only [Act.put, List.setIfInBounds_toArray, List.set_cons_zero, List.set_cons_succ])
          refine' wpAnyH_take (i := 6) (v := ?v5) rfl (by kernel_rfl) (by kernel_rfl) (by kernel_rfl) (fun _ _ _ h => h) (Or.inl ⟨by rfl, ?y5⟩) (by assumption) ?r5
          case y5 => (intro W hSw; (try dsimp only at hSw); have q0 := World.grownBy.cell hSw y0 HR1.out.2; go_simp; try with_reducible rfl)
          (try simp only [Act.put, List.setIfInBounds_toArray, List.set_cons_zero, List.set_cons_succ])
          refine wpAnyH_ready (rs := [3]) (by kernel_rfl) (by simp) ?_
          refine AllReadyH.cons (i := 3) rfl (fun K hK => ?_) ?_
          · go_simp
            refine (HKY.out x Y cj wc.drew HCX.out.1 (HK.out.up HCX.out.2)).mono ?_
            rintro e w3 ⟨rfl, hB3⟩
            have KB : Below wc.heap.size wc w3 := below_up (Below.refl _ _).drew hB3
            clear hB3
            (try dsimp only)
            refine hK.out _ _ ?_ (fun hHeld => ?_)
            · exact grown_of_below KB _
            clear hK K
            (try simp only [Act.put, List.setIfInBounds_toArray, List.set_cons_zero, List.set_cons_succ])
            refine wpAnyH_ready (rs := [4]) (by kernel_rfl) (by simp) ?_
            refine AllReadyH.cons (i := 4) rfl (fun K hK => ?_) ?_
            · go_simp
              refine hK.out _ _ ?_ (fun hHeld => ?_)
              · exact grown_of_below KB _
              clear hK K
              (try simp only [Act.put, List.setIfInBounds_toArray, List.set_cons_zero, List.set_cons_succ])
              refine wpAnyH_ready (rs := [7]) (by kernel_rfl) (by simp) ?_
              refine AllReadyH.cons (i := 7) rfl (fun K hK => ?_) ?_
              · go_simp
                refine hK.out _ _ ?_ (fun hHeld => ?_)
                · exact grown_of_below KB _
                clear hK K
                (try simp only [Act.put, List.setIfInBounds_toArray, List.set_cons_zero, List.set_cons_succ])
                refine wpAnyH_ready (rs := [8]) (by kernel_rfl) (by simp) ?_
                refine AllReadyH.cons (i := 8) rfl (fun K hK => ?_) ?_
                · go_simp
                  refine hK.out _ _ ?_ (fun hHeld => ?_)
                  · exact grown_of_below (below_alloc KB) _
                  clear hK K
                  (try simp only [Act.put, List.setIfInBounds_toArray, List.set_cons_zero, List.set_cons_succ])
                  refine wpAnyH_ready (rs := [9]) (by kernel_rfl) (by simp) ?_
                  refine AllReadyH.cons (i := 9) rfl (fun K hK => ?_) ?_
                  · refine step_append_any _ rfl (.tmp 33) (.tmp 41) _ rfl w.heap.size 89 i2 (.agg #[.int .i64 0, .int .i64 0]) 2 16 Try.underlying88 H22.out.1 H22.out.2.1 H22.out.2.2.1 H22.out.2.2.2 rfl (by decide) v _ _ rfl (ownsRow_below HOZ.out (below_alloc KB)) _ _ 1 1 [.int .i64 (-(keyV ks ag x)), .int .i64 x.id] rfl (reads_new w3 _ _ rfl _) (by intro u hu; simp at hu; rcases hu with rfl | rfl <;> rfl) (by have := HLN.out; simp only [maxLen]; omega) (by have := HLN.out; omega) (by have := HZS.out; have := KB.size; simp; omega) ?_
                    intro v5 w5 hown hg hat
                    have HO5 := Lib.hid hown
                    have HG5 := Lib.hid (grown_trans (grown_of_below (below_alloc KB) _) hg)
                    clear hown hg hat
                    refine hK.out _ _ ?_ (fun hHeld => ?_)
                    · exact HG5.out
                    clear hK K
                    (try simp only [Act.put, List.setIfInBounds_toArray, List.set_cons_zero, List.set_cons_succ])
                    refine wpAnyH_ready (rs := [10]) (by kernel_rfl) (by simp) ?_
                    refine AllReadyH.cons (i := 10) rfl (fun K hK => ?_) ?_
                    · go_simp
                      refine hK.out _ _ ?_ (fun hHeld => ?_)
                      · exact HG5.out
                      clear hK K
                      (try simp only [Act.put, List.setIfInBounds_toArray, List.set_cons_zero, List.set_cons_succ])
                      refine wpAnyH_done (by kernel_rfl) ?_ _
                      refine NoPanic.normal ?_
                      go_wp2_with fail
                      go_roundw
                      case rel => exact ⟨k + 1, v5, rfl, by omega, by go_num, by rw [HPS.out, flat_one, List.length_append]; exact HO5.out, HGK.out.1.grown HG5.out HGK.out.2.1, HGK.out.2.2.grown HG5.out HZS.out (fun j hj => own_block_ge HOW.out hj)⟩
                      case measure => simp [intOf]; omega
                    exact AllReadyH.nil
                  exact AllReadyH.nil
                exact AllReadyH.nil
              exact AllReadyH.nil
            exact AllReadyH.nil
          exact AllReadyH.nil
    · obtain rfl : k = l.length := by omega
      have hO2 := hO.out
      rw [List.take_length] at hO2
      have HO2 := Lib.hid hO2
      have hpl := pairs_len ks ag l
      have HPL := Lib.hid hpl
      clear hO2 hO hpl
      go_wp2_with fail
      refine (sortP_any w.heap.size v (pairs ks ag l) _ (by have := HPL.out; omega) hB.out.size HO2.out).mono ?_
      rintro e w4 ⟨rfl, hB4, hP⟩
      obtain ⟨X4, c4, hv4, hP⟩ := hP
      subst hv4
      have hol : (ordP (pairs ks ag l)).length ≤ 1000 := by rw [(ord_perm _).length_eq]; have := HPL.out; omega
      have hres : R = (ordP (pairs ks ag l)).map (·.2) := HRR.out
      generalize ordP (pairs ks ag l) = os at *
      have HRES := Lib.hid hres
      have HB4 := Lib.hid (hB.out.trans hB4)
      have HP := Lib.hid (show PairsAt w4 (.slice X4 os.length c4) os from ⟨X4, c4, rfl, hP⟩)
      have HOL := Lib.hid hol
      have HZ4 := Lib.hid (show 0 < w4.heap.size by have := hC.out.lt; have := hB4.size; omega)
      clear hB4 hP hres hB HO2 HPL hC HRR
      go_wp2_with fail
      go_loopw [10, 48] (fun v i wr => ∃ (k : Nat) (vv : Value), vv = v ∧ k ≤ os.length ∧ i = .int .i64 k ∧ Hid (wr.ownsRow w4.heap.size 3 1 vv k ((os.take k).map (fun q => Value.int .i64 q.2))) ∧ Hid (Below w4.heap.size w4 wr))
        (fun _ i _ => os.length - (intOf i).toNat)
      case atStart => exact ⟨0, _, rfl, Nat.zero_le _, rfl, ⟨rfl, .inl ⟨rfl, rfl⟩⟩, Below.refl _ _⟩
      case round =>
        obtain ⟨k, v, hv, hk, rfl, hO, hB⟩ := hrel
        subst hv
        by_cases hlt : k < os.length
        · have hg : os[k]? = some os[k] := List.getElem?_eq_getElem hlt
          generalize os[k] = q at hg
          have hki : (k : Int) < (os.length : Int) := by omega
          have hki0 : (0 : Int) ≤ (k : Int) := by omega
          obtain ⟨X5, c5, e5, hP⟩ := PairsAt.up HP.out hB.out
          obtain ⟨b, e6, hb, y0, y1⟩ := hP k q hg
          have e7 : X4 = some ⟨b, 0, none⟩ := by simp at e5; rw [e5.1, e6]
          have htk : (os.take (k + 1)).map (fun q => Value.int .i64 q.2) = (os.take k).map (fun q => Value.int .i64 q.2) ++ [.int .i64 q.2] := by rw [List.take_add_one, hg]; simp
          have HTK := Lib.hid htk
          subst e7
          have HBS := Lib.hid hB.out.size
          clear e5 e6 hP hg htk hb
          go_wp2_with (first | (at_builtin; refine wpList_append_any _ rfl (.tmp 52) (.tmp 55) _ rfl w4.heap.size 3 ii (.int .i64 0) 1 8 Try.underlying31 HII.out.1 HII.out.2.1 HII.out.2.2.1 HII.out.2.2.2 rfl (by decide) v k _ rfl (ownsRow_below hO.out (below_alloc (below_alloc (Below.refl _ _)))) _ _ 1 1 [.int .i64 q.2] rfl (reads_new _ _ _ (by simp) _) (by intro u hu; simp at hu; subst hu; rfl) (by have := HOL.out; simp only [maxLen]; omega) (by have := HOL.out; omega) (by have := HBS.out; simp; omega) ?_; intro v5 w5 hown hg hat; have H5 := Lib.hid (And.intro hown hg); clear hown hg hat))
          go_roundw
          case rel => exact ⟨k + 1, v5, rfl, by omega, by go_num, by rw [HTK.out]; exact H5.out.1, (below_alloc (below_alloc hB.out)).grown H5.out.2 (by have := HBS.out; simp; omega) (fun j hj => own_block_ge hO.out hj)⟩
          case measure => simp [intOf]; omega
        · obtain rfl : k = os.length := by omega
          have hO2 := hO.out
          rw [List.take_length] at hO2
          have HO2 := Lib.hid hO2
          clear hO2
          go_wp2_with fail
          obtain ⟨X9, c9, e9, h9⟩ := ints_of_own (l := R) (g0 := 0) HZ4.out (by rw [HRES.out, List.length_map]) (by rw [HRES.out, List.map_map]; exact HO2.out)
          go_ret2
          exact ⟨X9, c9, by rw [e9]; rfl, h9.ints, HB4.out.trans (hB.out.mono HB4.out.size)⟩
end Go.Proofs.Ytfpljpdjohmbaaa.RankOrd
