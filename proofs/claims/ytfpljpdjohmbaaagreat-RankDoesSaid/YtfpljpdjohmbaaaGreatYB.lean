/- Several texts joined: rank.Order. -/
import Derived.BigRegion
import Derived.BigQuiet
import Derived.Deep.QuietTactic
import Derived.Deep.DeepCutAuto
import Derived.Deep.RegionHeld3
import Derived.Laws.Rows
import Derived.Laws.AppendOwn
import Derived.Deep.MidRow
import Derived.Test.YtfpljpdjohmbaaaGreatY6
import Derived.Test.YtfpljpdjohmbaaaGreatY9
import Derived.Test.YtfpljpdjohmbaaaGreatYA
import Derived.Lib.QuietBelow
import Derived.Test.YtfpljpdjohmbaaaGreatY8
/-! rank.Order. -/
namespace Go.Proofs.YtfpljpdjohmbaaaGreat.RankOrd
open Go.RowKit Mem PosMath PartMath TurnMath TurnMap TurnFitsV JobMath JobIndex JobMem JobTable JobFind JobTwin JobRTwin DepsMath RankMath RankKey RankSort SetList Lay
set_option linter.unusedVariables false
set_option linter.unusedSimpArgs false

theorem pair_info : (Tryz.prog.info? 52).map (fun i => (i.zero, i.size, i.bytes)) = some (some (.agg #[.int .i64 0, .int .i64 0]), 2, 16) := by kernel_rfl
theorem own_block_ge {w : World} {base size n j : Nat} {e : TypeId} {v : Value} {xs : List Value} (h : w.ownsRow base e size v n xs) (hj : v.ownBlock = some j) : base ≤ j := (h.lt j hj).1
theorem pairs_step {ks : List Cls} {ag : Int} {l : List JV} {k : Nat} {x : JV} (h : l[k]? = some x) : pairs ks ag (l.take (k + 1)) = if waitsB x = true then pairs ks ag (l.take k) ++ [pairV ks ag x] else pairs ks ag (l.take k) := by
  unfold pairs
  rw [List.take_add_one, h]
  cases hw : waitsB x <;> simp [hw]
theorem pairs_len (ks : List Cls) (ag : Int) (l : List JV) : (pairs ks ag l).length ≤ l.length := by
  unfold pairs
  rw [List.length_map]
  exact List.length_filter_le _ _
theorem PairsAt.up {w w' : World} {v : Value} {l : List (Int × Int)} (h : PairsAt w v l) (hB : Below w.heap.size w w') : PairsAt w' v l := by
  obtain ⟨X, c, e, h⟩ := h
  refine ⟨X, c, e, fun i q hq => ?_⟩
  obtain ⟨b, e, hb, c0, c1⟩ := h i q hq
  exact ⟨b, e, Nat.lt_of_lt_of_le hb hB.size, keep_cell c0 hB, keep_cell c1 hB⟩
theorem flat_one (l : List (Int × Int)) (x : Int × Int) : flatP (l ++ [x]) = flatP l ++ [.int .i64 x.1, .int .i64 x.2] := flat_snoc l x
set_option maxRecDepth 100000 in
set_option maxHeartbeats 8000000 in
theorem order_bad (d0 d1 d2 bo fr tr ag : Int) (K : Option Addr) (kc : Nat) (ks : List Cls) (hlk : ks.length ≤ 4611686018427387904) (X : Option Addr) (cap : Nat) (l : List JV) (hl : l.length ≤ 1000) (hla : ∀ j ∈ l, j.af.length ≤ 1000) (hv : tableV d0 d1 d2 bo fr tr ag ks l ≠ 0) (w : World) (hk : ClsAt w w.heap.size K ks) (hX : JobsAt w X l) :
    Calls Tryz.prog 8 #[.agg #[.int .i64 d0, .int .i64 d1, .int .i64 d2, .int .i64 bo, .int .i64 fr, .int .i64 tr, .int .i64 ag, .slice K ks.length kc], .slice X l.length cap] w fun e w' => e = .returned (.tuple #[.slice none 0 0, .int .i64 (tableV d0 d1 d2 bo fr tr ag ks l)]) ∧ Below w.heap.size w w' := by
  have HT := Lib.hid (fun w hk hX => table_any d0 d1 d2 bo fr tr ag K kc ks hlk X cap l (by omega) (fun j hj => by have := hla j hj; omega) w hk hX)
  generalize tableV d0 d1 d2 bo fr tr ag ks l = V at *
  have HK := Lib.hid hk
  have HX := Lib.hid hX
  have hv' : (V != 0) = true := by simpa using hv
  clear hk hX hv hla
  go_enter Tryz.func8, Tryz.ntmps8
  go_upto_region 1 with fail
  have kc0 : Blk (w.alloc (.cells #[.int .i64 d0, .int .i64 d1, .int .i64 d2, .int .i64 bo, .int .i64 fr, .int .i64 tr, .int .i64 ag, .slice K ks.length kc] 26)) w.heap.size 26 #[.int .i64 d0, .int .i64 d1, .int .i64 d2, .int .i64 bo, .int .i64 fr, .int .i64 tr, .int .i64 ag, .slice K ks.length kc] := Blk.new w _ _
  have hb0 : Below w.heap.size w (w.alloc (.cells #[.int .i64 d0, .int .i64 d1, .int .i64 d2, .int .i64 bo, .int .i64 fr, .int .i64 tr, .int .i64 ag, .slice K ks.length kc] 26)) := below_alloc (Below.refl _ _)
  generalize (w.alloc (.cells #[.int .i64 d0, .int .i64 d1, .int .i64 d2, .int .i64 bo, .int .i64 fr, .int .i64 tr, .int .i64 ag, .slice K ks.length kc] 26)) = w0 at *
  have HB0 := Lib.hid hb0
  have KC0 := Lib.hid kc0
  clear hb0 kc0
  go_wp2_with (first | (refine wpList_load_row rfl 26 _ rfl _ rfl 26 #[.int .i64 d0, .int .i64 d1, .int .i64 d2, .int .i64 bo, .int .i64 fr, .int .i64 tr, .int .i64 ag, .slice K ks.length kc] (0, 0) _ KC0.out Tryz.underlying26 rfl (by kernel_rfl) ?_))
  refine (HT.out _ (HK.out.up HB0.out) (HX.out.up HB0.out)).mono ?_
  rintro e w1 ⟨rfl, hB1⟩
  have HB1 := Lib.hid (below_up HB0.out hB1)
  have KC1 := Lib.hid (KC0.out.below hB1 KC0.out.lt)
  clear hB1 KC0 HB0 HT
  go_wp2_with fail
  go_ret2
  exact ⟨rfl, HB1.out⟩
set_option maxRecDepth 100000 in
set_option maxHeartbeats 8000000 in
theorem order_ok (d0 d1 d2 bo fr tr ag : Int) (K : Option Addr) (kc : Nat) (ks : List Cls) (hlk : ks.length ≤ 4611686018427387904) (X : Option Addr) (cap : Nat) (l : List JV) (hl : l.length ≤ 1000) (hla : ∀ j ∈ l, j.af.length ≤ 1000) (hv : tableV d0 d1 d2 bo fr tr ag ks l = 0) (w : World) (hk : ClsAt w w.heap.size K ks) (hX : JobsAt w X l) :
    Calls Tryz.prog 8 #[.agg #[.int .i64 d0, .int .i64 d1, .int .i64 d2, .int .i64 bo, .int .i64 fr, .int .i64 tr, .int .i64 ag, .slice K ks.length kc], .slice X l.length cap] w fun e w' => ∃ X' c', e = .returned (.tuple #[.slice X' (orderV ks ag l).length c', .int .i64 0]) ∧ IntsAt w' X' (orderV ks ag l) ∧ Below w.heap.size w w' := by
  obtain ⟨hC, hT⟩ := tableV_of hv
  have HT := Lib.hid (fun w hk hX => table_any d0 d1 d2 bo fr tr ag K kc ks hlk X cap l (by omega) (fun j hj => by have := hla j hj; omega) w hk hX)
  generalize tableV d0 d1 d2 bo fr tr ag ks l = V at *
  have HK := Lib.hid hk
  have HX := Lib.hid hX
  have hck := hT.each
  have hl24 := hT.len
  obtain ⟨ii, a0, a1, a2, a3⟩ := info_parts int_info
  obtain ⟨i2, b0, b1, b2, b3⟩ := info_parts pair_info
  have HII := Lib.hid (And.intro a0 (And.intro a1 (And.intro a2 a3)))
  have H22 := Lib.hid (And.intro b0 (And.intro b1 (And.intro b2 b3)))
  have HKY := Lib.hid (fun (x : JV) (Y : Option Addr) (cj : Nat) (w : World) (h : checkV d0 d1 d2 ks x = 0) (hk : ClsAt w w.heap.size K ks) => key_any d0 d1 d2 bo fr tr ag K kc ks x Y cj hlk hC h w hk)
  have HSM := Lib.hid (fun (x : JV) (h : checkV d0 d1 d2 ks x = 0) => key_small hC h)
  have HCK := Lib.hid hck
  obtain ⟨R, hR⟩ : ∃ R, R = orderV ks ag l := ⟨_, rfl⟩
  rw [← hR]
  have HRR := Lib.hid hR
  subst hv
  clear hR hk hX hla hck hT hC a0 a1 a2 a3 b0 b1 b2 b3
  go_enter Tryz.func8, Tryz.ntmps8
  go_upto_region 1 with fail
  have kc0 : Blk (w.alloc (.cells #[.int .i64 d0, .int .i64 d1, .int .i64 d2, .int .i64 bo, .int .i64 fr, .int .i64 tr, .int .i64 ag, .slice K ks.length kc] 26)) w.heap.size 26 #[.int .i64 d0, .int .i64 d1, .int .i64 d2, .int .i64 bo, .int .i64 fr, .int .i64 tr, .int .i64 ag, .slice K ks.length kc] := Blk.new w _ _
  have hb0 : Below w.heap.size w (w.alloc (.cells #[.int .i64 d0, .int .i64 d1, .int .i64 d2, .int .i64 bo, .int .i64 fr, .int .i64 tr, .int .i64 ag, .slice K ks.length kc] 26)) := below_alloc (Below.refl _ _)
  generalize (w.alloc (.cells #[.int .i64 d0, .int .i64 d1, .int .i64 d2, .int .i64 bo, .int .i64 fr, .int .i64 tr, .int .i64 ag, .slice K ks.length kc] 26)) = w0 at *
  have HB0 := Lib.hid hb0
  have KC0 := Lib.hid kc0
  clear hb0 kc0
  go_wp2_with (first | (refine wpList_load_row rfl 26 _ rfl _ rfl 26 #[.int .i64 d0, .int .i64 d1, .int .i64 d2, .int .i64 bo, .int .i64 fr, .int .i64 tr, .int .i64 ag, .slice K ks.length kc] (0, 0) _ KC0.out Tryz.underlying26 rfl (by kernel_rfl) ?_))
  refine (HT.out _ (HK.out.up HB0.out) (HX.out.up HB0.out)).mono ?_
  rintro e w1 ⟨rfl, hB1⟩
  have HB1 := Lib.hid (below_up HB0.out hB1)
  have KC1 := Lib.hid (KC0.out.below hB1 KC0.out.lt)
  clear hB1 KC0 HB0 HT
  go_wp2_with fail
  go_loopw [7, 21] (fun v i wr => ∃ (k : Nat) (vv : Value), vv = v ∧ k ≤ l.length ∧ i = .int .i64 k ∧ Hid (wr.ownsRow w.heap.size 52 2 vv (pairs ks ag (l.take k)).length (flatP (pairs ks ag (l.take k)))) ∧ Hid (Blk wr w.heap.size 26 #[.int .i64 d0, .int .i64 d1, .int .i64 d2, .int .i64 bo, .int .i64 fr, .int .i64 tr, .int .i64 ag, .slice K ks.length kc]) ∧ Hid (Below w.heap.size w wr))
    (fun _ i _ => l.length - (intOf i).toNat)
  case atStart => exact ⟨0, _, rfl, Nat.zero_le _, rfl, ⟨rfl, .inl ⟨rfl, rfl⟩⟩, KC1.out, HB1.out⟩
  case round =>
    obtain ⟨k, v, hv, hk, rfl, hO, hC, hB⟩ := hrel
    subst hv
    clear KC1 HB1
    by_cases hlt : k < l.length
    · have hg : l[k]? = some l[k] := List.getElem?_eq_getElem hlt
      generalize l[k] = x at hg
      have hki : (k : Int) < (l.length : Int) := by omega
      have hki0 : (0 : Int) ≤ (k : Int) := by omega
      obtain ⟨b, o, Y, cj, rfl, hb, hJ, hY⟩ := HX.out.up hB.out k x hg
      have HJ := Lib.hid hJ
      have HG := Lib.hid hg
      have hck := HCK.out x (List.mem_of_getElem? hg)
      have HCX0 := Lib.hid hck
      clear hg hJ hY hck hb
      go_upto_region 8 with (first | (refine wpList_load_mid rfl 33 _ rfl _ _ rfl _ _ HJ.out.range Tryz.underlying33 rfl (by kernel_rfl) ?_))
      have kj0 : Blk (wr.alloc (.cells #[.int .i64 x.id, .int .i64 x.us, .int .i64 x.cl, .int .i64 x.x.a, .int .i64 x.x.b, .int .i64 x.x.c, .bool x.x.p, .bool x.x.q, .bool x.x.r, .bool x.x.tn, .int .i64 x.wa, .int .i64 x.pr, .bool x.he, .slice Y x.af.length cj, .int .u8 x.st, .int .i64 x.ca] 33)) wr.heap.size 33 #[.int .i64 x.id, .int .i64 x.us, .int .i64 x.cl, .int .i64 x.x.a, .int .i64 x.x.b, .int .i64 x.x.c, .bool x.x.p, .bool x.x.q, .bool x.x.r, .bool x.x.tn, .int .i64 x.wa, .int .i64 x.pr, .bool x.he, .slice Y x.af.length cj, .int .u8 x.st, .int .i64 x.ca] := Blk.new wr _ _
      have hbz : Below wr.heap.size wr (wr.alloc (.cells #[.int .i64 x.id, .int .i64 x.us, .int .i64 x.cl, .int .i64 x.x.a, .int .i64 x.x.b, .int .i64 x.x.c, .bool x.x.p, .bool x.x.q, .bool x.x.r, .bool x.x.tn, .int .i64 x.wa, .int .i64 x.pr, .bool x.he, .slice Y x.af.length cj, .int .u8 x.st, .int .i64 x.ca] 33)) := below_alloc (Below.refl _ _)
      generalize (wr.alloc (.cells #[.int .i64 x.id, .int .i64 x.us, .int .i64 x.cl, .int .i64 x.x.a, .int .i64 x.x.b, .int .i64 x.x.c, .bool x.x.p, .bool x.x.q, .bool x.x.r, .bool x.x.tn, .int .i64 x.wa, .int .i64 x.pr, .bool x.he, .slice Y x.af.length cj, .int .u8 x.st, .int .i64 x.ca] 33)) = wz at *
      have KJ := Lib.hid kj0
      have KZ := Lib.hid (hC.out.below hbz hC.out.lt)
      have HOZ := Lib.hid (ownsRow_below hO.out hbz)
      have HBZ := Lib.hid (below_up hB.out hbz)
      have HZS := Lib.hid (show w.heap.size ≤ wz.heap.size from (below_up hB.out hbz).size)
      have hne0 := own_blk_ne HOZ.out KZ.out (by decide)
      have hne1 : v.ownBlock ≠ some wr.heap.size := fun e => by have := (hO.out.lt _ e).2; omega
      have HR0 := Lib.hid (And.intro (range_of KZ.out) (Ne.symm hne0))
      have HR1 := Lib.hid (And.intro (range_of KJ.out) (Ne.symm hne1))
      have HGK := Lib.hid (And.intro KZ.out (And.intro (Ne.symm hne0) HBZ.out))
      have HOW := Lib.hid hO.out
      have x14 : wz.cell? ⟨wr.heap.size, 14, none⟩ = some (.int .u8 x.st) := kj0.cell 14
      have x12 : wz.cell? ⟨wr.heap.size, 12, none⟩ = some (.bool x.he) := kj0.cell 12
      have hps : pairs ks ag (l.take (k + 1)) = if waitsB x = true then pairs ks ag (l.take k) ++ [pairV ks ag x] else pairs ks ag (l.take k) := pairs_step HG.out
      have HPS0 := Lib.hid hps
      have hln := pairs_len ks ag (l.take k)
      have HLN := Lib.hid (show (pairs ks ag (l.take k)).length ≤ 1000 by rw [List.length_take] at hln; omega)
      clear kj0 hbz hC hO hB hne0 hne1 hps hln
      go_cut [32] (fun s wx => s = .bool (waitsB x) ∧ wx = wz)
      case first =>
        by_cases h1 : x.st = 1
        · have e1 : (x.st == 1) = true := by simpa using h1
          have H1 := Lib.hid (decide_eq_true h1)
          clear h1
          go_wp2_with fail
          go_meet
          exact ⟨by unfold waitsB; rw [H1.out]; rfl, rfl⟩
        · have e1 : (x.st == 1) = false := by simpa using h1
          have H1 := Lib.hid (decide_eq_false h1)
          clear h1
          go_wp2_with fail
          go_meet
          exact ⟨by unfold waitsB; rw [H1.out]; rfl, rfl⟩
      case rest =>
        obtain ⟨rfl, e⟩ := hcut
        subst e
        cases hw : waitsB x
        · have HPS := Lib.hid (HPS0.out.trans (if_neg (by simp [hw])))
          clear hw
          go_wp2_with fail
          go_roundw
          case rel => exact ⟨k + 1, v, rfl, by omega, by go_num, by rw [HPS.out]; exact HOZ.out, KZ.out, HBZ.out⟩
          case measure => simp [intOf]; omega
        · have HPS := Lib.hid (HPS0.out.trans (if_pos hw))
          have hs := HSM.out x HCX0.out
          have hneg : IntKind.i64.wrap (-(keyV ks ag x)) = -(keyV ks ag x) := IntWalk.i64_in _ (by unfold keyV; omega)
          have y0 : wc.cell? ⟨wr.heap.size, 0, none⟩ = some (.int .i64 x.id) := KJ.out.cell 0
          have HCX := Lib.hid (And.intro HCX0.out (below_up HBZ.out (Below.refl _ _).drew))
          clear hw hs x14 x12
          go_upto_region 9 with fail
          refine wp_region_noPanic ?_
          refine wp_region_held_drew (S := (fun W => wc.grownBy W v.ownBlock)) (by kernel_rfl) ?_ (fun hHeld => ?_)
          · exact grown_of_below (Below.refl _ _).drew _
          refine' wpAnyH_take (i := 0) (v := ?v1) rfl (by kernel_rfl) (by kernel_rfl) (by kernel_rfl) (fun _ _ _ h => h) (Or.inl ⟨by rfl, ?y1⟩) (by assumption) ?r1
          case y1 => (intro W hSw; (try dsimp only at hSw); go_simp; try with_reducible rfl)
          (try simp only [Act.put, List.setIfInBounds_toArray, List.set_cons_zero, List.set_cons_succ])
          refine' wpAnyH_take (i := 1) (v := _) rfl (by kernel_rfl) (by kernel_rfl) (by kernel_rfl) (fun _ _ _ h => h) (yieldsIf_load_mid (by rfl) _ _ rfl _ _ rfl [.int .i64 d0, .int .i64 d1, .int .i64 d2, .int .i64 bo, .int .i64 fr, .int .i64 tr, .int .i64 ag, .slice K ks.length kc] _ (fun W hW => range_grown hW HR0.out.1 HR0.out.2) Tryz.underlying26 rfl (by kernel_rfl)) (by assumption) ?r2
          (try simp only [Act.put, List.setIfInBounds_toArray, List.set_cons_zero, List.set_cons_succ])
          refine' wpAnyH_take (i := 2) (v := _) rfl (by kernel_rfl) (by kernel_rfl) (by kernel_rfl) (fun _ _ _ h => h) (yieldsIf_load_mid (by rfl) _ _ rfl _ _ rfl [.int .i64 x.id, .int .i64 x.us, .int .i64 x.cl, .int .i64 x.x.a, .int .i64 x.x.b, .int .i64 x.x.c, .bool x.x.p, .bool x.x.q, .bool x.x.r, .bool x.x.tn, .int .i64 x.wa, .int .i64 x.pr, .bool x.he, .slice Y x.af.length cj, .int .u8 x.st, .int .i64 x.ca] _ (fun W hW => range_grown hW HR1.out.1 HR1.out.2) Tryz.underlying33 rfl (by kernel_rfl)) (by assumption) ?r3
          (try simp only [Act.put, List.setIfInBounds_toArray, List.set_cons_zero, List.set_cons_succ])
          refine' wpAnyH_take (i := 5) (v := ?v4) rfl (by kernel_rfl) (by kernel_rfl) (by kernel_rfl) (fun _ _ _ h => h) (Or.inl ⟨by rfl, ?y4⟩) (by assumption) ?r4
          case y4 => (intro W hSw; (try dsimp only at hSw); go_simp; try with_reducible rfl)
          (try simp only [Act.put, List.setIfInBounds_toArray, List.set_cons_zero, List.set_cons_succ])
          refine' wpAnyH_take (i := 6) (v := ?v5) rfl (by kernel_rfl) (by kernel_rfl) (by kernel_rfl) (fun _ _ _ h => h) (Or.inl ⟨by rfl, ?y5⟩) (by assumption) ?r5
          case y5 => (intro W hSw; (try dsimp only at hSw); have q0 := World.grownBy.cell hSw y0 HR1.out.2; go_simp; try with_reducible rfl)
          (try simp only [Act.put, List.setIfInBounds_toArray, List.set_cons_zero, List.set_cons_succ])
          refine wpAnyH_ready (rs := [3]) (by kernel_rfl) (by simp) ?_
          refine AllReadyH.cons (i := 3) rfl (fun K hK => ?_) ?_
          · go_simp
            refine (HKY.out x Y cj wc.drew HCX.out.1 (HK.out.up HCX.out.2)).mono ?_
            rintro e w3 ⟨rfl, hB3⟩
            have KB : Below wc.heap.size wc w3 := below_up (Below.refl _ _).drew hB3
            clear hB3
            (try dsimp only)
            refine hK.out _ _ ?_ (fun hHeld => ?_)
            · exact grown_of_below KB _
            clear hK K
            (try simp only [Act.put, List.setIfInBounds_toArray, List.set_cons_zero, List.set_cons_succ])
            refine wpAnyH_ready (rs := [4]) (by kernel_rfl) (by simp) ?_
            refine AllReadyH.cons (i := 4) rfl (fun K hK => ?_) ?_
            · go_simp
              refine hK.out _ _ ?_ (fun hHeld => ?_)
              · exact grown_of_below KB _
              clear hK K
              (try simp only [Act.put, List.setIfInBounds_toArray, List.set_cons_zero, List.set_cons_succ])
              refine wpAnyH_ready (rs := [7]) (by kernel_rfl) (by simp) ?_
              refine AllReadyH.cons (i := 7) rfl (fun K hK => ?_) ?_
              · go_simp
                refine hK.out _ _ ?_ (fun hHeld => ?_)
                · exact grown_of_below KB _
                clear hK K
                (try simp only [Act.put, List.setIfInBounds_toArray, List.set_cons_zero, List.set_cons_succ])
                refine wpAnyH_ready (rs := [8]) (by kernel_rfl) (by simp) ?_
                refine AllReadyH.cons (i := 8) rfl (fun K hK => ?_) ?_
                · go_simp
                  refine hK.out _ _ ?_ (fun hHeld => ?_)
                  · exact grown_of_below (below_alloc KB) _
                  clear hK K
                  (try simp only [Act.put, List.setIfInBounds_toArray, List.set_cons_zero, List.set_cons_succ])
                  refine wpAnyH_ready (rs := [9]) (by kernel_rfl) (by simp) ?_
                  refine AllReadyH.cons (i := 9) rfl (fun K hK => ?_) ?_
                  · refine step_append_any _ rfl (.tmp 33) (.tmp 41) _ rfl w.heap.size 52 i2 (.agg #[.int .i64 0, .int .i64 0]) 2 16 Tryz.underlying51 H22.out.1 H22.out.2.1 H22.out.2.2.1 H22.out.2.2.2 rfl (by decide) v _ _ rfl (ownsRow_below HOZ.out (below_alloc KB)) _ _ 1 1 [.int .i64 (-(keyV ks ag x)), .int .i64 x.id] rfl (reads_new w3 _ _ rfl _) (by intro u hu; simp at hu; rcases hu with rfl | rfl <;> rfl) (by have := HLN.out; simp only [maxLen]; omega) (by have := HLN.out; omega) (by have := HZS.out; have := KB.size; simp; omega) ?_
                    intro v5 w5 hown hg hat
                    have HO5 := Lib.hid hown
                    have HG5 := Lib.hid (grown_trans (grown_of_below (below_alloc KB) _) hg)
                    clear hown hg hat
                    refine hK.out _ _ ?_ (fun hHeld => ?_)
                    · exact HG5.out
                    clear hK K
                    (try simp only [Act.put, List.setIfInBounds_toArray, List.set_cons_zero, List.set_cons_succ])
                    refine wpAnyH_ready (rs := [10]) (by kernel_rfl) (by simp) ?_
                    refine AllReadyH.cons (i := 10) rfl (fun K hK => ?_) ?_
                    · go_simp
                      refine hK.out _ _ ?_ (fun hHeld => ?_)
                      · exact HG5.out
                      clear hK K
                      (try simp only [Act.put, List.setIfInBounds_toArray, List.set_cons_zero, List.set_cons_succ])
                      refine wpAnyH_done (by kernel_rfl) ?_ _
                      refine NoPanic.normal ?_
                      go_wp2_with fail
                      go_roundw
                      case rel => exact ⟨k + 1, v5, rfl, by omega, by go_num, by rw [HPS.out, flat_one, List.length_append]; exact HO5.out, HGK.out.1.grown HG5.out HGK.out.2.1, HGK.out.2.2.grown HG5.out HZS.out (fun j hj => own_block_ge HOW.out hj)⟩
                      case measure => simp [intOf]; omega
                    exact AllReadyH.nil
                  exact AllReadyH.nil
                exact AllReadyH.nil
              exact AllReadyH.nil
            exact AllReadyH.nil
          exact AllReadyH.nil
    · obtain rfl : k = l.length := by omega
      have hO2 := hO.out
      rw [List.take_length] at hO2
      have HO2 := Lib.hid hO2
      have hpl := pairs_len ks ag l
      have HPL := Lib.hid hpl
      clear hO2 hO hpl
      go_wp2_with fail
      refine (sortP_any w.heap.size v (pairs ks ag l) _ (by have := HPL.out; omega) hB.out.size HO2.out).mono ?_
      rintro e w4 ⟨rfl, hB4, hP⟩
      obtain ⟨X4, c4, hv4, hP⟩ := hP
      subst hv4
      have hol : (ordP (pairs ks ag l)).length ≤ 1000 := by rw [(ord_perm _).length_eq]; have := HPL.out; omega
      have hres : R = (ordP (pairs ks ag l)).map (·.2) := HRR.out
      generalize ordP (pairs ks ag l) = os at *
      have HRES := Lib.hid hres
      have HB4 := Lib.hid (hB.out.trans hB4)
      have HP := Lib.hid (show PairsAt w4 (.slice X4 os.length c4) os from ⟨X4, c4, rfl, hP⟩)
      have HOL := Lib.hid hol
      have HZ4 := Lib.hid (show 0 < w4.heap.size by have := hC.out.lt; have := hB4.size; omega)
      clear hB4 hP hres hB HO2 HPL hC HRR
      go_wp2_with fail
      go_loopw [10, 48] (fun v i wr => ∃ (k : Nat) (vv : Value), vv = v ∧ k ≤ os.length ∧ i = .int .i64 k ∧ Hid (wr.ownsRow w4.heap.size 3 1 vv k ((os.take k).map (fun q => Value.int .i64 q.2))) ∧ Hid (Below w4.heap.size w4 wr))
        (fun _ i _ => os.length - (intOf i).toNat)
      case atStart => exact ⟨0, _, rfl, Nat.zero_le _, rfl, ⟨rfl, .inl ⟨rfl, rfl⟩⟩, Below.refl _ _⟩
      case round =>
        obtain ⟨k, v, hv, hk, rfl, hO, hB⟩ := hrel
        subst hv
        by_cases hlt : k < os.length
        · have hg : os[k]? = some os[k] := List.getElem?_eq_getElem hlt
          generalize os[k] = q at hg
          have hki : (k : Int) < (os.length : Int) := by omega
          have hki0 : (0 : Int) ≤ (k : Int) := by omega
          obtain ⟨X5, c5, e5, hP⟩ := PairsAt.up HP.out hB.out
          obtain ⟨b, e6, hb, y0, y1⟩ := hP k q hg
          have e7 : X4 = some ⟨b, 0, none⟩ := by simp at e5; rw [e5.1, e6]
          have htk : (os.take (k + 1)).map (fun q => Value.int .i64 q.2) = (os.take k).map (fun q => Value.int .i64 q.2) ++ [.int .i64 q.2] := by rw [List.take_add_one, hg]; simp
          have HTK := Lib.hid htk
          subst e7
          have HBS := Lib.hid hB.out.size
          clear e5 e6 hP hg htk hb
          go_wp2_with (first | (at_builtin; refine wpList_append_any _ rfl (.tmp 52) (.tmp 55) _ rfl w4.heap.size 3 ii (.int .i64 0) 1 8 Tryz.underlying31 HII.out.1 HII.out.2.1 HII.out.2.2.1 HII.out.2.2.2 rfl (by decide) v k _ rfl (ownsRow_below hO.out (below_alloc (below_alloc (Below.refl _ _)))) _ _ 1 1 [.int .i64 q.2] rfl (reads_new _ _ _ (by simp) _) (by intro u hu; simp at hu; subst hu; rfl) (by have := HOL.out; simp only [maxLen]; omega) (by have := HOL.out; omega) (by have := HBS.out; simp; omega) ?_; intro v5 w5 hown hg hat; have H5 := Lib.hid (And.intro hown hg); clear hown hg hat))
          go_roundw
          case rel => exact ⟨k + 1, v5, rfl, by omega, by go_num, by rw [HTK.out]; exact H5.out.1, (below_alloc (below_alloc hB.out)).grown H5.out.2 (by have := HBS.out; simp; omega) (fun j hj => own_block_ge hO.out hj)⟩
          case measure => simp [intOf]; omega
        · obtain rfl : k = os.length := by omega
          have hO2 := hO.out
          rw [List.take_length] at hO2
          have HO2 := Lib.hid hO2
          clear hO2
          go_wp2_with fail
          obtain ⟨X9, c9, e9, h9⟩ := ints_of_own (l := R) (g0 := 0) HZ4.out (by rw [HRES.out, List.length_map]) (by rw [HRES.out, List.map_map]; exact HO2.out)
          go_ret2
          exact ⟨X9, c9, by rw [e9]; rfl, h9.ints, HB4.out.trans (hB.out.mono HB4.out.size)⟩
end Go.Proofs.YtfpljpdjohmbaaaGreat.RankOrd
/-! The order by selection: the best of those that wait and are not yet in it, again and again, is the sorted one. No conditions but those named. -/
namespace Go.Proofs.YtfpljpdjohmbaaaGreat.RankSel
open Go.RowKit PosMath PartMath JobMath DepsMath RankMath
set_option linter.unusedVariables false
set_option linter.unusedSimpArgs false

/-- Who waits and is not in the order yet. -/
def cand (os : List Int) (j : JV) : Bool := !(os.contains j.id) && waitsB j
/-- The best of the first k. -/
def BestOf (ks : List Cls) (ag : Int) (l : List JV) (os : List Int) (k : Nat) (a : Int) : Prop :=
  (a = -1 ∧ ∀ (i : Nat) (j : JV), i < k → l[i]? = some j → cand os j = false) ∨
  ∃ (n : Nat) (x : JV), a = (n : Int) ∧ n < k ∧ l[n]? = some x ∧ cand os x = true ∧ ∀ (i : Nat) (j : JV), i < k → l[i]? = some j → cand os j = true → keyV ks ag j < keyV ks ag x ∨ (keyV ks ag j = keyV ks ag x ∧ n ≤ i)
theorem BestOf.zero (ks : List Cls) (ag : Int) (l : List JV) (os : List Int) : BestOf ks ag l os 0 (-1) := .inl ⟨rfl, fun i j h => by omega⟩
section
variable {ks : List Cls} {ag : Int} {l : List JV} {os : List Int} {k : Nat} {a : Int} {x : JV}
/-- One that is no candidate. -/
theorem BestOf.skip (h : BestOf ks ag l os k a) (hx : l[k]? = some x) (hc : cand os x = false) : BestOf ks ag l os (k + 1) a := by
  rcases h with ⟨rfl, h⟩ | ⟨n, y, rfl, hn, hy, hcy, h⟩
  · refine .inl ⟨rfl, fun i j hi hj => ?_⟩
    rcases Nat.lt_or_ge i k with h1 | h1
    · exact h i j h1 hj
    · obtain rfl : i = k := by omega
      rw [hx] at hj; cases hj; exact hc
  · refine .inr ⟨n, y, rfl, by omega, hy, hcy, fun i j hi hj hcj => ?_⟩
    rcases Nat.lt_or_ge i k with h1 | h1
    · exact h i j h1 hj hcj
    · obtain rfl : i = k := by omega
      rw [hx] at hj; cases hj; rw [hc] at hcj; cases hcj
/-- The first candidate. -/
theorem BestOf.first (h : BestOf ks ag l os k (-1)) (hx : l[k]? = some x) (hc : cand os x = true) : BestOf ks ag l os (k + 1) (k : Int) := by
  rcases h with ⟨_, h⟩ | ⟨n, y, e, _⟩
  · refine .inr ⟨k, x, rfl, by omega, hx, hc, fun i j hi hj hcj => ?_⟩
    rcases Nat.lt_or_ge i k with h1 | h1
    · rw [h i j h1 hj] at hcj; cases hcj
    · obtain rfl : i = k := by omega
      rw [hx] at hj; cases hj; exact .inr ⟨rfl, Nat.le_refl _⟩
  · omega
theorem BestOf.better {n : Nat} {y : JV} (h : BestOf ks ag l os k (n : Int)) (hy : l[n]? = some y) (hx : l[k]? = some x) (hc : cand os x = true) (hk : keyV ks ag y < keyV ks ag x) : BestOf ks ag l os (k + 1) (k : Int) := by
  rcases h with ⟨e, _⟩ | ⟨m, z, e, hm, hz, hcz, h⟩
  · omega
  · obtain rfl : n = m := by omega
    rw [hy] at hz; cases hz
    refine .inr ⟨k, x, rfl, by omega, hx, hc, fun i j hi hj hcj => ?_⟩
    rcases Nat.lt_or_ge i k with h1 | h1
    · left
      rcases h i j h1 hj hcj with h2 | ⟨h2, _⟩ <;> omega
    · obtain rfl : i = k := by omega
      rw [hx] at hj; cases hj; exact .inr ⟨rfl, Nat.le_refl _⟩
theorem BestOf.worse {n : Nat} {y : JV} (h : BestOf ks ag l os k (n : Int)) (hy : l[n]? = some y) (hx : l[k]? = some x) (hk : ¬ keyV ks ag y < keyV ks ag x) : BestOf ks ag l os (k + 1) (n : Int) := by
  rcases h with ⟨e, _⟩ | ⟨m, z, e, hm, hz, hcz, h⟩
  · omega
  · obtain rfl : n = m := by omega
    rw [hy] at hz; cases hz
    refine .inr ⟨n, y, rfl, by omega, hy, hcz, fun i j hi hj hcj => ?_⟩
    rcases Nat.lt_or_ge i k with h1 | h1
    · exact h i j h1 hj hcj
    · obtain rfl : i = k := by omega
      rw [hx] at hj; cases hj
      by_cases h2 : keyV ks ag x < keyV ks ag y
      · exact .inl h2
      · exact .inr ⟨by omega, by omega⟩
/-- What is chosen is a place. -/
theorem BestOf.place (h : BestOf ks ag l os k a) (ha : ¬ a < 0) : ∃ (n : Nat) (x : JV), a = (n : Int) ∧ n < k ∧ l[n]? = some x ∧ cand os x = true := by
  rcases h with ⟨rfl, _⟩ | ⟨n, x, h1, h2, h3, h4, _⟩
  · omega
  · exact ⟨n, x, h1, h2, h3, h4⟩
end
section
variable {ks : List Cls} {ag : Int} {l : List JV} {m : Nat}
theorem order_of {i : Nat} {p : Int × Int} (h : (ordP (pairs ks ag l))[i]? = some p) : (orderV ks ag l)[i]? = some p.2 := by
  unfold orderV
  rw [List.getElem?_map, h]; rfl
theorem in_take {i : Nat} {v : Int} (h : (orderV ks ag l)[i]? = some v) (hi : i < m) : ((orderV ks ag l).take m).contains v = true := by
  rw [List.contains_iff_mem]
  exact List.mem_of_getElem? (i := i) (l := (orderV ks ag l).take m) (by rw [List.getElem?_take_of_lt hi]; exact h)
theorem not_take {p : Int × Int} (hu : Up l) (h : (ordP (pairs ks ag l))[m]? = some p) : ((orderV ks ag l).take m).contains p.2 = false := by
  rcases hb : ((orderV ks ag l).take m).contains p.2 with _ | _
  · rfl
  rw [List.contains_iff_mem] at hb
  obtain ⟨i, hi⟩ := List.getElem?_of_mem hb
  have hlt : i < m := by have := (List.getElem?_eq_some_iff.1 hi).1; rw [List.length_take] at this; omega
  rw [List.getElem?_take_of_lt hlt] at hi
  obtain ⟨q, hq, e⟩ := order_get hi
  have hn := List.pairwise_iff_getElem.1 (pairs_nodup (ks := ks) (ag := ag) hu)
  obtain ⟨h1, h1e⟩ := List.getElem?_eq_some_iff.1 hq
  obtain ⟨h2, h2e⟩ := List.getElem?_eq_some_iff.1 h
  have := hn i m h1 h2 hlt
  rw [h1e, h2e] at this
  exact absurd e this
theorem pair_at {x : JV} {n : Nat} (hx : l[n]? = some x) (hw : waitsB x = true) : ∃ i : Nat, (ordP (pairs ks ag l))[i]? = some (pairV ks ag x) := by
  have h1 : pairV ks ag x ∈ pairs ks ag l := List.mem_map.2 ⟨x, List.mem_filter.2 ⟨List.mem_of_getElem? hx, hw⟩, rfl⟩
  exact List.getElem?_of_mem ((ord_perm _).mem_iff.2 h1)
/-- The best of all is the next one. -/
theorem sel_next (hu : Up l) {n : Nat} {x : JV} (h : BestOf ks ag l ((orderV ks ag l).take m) l.length (n : Int)) (hx : l[n]? = some x) : (orderV ks ag l)[m]? = some x.id := by
  rcases h with ⟨e, _⟩ | ⟨n', y, e, hn, hy, hcy, h⟩
  · omega
  obtain rfl : n = n' := by omega
  rw [hx] at hy; cases hy
  unfold cand at hcy
  rw [Bool.and_eq_true] at hcy
  obtain ⟨hc1, hw⟩ := hcy
  obtain ⟨i, hi⟩ := pair_at (ks := ks) (ag := ag) hx hw
  have ho := order_of hi
  have hge : m ≤ i := by
    rcases Nat.lt_or_ge i m with h1 | h1
    · have := in_take ho h1
      simp only [pairV] at this
      rw [this] at hc1; cases hc1
    · exact h1
  have hmS : m < (ordP (pairs ks ag l)).length := by have := (List.getElem?_eq_some_iff.1 hi).1; omega
  have hp : (ordP (pairs ks ag l))[m]? = some (ordP (pairs ks ag l))[m] := List.getElem?_eq_getElem hmS
  generalize (ordP (pairs ks ag l))[m] = p at hp
  rcases Nat.eq_or_lt_of_le hge with e | hlt
  · subst e
    exact ho
  obtain ⟨k, y, hk, hwy, rfl⟩ := order_at hp
  have hcy : cand ((orderV ks ag l).take m) y = true := by
    unfold cand
    have := not_take hu hp
    simp only [pairV] at this
    rw [this, hwy]; rfl
  have hle : leP (pairV ks ag y) (pairV ks ag x) = true := by
    obtain ⟨h1, h1e⟩ := List.getElem?_eq_some_iff.1 hp
    obtain ⟨h2, h2e⟩ := List.getElem?_eq_some_iff.1 hi
    have := List.pairwise_iff_getElem.1 (ord_sorted (pairs ks ag l)) m i h1 h2 hlt
    rwa [h1e, h2e] at this
  rw [le_iff] at hle
  simp only [pairV] at hle
  have hb := h k y (List.getElem?_eq_some_iff.1 hk).1 hk hcy
  have hid : y.id = x.id := by
    rcases hb with h1 | ⟨h1, h2⟩
    · omega
    · have h3 : y.id ≤ x.id := by omega
      rcases Nat.eq_or_lt_of_le h2 with e2 | h4
      · subst e2
        rw [hx] at hk; cases hk; rfl
      · obtain ⟨a1, a2⟩ := List.getElem?_eq_some_iff.1 hx
        obtain ⟨b1, b2⟩ := List.getElem?_eq_some_iff.1 hk
        have := List.pairwise_iff_getElem.1 hu n k a1 b1 h4
        rw [a2, b2] at this
        omega
  have := order_of hp
  simp only [pairV] at this
  rw [this, hid]
/-- Where none is left the order is whole. -/
theorem sel_done (hu : Up l) (h : BestOf ks ag l ((orderV ks ag l).take m) l.length (-1)) : (orderV ks ag l).take m = orderV ks ag l := by
  rcases h with ⟨_, h⟩ | ⟨n', y, e, _⟩
  · refine List.take_of_length_le ?_
    rcases Nat.lt_or_ge m (orderV ks ag l).length with hlt | hge
    · have hmS : m < (ordP (pairs ks ag l)).length := by unfold orderV at hlt; rwa [List.length_map] at hlt
      have hp : (ordP (pairs ks ag l))[m]? = some (ordP (pairs ks ag l))[m] := List.getElem?_eq_getElem hmS
      generalize (ordP (pairs ks ag l))[m] = p at hp
      obtain ⟨k, y, hk, hwy, rfl⟩ := order_at hp
      have h1 := not_take hu hp
      simp only [pairV] at h1
      have h2 := h k y (List.getElem?_eq_some_iff.1 hk).1 hk
      unfold cand at h2
      rw [h1, hwy] at h2
      cases h2
    · exact hge
  · omega
end
/-- Who is in the order, as the code keeps it. -/
def usedL (l : List JV) (os : List Int) : List Bool := l.map fun j => os.contains j.id
theorem used_nil (l : List JV) : usedL l [] = List.replicate l.length false := by
  unfold usedL
  rw [← List.map_const']
  exact List.map_congr_left fun j _ => rfl
theorem used_at {l : List JV} {os : List Int} {k : Nat} {x : JV} (h : l[k]? = some x) : (usedL l os)[k]? = some (os.contains x.id) := by
  unfold usedL
  rw [List.getElem?_map, h]; rfl
theorem used_set {l : List JV} {os : List Int} {n : Nat} {x : JV} (hu : Up l) (h : l[n]? = some x) : (usedL l os).set n true = usedL l (os ++ [x.id]) := by
  apply List.ext_getElem?
  intro i
  rw [List.getElem?_set]
  by_cases hi : n = i
  · subst hi
    have hl : n < (usedL l os).length := by unfold usedL; rw [List.length_map]; exact (List.getElem?_eq_some_iff.1 h).1
    rw [if_pos rfl, if_pos hl, used_at h]
    simp
  · rw [if_neg hi]
    unfold usedL
    rw [List.getElem?_map, List.getElem?_map]
    cases hj : l[i]? with
    | none => rfl
    | some j =>
      have hne : j.id ≠ x.id := by
        obtain ⟨a1, a2⟩ := List.getElem?_eq_some_iff.1 h
        obtain ⟨b1, b2⟩ := List.getElem?_eq_some_iff.1 hj
        have hp := List.pairwise_iff_getElem.1 hu
        rcases Nat.lt_or_ge n i with h1 | h1
        · have := hp n i a1 b1 h1; rw [a2, b2] at this; omega
        · have := hp i n b1 a1 (by omega); rw [a2, b2] at this; omega
      simp [hne]
end Go.Proofs.YtfpljpdjohmbaaaGreat.RankSel
/-! The reference's plain and after. -/
namespace Go.Proofs.YtfpljpdjohmbaaaGreat.JobRef1
open Go.Sort (grow)
open Go.RowKit Mem PosMath PartMath TurnMath JobMath JobIndex JobAfter
set_option linter.unusedVariables false
set_option linter.unusedSimpArgs false

set_option maxRecDepth 100000 in
set_option maxHeartbeats 2000000 in
theorem rp_0 (d0 d1 d2 bo fr tr ag : Int) (K : Option Addr) (kc : Nat) (ks : List Cls) (j : JV) (Y : Option Addr) (cj : Nat) (hl : ks.length ≤ 4611686018427387904)  (h0 : j.id < 1) (w : World) :
    Calls Tryz.prog 47 #[.agg #[.int .i64 d0, .int .i64 d1, .int .i64 d2, .int .i64 bo, .int .i64 fr, .int .i64 tr, .int .i64 ag, .slice K ks.length kc], .agg #[.int .i64 j.id, .int .i64 j.us, .int .i64 j.cl, .int .i64 j.x.a, .int .i64 j.x.b, .int .i64 j.x.c, .bool j.x.p, .bool j.x.q, .bool j.x.r, .bool j.x.tn, .int .i64 j.wa, .int .i64 j.pr, .bool j.he, .slice Y j.af.length cj, .int .u8 j.st, .int .i64 j.ca]] w fun e w' => e = .returned (.bool false) ∧ Below w.heap.size w w' := by
  go_enter Tryz.func47, Tryz.ntmps47
  go_wp2_with fail
  go_ret
  exact ⟨rfl, (below_alloc (below_alloc (Below.refl _ _)))⟩
set_option maxRecDepth 100000 in
set_option maxHeartbeats 2000000 in
theorem rp_1 (d0 d1 d2 bo fr tr ag : Int) (K : Option Addr) (kc : Nat) (ks : List Cls) (j : JV) (Y : Option Addr) (cj : Nat) (hl : ks.length ≤ 4611686018427387904) (h0 : ¬ j.id < 1) (h1 : 2147483647 < j.id) (w : World) :
    Calls Tryz.prog 47 #[.agg #[.int .i64 d0, .int .i64 d1, .int .i64 d2, .int .i64 bo, .int .i64 fr, .int .i64 tr, .int .i64 ag, .slice K ks.length kc], .agg #[.int .i64 j.id, .int .i64 j.us, .int .i64 j.cl, .int .i64 j.x.a, .int .i64 j.x.b, .int .i64 j.x.c, .bool j.x.p, .bool j.x.q, .bool j.x.r, .bool j.x.tn, .int .i64 j.wa, .int .i64 j.pr, .bool j.he, .slice Y j.af.length cj, .int .u8 j.st, .int .i64 j.ca]] w fun e w' => e = .returned (.bool false) ∧ Below w.heap.size w w' := by
  go_enter Tryz.func47, Tryz.ntmps47
  go_wp2_with fail
  go_ret
  exact ⟨rfl, (below_alloc (below_alloc (Below.refl _ _)))⟩
set_option maxRecDepth 100000 in
set_option maxHeartbeats 2000000 in
theorem rp_2 (d0 d1 d2 bo fr tr ag : Int) (K : Option Addr) (kc : Nat) (ks : List Cls) (j : JV) (Y : Option Addr) (cj : Nat) (hl : ks.length ≤ 4611686018427387904) (h0 : ¬ j.id < 1) (h1 : ¬ 2147483647 < j.id) (h2 : j.us < 1) (w : World) :
    Calls Tryz.prog 47 #[.agg #[.int .i64 d0, .int .i64 d1, .int .i64 d2, .int .i64 bo, .int .i64 fr, .int .i64 tr, .int .i64 ag, .slice K ks.length kc], .agg #[.int .i64 j.id, .int .i64 j.us, .int .i64 j.cl, .int .i64 j.x.a, .int .i64 j.x.b, .int .i64 j.x.c, .bool j.x.p, .bool j.x.q, .bool j.x.r, .bool j.x.tn, .int .i64 j.wa, .int .i64 j.pr, .bool j.he, .slice Y j.af.length cj, .int .u8 j.st, .int .i64 j.ca]] w fun e w' => e = .returned (.bool false) ∧ Below w.heap.size w w' := by
  go_enter Tryz.func47, Tryz.ntmps47
  go_wp2_with fail
  go_ret
  exact ⟨rfl, (below_alloc (below_alloc (Below.refl _ _)))⟩
set_option maxRecDepth 100000 in
set_option maxHeartbeats 2000000 in
theorem rp_3 (d0 d1 d2 bo fr tr ag : Int) (K : Option Addr) (kc : Nat) (ks : List Cls) (j : JV) (Y : Option Addr) (cj : Nat) (hl : ks.length ≤ 4611686018427387904) (h0 : ¬ j.id < 1) (h1 : ¬ 2147483647 < j.id) (h2 : ¬ j.us < 1) (h3 : 255 < j.us) (w : World) :
    Calls Tryz.prog 47 #[.agg #[.int .i64 d0, .int .i64 d1, .int .i64 d2, .int .i64 bo, .int .i64 fr, .int .i64 tr, .int .i64 ag, .slice K ks.length kc], .agg #[.int .i64 j.id, .int .i64 j.us, .int .i64 j.cl, .int .i64 j.x.a, .int .i64 j.x.b, .int .i64 j.x.c, .bool j.x.p, .bool j.x.q, .bool j.x.r, .bool j.x.tn, .int .i64 j.wa, .int .i64 j.pr, .bool j.he, .slice Y j.af.length cj, .int .u8 j.st, .int .i64 j.ca]] w fun e w' => e = .returned (.bool false) ∧ Below w.heap.size w w' := by
  go_enter Tryz.func47, Tryz.ntmps47
  go_wp2_with fail
  go_ret
  exact ⟨rfl, (below_alloc (below_alloc (Below.refl _ _)))⟩
set_option maxRecDepth 100000 in
set_option maxHeartbeats 2000000 in
theorem rp_4 (d0 d1 d2 bo fr tr ag : Int) (K : Option Addr) (kc : Nat) (ks : List Cls) (j : JV) (Y : Option Addr) (cj : Nat) (hl : ks.length ≤ 4611686018427387904) (h0 : ¬ j.id < 1) (h1 : ¬ 2147483647 < j.id) (h2 : ¬ j.us < 1) (h3 : ¬ 255 < j.us) (h4 : j.cl < 0) (w : World) :
    Calls Tryz.prog 47 #[.agg #[.int .i64 d0, .int .i64 d1, .int .i64 d2, .int .i64 bo, .int .i64 fr, .int .i64 tr, .int .i64 ag, .slice K ks.length kc], .agg #[.int .i64 j.id, .int .i64 j.us, .int .i64 j.cl, .int .i64 j.x.a, .int .i64 j.x.b, .int .i64 j.x.c, .bool j.x.p, .bool j.x.q, .bool j.x.r, .bool j.x.tn, .int .i64 j.wa, .int .i64 j.pr, .bool j.he, .slice Y j.af.length cj, .int .u8 j.st, .int .i64 j.ca]] w fun e w' => e = .returned (.bool false) ∧ Below w.heap.size w w' := by
  go_enter Tryz.func47, Tryz.ntmps47
  go_wp2_with fail
  go_ret
  exact ⟨rfl, (below_alloc (below_alloc (Below.refl _ _)))⟩
set_option maxRecDepth 100000 in
set_option maxHeartbeats 2000000 in
theorem rp_5 (d0 d1 d2 bo fr tr ag : Int) (K : Option Addr) (kc : Nat) (ks : List Cls) (j : JV) (Y : Option Addr) (cj : Nat) (hl : ks.length ≤ 4611686018427387904) (h0 : ¬ j.id < 1) (h1 : ¬ 2147483647 < j.id) (h2 : ¬ j.us < 1) (h3 : ¬ 255 < j.us) (h4 : ¬ j.cl < 0) (h5 : (ks.length : Int) ≤ j.cl) (w : World) :
    Calls Tryz.prog 47 #[.agg #[.int .i64 d0, .int .i64 d1, .int .i64 d2, .int .i64 bo, .int .i64 fr, .int .i64 tr, .int .i64 ag, .slice K ks.length kc], .agg #[.int .i64 j.id, .int .i64 j.us, .int .i64 j.cl, .int .i64 j.x.a, .int .i64 j.x.b, .int .i64 j.x.c, .bool j.x.p, .bool j.x.q, .bool j.x.r, .bool j.x.tn, .int .i64 j.wa, .int .i64 j.pr, .bool j.he, .slice Y j.af.length cj, .int .u8 j.st, .int .i64 j.ca]] w fun e w' => e = .returned (.bool false) ∧ Below w.heap.size w w' := by
  go_enter Tryz.func47, Tryz.ntmps47
  go_wp2_with fail
  go_ret
  exact ⟨rfl, (below_alloc (below_alloc (Below.refl _ _)))⟩
set_option maxRecDepth 100000 in
set_option maxHeartbeats 2000000 in
theorem rp_6 (d0 d1 d2 bo fr tr ag : Int) (K : Option Addr) (kc : Nat) (ks : List Cls) (j : JV) (Y : Option Addr) (cj : Nat) (hl : ks.length ≤ 4611686018427387904) (h0 : ¬ j.id < 1) (h1 : ¬ 2147483647 < j.id) (h2 : ¬ j.us < 1) (h3 : ¬ 255 < j.us) (h4 : ¬ j.cl < 0) (h5 : ¬ (ks.length : Int) ≤ j.cl) (h6 : j.wa < 1) (w : World) :
    Calls Tryz.prog 47 #[.agg #[.int .i64 d0, .int .i64 d1, .int .i64 d2, .int .i64 bo, .int .i64 fr, .int .i64 tr, .int .i64 ag, .slice K ks.length kc], .agg #[.int .i64 j.id, .int .i64 j.us, .int .i64 j.cl, .int .i64 j.x.a, .int .i64 j.x.b, .int .i64 j.x.c, .bool j.x.p, .bool j.x.q, .bool j.x.r, .bool j.x.tn, .int .i64 j.wa, .int .i64 j.pr, .bool j.he, .slice Y j.af.length cj, .int .u8 j.st, .int .i64 j.ca]] w fun e w' => e = .returned (.bool false) ∧ Below w.heap.size w w' := by
  go_enter Tryz.func47, Tryz.ntmps47
  go_wp2_with fail
  go_ret
  exact ⟨rfl, (below_alloc (below_alloc (Below.refl _ _)))⟩
set_option maxRecDepth 100000 in
set_option maxHeartbeats 2000000 in
theorem rp_7 (d0 d1 d2 bo fr tr ag : Int) (K : Option Addr) (kc : Nat) (ks : List Cls) (j : JV) (Y : Option Addr) (cj : Nat) (hl : ks.length ≤ 4611686018427387904) (h0 : ¬ j.id < 1) (h1 : ¬ 2147483647 < j.id) (h2 : ¬ j.us < 1) (h3 : ¬ 255 < j.us) (h4 : ¬ j.cl < 0) (h5 : ¬ (ks.length : Int) ≤ j.cl) (h6 : ¬ j.wa < 1) (h7 : 1048576 < j.wa) (w : World) :
    Calls Tryz.prog 47 #[.agg #[.int .i64 d0, .int .i64 d1, .int .i64 d2, .int .i64 bo, .int .i64 fr, .int .i64 tr, .int .i64 ag, .slice K ks.length kc], .agg #[.int .i64 j.id, .int .i64 j.us, .int .i64 j.cl, .int .i64 j.x.a, .int .i64 j.x.b, .int .i64 j.x.c, .bool j.x.p, .bool j.x.q, .bool j.x.r, .bool j.x.tn, .int .i64 j.wa, .int .i64 j.pr, .bool j.he, .slice Y j.af.length cj, .int .u8 j.st, .int .i64 j.ca]] w fun e w' => e = .returned (.bool false) ∧ Below w.heap.size w w' := by
  go_enter Tryz.func47, Tryz.ntmps47
  go_wp2_with fail
  go_ret
  exact ⟨rfl, (below_alloc (below_alloc (Below.refl _ _)))⟩
set_option maxRecDepth 100000 in
set_option maxHeartbeats 2000000 in
theorem rp_8 (d0 d1 d2 bo fr tr ag : Int) (K : Option Addr) (kc : Nat) (ks : List Cls) (j : JV) (Y : Option Addr) (cj : Nat) (hl : ks.length ≤ 4611686018427387904) (h0 : ¬ j.id < 1) (h1 : ¬ 2147483647 < j.id) (h2 : ¬ j.us < 1) (h3 : ¬ 255 < j.us) (h4 : ¬ j.cl < 0) (h5 : ¬ (ks.length : Int) ≤ j.cl) (h6 : ¬ j.wa < 1) (h7 : ¬ 1048576 < j.wa) (h8 : j.pr < -1000) (w : World) :
    Calls Tryz.prog 47 #[.agg #[.int .i64 d0, .int .i64 d1, .int .i64 d2, .int .i64 bo, .int .i64 fr, .int .i64 tr, .int .i64 ag, .slice K ks.length kc], .agg #[.int .i64 j.id, .int .i64 j.us, .int .i64 j.cl, .int .i64 j.x.a, .int .i64 j.x.b, .int .i64 j.x.c, .bool j.x.p, .bool j.x.q, .bool j.x.r, .bool j.x.tn, .int .i64 j.wa, .int .i64 j.pr, .bool j.he, .slice Y j.af.length cj, .int .u8 j.st, .int .i64 j.ca]] w fun e w' => e = .returned (.bool false) ∧ Below w.heap.size w w' := by
  go_enter Tryz.func47, Tryz.ntmps47
  go_wp2_with fail
  go_ret
  exact ⟨rfl, (below_alloc (below_alloc (Below.refl _ _)))⟩
set_option maxRecDepth 100000 in
set_option maxHeartbeats 2000000 in
theorem rp_9 (d0 d1 d2 bo fr tr ag : Int) (K : Option Addr) (kc : Nat) (ks : List Cls) (j : JV) (Y : Option Addr) (cj : Nat) (hl : ks.length ≤ 4611686018427387904) (h0 : ¬ j.id < 1) (h1 : ¬ 2147483647 < j.id) (h2 : ¬ j.us < 1) (h3 : ¬ 255 < j.us) (h4 : ¬ j.cl < 0) (h5 : ¬ (ks.length : Int) ≤ j.cl) (h6 : ¬ j.wa < 1) (h7 : ¬ 1048576 < j.wa) (h8 : ¬ j.pr < -1000) (h9 : 1000 < j.pr) (w : World) :
    Calls Tryz.prog 47 #[.agg #[.int .i64 d0, .int .i64 d1, .int .i64 d2, .int .i64 bo, .int .i64 fr, .int .i64 tr, .int .i64 ag, .slice K ks.length kc], .agg #[.int .i64 j.id, .int .i64 j.us, .int .i64 j.cl, .int .i64 j.x.a, .int .i64 j.x.b, .int .i64 j.x.c, .bool j.x.p, .bool j.x.q, .bool j.x.r, .bool j.x.tn, .int .i64 j.wa, .int .i64 j.pr, .bool j.he, .slice Y j.af.length cj, .int .u8 j.st, .int .i64 j.ca]] w fun e w' => e = .returned (.bool false) ∧ Below w.heap.size w w' := by
  go_enter Tryz.func47, Tryz.ntmps47
  go_wp2_with fail
  go_ret
  exact ⟨rfl, (below_alloc (below_alloc (Below.refl _ _)))⟩
set_option maxRecDepth 100000 in
set_option maxHeartbeats 2000000 in
theorem rp_10 (d0 d1 d2 bo fr tr ag : Int) (K : Option Addr) (kc : Nat) (ks : List Cls) (j : JV) (Y : Option Addr) (cj : Nat) (hl : ks.length ≤ 4611686018427387904) (h0 : ¬ j.id < 1) (h1 : ¬ 2147483647 < j.id) (h2 : ¬ j.us < 1) (h3 : ¬ 255 < j.us) (h4 : ¬ j.cl < 0) (h5 : ¬ (ks.length : Int) ≤ j.cl) (h6 : ¬ j.wa < 1) (h7 : ¬ 1048576 < j.wa) (h8 : ¬ j.pr < -1000) (h9 : ¬ 1000 < j.pr) (h10 : j.ca < 0) (w : World) :
    Calls Tryz.prog 47 #[.agg #[.int .i64 d0, .int .i64 d1, .int .i64 d2, .int .i64 bo, .int .i64 fr, .int .i64 tr, .int .i64 ag, .slice K ks.length kc], .agg #[.int .i64 j.id, .int .i64 j.us, .int .i64 j.cl, .int .i64 j.x.a, .int .i64 j.x.b, .int .i64 j.x.c, .bool j.x.p, .bool j.x.q, .bool j.x.r, .bool j.x.tn, .int .i64 j.wa, .int .i64 j.pr, .bool j.he, .slice Y j.af.length cj, .int .u8 j.st, .int .i64 j.ca]] w fun e w' => e = .returned (.bool false) ∧ Below w.heap.size w w' := by
  go_enter Tryz.func47, Tryz.ntmps47
  go_wp2_with fail
  go_ret
  exact ⟨rfl, (below_alloc (below_alloc (Below.refl _ _)))⟩
set_option maxRecDepth 100000 in
set_option maxHeartbeats 2000000 in
theorem rp_11 (d0 d1 d2 bo fr tr ag : Int) (K : Option Addr) (kc : Nat) (ks : List Cls) (j : JV) (Y : Option Addr) (cj : Nat) (hl : ks.length ≤ 4611686018427387904) (h0 : ¬ j.id < 1) (h1 : ¬ 2147483647 < j.id) (h2 : ¬ j.us < 1) (h3 : ¬ 255 < j.us) (h4 : ¬ j.cl < 0) (h5 : ¬ (ks.length : Int) ≤ j.cl) (h6 : ¬ j.wa < 1) (h7 : ¬ 1048576 < j.wa) (h8 : ¬ j.pr < -1000) (h9 : ¬ 1000 < j.pr) (h10 : ¬ j.ca < 0) (h11 : 1099511627776 < j.ca) (w : World) :
    Calls Tryz.prog 47 #[.agg #[.int .i64 d0, .int .i64 d1, .int .i64 d2, .int .i64 bo, .int .i64 fr, .int .i64 tr, .int .i64 ag, .slice K ks.length kc], .agg #[.int .i64 j.id, .int .i64 j.us, .int .i64 j.cl, .int .i64 j.x.a, .int .i64 j.x.b, .int .i64 j.x.c, .bool j.x.p, .bool j.x.q, .bool j.x.r, .bool j.x.tn, .int .i64 j.wa, .int .i64 j.pr, .bool j.he, .slice Y j.af.length cj, .int .u8 j.st, .int .i64 j.ca]] w fun e w' => e = .returned (.bool false) ∧ Below w.heap.size w w' := by
  go_enter Tryz.func47, Tryz.ntmps47
  go_wp2_with fail
  go_ret
  exact ⟨rfl, (below_alloc (below_alloc (Below.refl _ _)))⟩
set_option maxRecDepth 100000 in
set_option maxHeartbeats 2000000 in
theorem rp_lo (d0 d1 d2 bo fr tr ag : Int) (K : Option Addr) (kc : Nat) (ks : List Cls) (j : JV) (Y : Option Addr) (cj : Nat) (hl : ks.length ≤ 4611686018427387904) (h0 : ¬ j.id < 1) (h1 : ¬ 2147483647 < j.id) (h2 : ¬ j.us < 1) (h3 : ¬ 255 < j.us) (h4 : ¬ j.cl < 0) (h5 : ¬ (ks.length : Int) ≤ j.cl) (h6 : ¬ j.wa < 1) (h7 : ¬ 1048576 < j.wa) (h8 : ¬ j.pr < -1000) (h9 : ¬ 1000 < j.pr) (h10 : ¬ j.ca < 0) (h11 : ¬ 1099511627776 < j.ca) (t0 : ¬ 1 ≤ j.st) (w : World) :
    Calls Tryz.prog 47 #[.agg #[.int .i64 d0, .int .i64 d1, .int .i64 d2, .int .i64 bo, .int .i64 fr, .int .i64 tr, .int .i64 ag, .slice K ks.length kc], .agg #[.int .i64 j.id, .int .i64 j.us, .int .i64 j.cl, .int .i64 j.x.a, .int .i64 j.x.b, .int .i64 j.x.c, .bool j.x.p, .bool j.x.q, .bool j.x.r, .bool j.x.tn, .int .i64 j.wa, .int .i64 j.pr, .bool j.he, .slice Y j.af.length cj, .int .u8 j.st, .int .i64 j.ca]] w fun e w' => e = .returned (.bool false) ∧ Below w.heap.size w w' := by
  go_enter Tryz.func47, Tryz.ntmps47
  go_wp2_with fail
  go_ret
  exact ⟨rfl, (below_alloc (below_alloc (Below.refl _ _)))⟩
set_option maxRecDepth 100000 in
set_option maxHeartbeats 2000000 in
theorem rp_hi (d0 d1 d2 bo fr tr ag : Int) (K : Option Addr) (kc : Nat) (ks : List Cls) (j : JV) (Y : Option Addr) (cj : Nat) (hl : ks.length ≤ 4611686018427387904) (h0 : ¬ j.id < 1) (h1 : ¬ 2147483647 < j.id) (h2 : ¬ j.us < 1) (h3 : ¬ 255 < j.us) (h4 : ¬ j.cl < 0) (h5 : ¬ (ks.length : Int) ≤ j.cl) (h6 : ¬ j.wa < 1) (h7 : ¬ 1048576 < j.wa) (h8 : ¬ j.pr < -1000) (h9 : ¬ 1000 < j.pr) (h10 : ¬ j.ca < 0) (h11 : ¬ 1099511627776 < j.ca) (t0 : 1 ≤ j.st) (t1 : ¬ j.st ≤ 6) (w : World) :
    Calls Tryz.prog 47 #[.agg #[.int .i64 d0, .int .i64 d1, .int .i64 d2, .int .i64 bo, .int .i64 fr, .int .i64 tr, .int .i64 ag, .slice K ks.length kc], .agg #[.int .i64 j.id, .int .i64 j.us, .int .i64 j.cl, .int .i64 j.x.a, .int .i64 j.x.b, .int .i64 j.x.c, .bool j.x.p, .bool j.x.q, .bool j.x.r, .bool j.x.tn, .int .i64 j.wa, .int .i64 j.pr, .bool j.he, .slice Y j.af.length cj, .int .u8 j.st, .int .i64 j.ca]] w fun e w' => e = .returned (.bool false) ∧ Below w.heap.size w w' := by
  go_enter Tryz.func47, Tryz.ntmps47
  go_wp2_with fail
  go_ret
  exact ⟨rfl, (below_alloc (below_alloc (Below.refl _ _)))⟩
set_option maxRecDepth 100000 in
set_option maxHeartbeats 2000000 in
theorem rp_free (d0 d1 d2 bo fr tr ag : Int) (K : Option Addr) (kc : Nat) (ks : List Cls) (j : JV) (Y : Option Addr) (cj : Nat) (hl : ks.length ≤ 4611686018427387904) (h0 : ¬ j.id < 1) (h1 : ¬ 2147483647 < j.id) (h2 : ¬ j.us < 1) (h3 : ¬ 255 < j.us) (h4 : ¬ j.cl < 0) (h5 : ¬ (ks.length : Int) ≤ j.cl) (h6 : ¬ j.wa < 1) (h7 : ¬ 1048576 < j.wa) (h8 : ¬ j.pr < -1000) (h9 : ¬ 1000 < j.pr) (h10 : ¬ j.ca < 0) (h11 : ¬ 1099511627776 < j.ca) (t0 : 1 ≤ j.st) (t1 : j.st ≤ 6) (t2 : j.he = false) (w : World) :
    Calls Tryz.prog 47 #[.agg #[.int .i64 d0, .int .i64 d1, .int .i64 d2, .int .i64 bo, .int .i64 fr, .int .i64 tr, .int .i64 ag, .slice K ks.length kc], .agg #[.int .i64 j.id, .int .i64 j.us, .int .i64 j.cl, .int .i64 j.x.a, .int .i64 j.x.b, .int .i64 j.x.c, .bool j.x.p, .bool j.x.q, .bool j.x.r, .bool j.x.tn, .int .i64 j.wa, .int .i64 j.pr, .bool j.he, .slice Y j.af.length cj, .int .u8 j.st, .int .i64 j.ca]] w fun e w' => e = .returned (.bool true) ∧ Below w.heap.size w w' := by
  rw [t2]
  go_enter Tryz.func47, Tryz.ntmps47
  go_wp2_with fail
  go_ret
  exact ⟨rfl, (below_alloc (below_alloc (Below.refl _ _)))⟩
set_option maxRecDepth 100000 in
set_option maxHeartbeats 2000000 in
theorem rp_waits (d0 d1 d2 bo fr tr ag : Int) (K : Option Addr) (kc : Nat) (ks : List Cls) (j : JV) (Y : Option Addr) (cj : Nat) (hl : ks.length ≤ 4611686018427387904) (h0 : ¬ j.id < 1) (h1 : ¬ 2147483647 < j.id) (h2 : ¬ j.us < 1) (h3 : ¬ 255 < j.us) (h4 : ¬ j.cl < 0) (h5 : ¬ (ks.length : Int) ≤ j.cl) (h6 : ¬ j.wa < 1) (h7 : ¬ 1048576 < j.wa) (h8 : ¬ j.pr < -1000) (h9 : ¬ 1000 < j.pr) (h10 : ¬ j.ca < 0) (h11 : ¬ 1099511627776 < j.ca) (t0 : 1 ≤ j.st) (t1 : j.st ≤ 6) (t2 : j.he = true) (t3 : j.st = 1) (w : World) :
    Calls Tryz.prog 47 #[.agg #[.int .i64 d0, .int .i64 d1, .int .i64 d2, .int .i64 bo, .int .i64 fr, .int .i64 tr, .int .i64 ag, .slice K ks.length kc], .agg #[.int .i64 j.id, .int .i64 j.us, .int .i64 j.cl, .int .i64 j.x.a, .int .i64 j.x.b, .int .i64 j.x.c, .bool j.x.p, .bool j.x.q, .bool j.x.r, .bool j.x.tn, .int .i64 j.wa, .int .i64 j.pr, .bool j.he, .slice Y j.af.length cj, .int .u8 j.st, .int .i64 j.ca]] w fun e w' => e = .returned (.bool true) ∧ Below w.heap.size w w' := by
  rw [t2]
  go_enter Tryz.func47, Tryz.ntmps47
  go_wp2_with fail
  go_ret
  exact ⟨rfl, (below_alloc (below_alloc (Below.refl _ _)))⟩
set_option maxRecDepth 100000 in
set_option maxHeartbeats 2000000 in
theorem rp_held (d0 d1 d2 bo fr tr ag : Int) (K : Option Addr) (kc : Nat) (ks : List Cls) (j : JV) (Y : Option Addr) (cj : Nat) (hl : ks.length ≤ 4611686018427387904) (h0 : ¬ j.id < 1) (h1 : ¬ 2147483647 < j.id) (h2 : ¬ j.us < 1) (h3 : ¬ 255 < j.us) (h4 : ¬ j.cl < 0) (h5 : ¬ (ks.length : Int) ≤ j.cl) (h6 : ¬ j.wa < 1) (h7 : ¬ 1048576 < j.wa) (h8 : ¬ j.pr < -1000) (h9 : ¬ 1000 < j.pr) (h10 : ¬ j.ca < 0) (h11 : ¬ 1099511627776 < j.ca) (t0 : 1 ≤ j.st) (t1 : j.st ≤ 6) (t2 : j.he = true) (t3 : ¬ j.st = 1) (w : World) :
    Calls Tryz.prog 47 #[.agg #[.int .i64 d0, .int .i64 d1, .int .i64 d2, .int .i64 bo, .int .i64 fr, .int .i64 tr, .int .i64 ag, .slice K ks.length kc], .agg #[.int .i64 j.id, .int .i64 j.us, .int .i64 j.cl, .int .i64 j.x.a, .int .i64 j.x.b, .int .i64 j.x.c, .bool j.x.p, .bool j.x.q, .bool j.x.r, .bool j.x.tn, .int .i64 j.wa, .int .i64 j.pr, .bool j.he, .slice Y j.af.length cj, .int .u8 j.st, .int .i64 j.ca]] w fun e w' => e = .returned (.bool false) ∧ Below w.heap.size w w' := by
  rw [t2]
  have t4 : (j.st == 1) = false := by simpa using t3
  go_enter Tryz.func47, Tryz.ntmps47
  go_wp2_with fail
  go_ret
  exact ⟨rfl, (below_alloc (below_alloc (Below.refl _ _)))⟩
set_option maxRecDepth 100000 in
set_option maxHeartbeats 1000000 in
theorem rplain (d0 d1 d2 bo fr tr ag : Int) (K : Option Addr) (kc : Nat) (ks : List Cls) (j : JV) (Y : Option Addr) (cj : Nat) (hl : ks.length ≤ 4611686018427387904) (r : Bool) (h : plainB ks.length j = r) (w : World) :
    Calls Tryz.prog 47 #[.agg #[.int .i64 d0, .int .i64 d1, .int .i64 d2, .int .i64 bo, .int .i64 fr, .int .i64 tr, .int .i64 ag, .slice K ks.length kc], .agg #[.int .i64 j.id, .int .i64 j.us, .int .i64 j.cl, .int .i64 j.x.a, .int .i64 j.x.b, .int .i64 j.x.c, .bool j.x.p, .bool j.x.q, .bool j.x.r, .bool j.x.tn, .int .i64 j.wa, .int .i64 j.pr, .bool j.he, .slice Y j.af.length cj, .int .u8 j.st, .int .i64 j.ca]] w fun e w' => e = .returned (.bool r) ∧ Below w.heap.size w w' := by
  by_cases h0 : j.id < 1
  · have e : inB j.id 1 2147483647 = false := decide_eq_false (by omega)
    have er : r = false := by rw [← h]; unfold plainB; simp [e]
    subst er
    exact rp_0 d0 d1 d2 bo fr tr ag K kc ks j Y cj hl h0 w
  by_cases h1 : 2147483647 < j.id
  · have e : inB j.id 1 2147483647 = false := decide_eq_false (by omega)
    have er : r = false := by rw [← h]; unfold plainB; simp [e]
    subst er
    exact rp_1 d0 d1 d2 bo fr tr ag K kc ks j Y cj hl h0 h1 w
  by_cases h2 : j.us < 1
  · have e : inB j.us 1 255 = false := decide_eq_false (by omega)
    have er : r = false := by rw [← h]; unfold plainB; simp [e]
    subst er
    exact rp_2 d0 d1 d2 bo fr tr ag K kc ks j Y cj hl h0 h1 h2 w
  by_cases h3 : 255 < j.us
  · have e : inB j.us 1 255 = false := decide_eq_false (by omega)
    have er : r = false := by rw [← h]; unfold plainB; simp [e]
    subst er
    exact rp_3 d0 d1 d2 bo fr tr ag K kc ks j Y cj hl h0 h1 h2 h3 w
  by_cases h4 : j.cl < 0
  · have e : inB j.cl 0 ((ks.length : Int) - 1) = false := decide_eq_false (by omega)
    have er : r = false := by rw [← h]; unfold plainB; simp [e]
    subst er
    exact rp_4 d0 d1 d2 bo fr tr ag K kc ks j Y cj hl h0 h1 h2 h3 h4 w
  by_cases h5 : (ks.length : Int) ≤ j.cl
  · have e : inB j.cl 0 ((ks.length : Int) - 1) = false := decide_eq_false (by omega)
    have er : r = false := by rw [← h]; unfold plainB; simp [e]
    subst er
    exact rp_5 d0 d1 d2 bo fr tr ag K kc ks j Y cj hl h0 h1 h2 h3 h4 h5 w
  by_cases h6 : j.wa < 1
  · have e : inB j.wa 1 1048576 = false := decide_eq_false (by omega)
    have er : r = false := by rw [← h]; unfold plainB; simp [e]
    subst er
    exact rp_6 d0 d1 d2 bo fr tr ag K kc ks j Y cj hl h0 h1 h2 h3 h4 h5 h6 w
  by_cases h7 : 1048576 < j.wa
  · have e : inB j.wa 1 1048576 = false := decide_eq_false (by omega)
    have er : r = false := by rw [← h]; unfold plainB; simp [e]
    subst er
    exact rp_7 d0 d1 d2 bo fr tr ag K kc ks j Y cj hl h0 h1 h2 h3 h4 h5 h6 h7 w
  by_cases h8 : j.pr < -1000
  · have e : inB j.pr (-1000) 1000 = false := decide_eq_false (by omega)
    have er : r = false := by rw [← h]; unfold plainB; simp [e]
    subst er
    exact rp_8 d0 d1 d2 bo fr tr ag K kc ks j Y cj hl h0 h1 h2 h3 h4 h5 h6 h7 h8 w
  by_cases h9 : 1000 < j.pr
  · have e : inB j.pr (-1000) 1000 = false := decide_eq_false (by omega)
    have er : r = false := by rw [← h]; unfold plainB; simp [e]
    subst er
    exact rp_9 d0 d1 d2 bo fr tr ag K kc ks j Y cj hl h0 h1 h2 h3 h4 h5 h6 h7 h8 h9 w
  by_cases h10 : j.ca < 0
  · have e : inB j.ca 0 1099511627776 = false := decide_eq_false (by omega)
    have er : r = false := by rw [← h]; unfold plainB; simp [e]
    subst er
    exact rp_10 d0 d1 d2 bo fr tr ag K kc ks j Y cj hl h0 h1 h2 h3 h4 h5 h6 h7 h8 h9 h10 w
  by_cases h11 : 1099511627776 < j.ca
  · have e : inB j.ca 0 1099511627776 = false := decide_eq_false (by omega)
    have er : r = false := by rw [← h]; unfold plainB; simp [e]
    subst er
    exact rp_11 d0 d1 d2 bo fr tr ag K kc ks j Y cj hl h0 h1 h2 h3 h4 h5 h6 h7 h8 h9 h10 h11 w
  have e0 : inB j.id 1 2147483647 = true := decide_eq_true (by omega)
  have e1 : inB j.us 1 255 = true := decide_eq_true (by omega)
  have e2 : inB j.cl 0 ((ks.length : Int) - 1) = true := decide_eq_true (by omega)
  have e3 : inB j.wa 1 1048576 = true := decide_eq_true (by omega)
  have e4 : inB j.pr (-1000) 1000 = true := decide_eq_true (by omega)
  have e5 : inB j.ca 0 1099511627776 = true := decide_eq_true (by omega)
  by_cases t0 : 1 ≤ j.st
  · by_cases t1 : j.st ≤ 6
    · rcases (show j.he = false ∨ j.he = true by cases j.he <;> simp) with t2 | t2
      · skip
        have er : r = true := by rw [← h]; unfold plainB; simp [e0, e1, e2, e3, e4, e5, t0, t1, t2]
        subst er
        exact rp_free d0 d1 d2 bo fr tr ag K kc ks j Y cj hl h0 h1 h2 h3 h4 h5 h6 h7 h8 h9 h10 h11 t0 t1 t2 w
      · by_cases t3 : j.st = 1
        · skip
          have er : r = true := by rw [← h]; unfold plainB; simp [e0, e1, e2, e3, e4, e5, t0, t1, t2, t3]
          subst er
          exact rp_waits d0 d1 d2 bo fr tr ag K kc ks j Y cj hl h0 h1 h2 h3 h4 h5 h6 h7 h8 h9 h10 h11 t0 t1 t2 t3 w
        · skip
          have er : r = false := by rw [← h]; unfold plainB; simp [e0, e1, e2, e3, e4, e5, t0, t1, t2, t3]
          subst er
          exact rp_held d0 d1 d2 bo fr tr ag K kc ks j Y cj hl h0 h1 h2 h3 h4 h5 h6 h7 h8 h9 h10 h11 t0 t1 t2 t3 w
    · skip
      have er : r = false := by rw [← h]; unfold plainB; simp [e0, e1, e2, e3, e4, e5, t0, t1]
      subst er
      exact rp_hi d0 d1 d2 bo fr tr ag K kc ks j Y cj hl h0 h1 h2 h3 h4 h5 h6 h7 h8 h9 h10 h11 t0 t1 w
  · skip
    have er : r = false := by rw [← h]; unfold plainB; simp [e0, e1, e2, e3, e4, e5, t0]
    subst er
    exact rp_lo d0 d1 d2 bo fr tr ag K kc ks j Y cj hl h0 h1 h2 h3 h4 h5 h6 h7 h8 h9 h10 h11 t0 w
theorem rafter_many (j : JV) (Y : Option Addr) (cj : Nat) (h : (4 : Int) < (j.af.length : Int)) (hl : j.af.length ≤ 4611686018427387904) (w : World) :
    Calls Tryz.prog 48 #[.agg #[.int .i64 j.id, .int .i64 j.us, .int .i64 j.cl, .int .i64 j.x.a, .int .i64 j.x.b, .int .i64 j.x.c, .bool j.x.p, .bool j.x.q, .bool j.x.r, .bool j.x.tn, .int .i64 j.wa, .int .i64 j.pr, .bool j.he, .slice Y j.af.length cj, .int .u8 j.st, .int .i64 j.ca]] w fun e w' => e = .returned (.bool false) ∧ Below w.heap.size w w' := by
  go_enter Tryz.func48, Tryz.ntmps48
  go_wp2_with fail
  go_ret
  exact ⟨rfl, below_alloc (Below.refl _ _)⟩
set_option maxRecDepth 100000 in
set_option maxHeartbeats 4000000 in
theorem rafter_few (j : JV) (Y : Option Addr) (cj : Nat) (h : j.af.length ≤ 4) (w : World) (hY : IntsAt w Y j.af) :
    Calls Tryz.prog 48 #[.agg #[.int .i64 j.id, .int .i64 j.us, .int .i64 j.cl, .int .i64 j.x.a, .int .i64 j.x.b, .int .i64 j.x.c, .bool j.x.p, .bool j.x.q, .bool j.x.r, .bool j.x.tn, .int .i64 j.wa, .int .i64 j.pr, .bool j.he, .slice Y j.af.length cj, .int .u8 j.st, .int .i64 j.ca]] w fun e w' => e = .returned (.bool (risB j.id 0 j.af)) ∧ Below w.heap.size w w' := by
  obtain ⟨V, hV⟩ : ∃ V, V = risB j.id 0 j.af := ⟨_, rfl⟩
  rw [← hV]
  have HV := Lib.hid hV
  have HY := Lib.hid hY
  clear hV hY
  go_enter Tryz.func48, Tryz.ntmps48
  go_upto_region 1 with fail
  have kj0 : Blk (w.alloc (.cells #[.int .i64 j.id, .int .i64 j.us, .int .i64 j.cl, .int .i64 j.x.a, .int .i64 j.x.b, .int .i64 j.x.c, .bool j.x.p, .bool j.x.q, .bool j.x.r, .bool j.x.tn, .int .i64 j.wa, .int .i64 j.pr, .bool j.he, .slice Y j.af.length cj, .int .u8 j.st, .int .i64 j.ca] 33)) w.heap.size 33 #[.int .i64 j.id, .int .i64 j.us, .int .i64 j.cl, .int .i64 j.x.a, .int .i64 j.x.b, .int .i64 j.x.c, .bool j.x.p, .bool j.x.q, .bool j.x.r, .bool j.x.tn, .int .i64 j.wa, .int .i64 j.pr, .bool j.he, .slice Y j.af.length cj, .int .u8 j.st, .int .i64 j.ca] := Blk.new w _ _
  have hb0 : Below w.heap.size w (w.alloc (.cells #[.int .i64 j.id, .int .i64 j.us, .int .i64 j.cl, .int .i64 j.x.a, .int .i64 j.x.b, .int .i64 j.x.c, .bool j.x.p, .bool j.x.q, .bool j.x.r, .bool j.x.tn, .int .i64 j.wa, .int .i64 j.pr, .bool j.he, .slice Y j.af.length cj, .int .u8 j.st, .int .i64 j.ca] 33)) := below_alloc (Below.refl _ _)
  generalize w.alloc (.cells #[.int .i64 j.id, .int .i64 j.us, .int .i64 j.cl, .int .i64 j.x.a, .int .i64 j.x.b, .int .i64 j.x.c, .bool j.x.p, .bool j.x.q, .bool j.x.r, .bool j.x.tn, .int .i64 j.wa, .int .i64 j.pr, .bool j.he, .slice Y j.af.length cj, .int .u8 j.st, .int .i64 j.ca] 33) = w0 at *
  have HB0 := Lib.hid hb0
  have KJ0 := Lib.hid kj0
  have x13 : w0.cell? ⟨w.heap.size, 13, none⟩ = some (.slice Y j.af.length cj) := kj0.cell 13
  have hni : ¬ (4 : Int) < (j.af.length : Int) := by omega
  clear hb0 kj0
  go_wp2_with fail
  clear x13 hni
  go_loopw [3] (fun i wr => ∃ k : Nat, k ≤ j.af.length ∧ i = .int .i64 k ∧ Hid (∀ (i : Nat) (v : Int), i < k → j.af[i]? = some v → 1 ≤ v ∧ v < j.id ∧ lastAt 0 j.af i < v) ∧ Hid (Below w.heap.size w wr) ∧ Hid (Blk wr w.heap.size 33 #[.int .i64 j.id, .int .i64 j.us, .int .i64 j.cl, .int .i64 j.x.a, .int .i64 j.x.b, .int .i64 j.x.c, .bool j.x.p, .bool j.x.q, .bool j.x.r, .bool j.x.tn, .int .i64 j.wa, .int .i64 j.pr, .bool j.he, .slice Y j.af.length cj, .int .u8 j.st, .int .i64 j.ca]))
    (fun i _ => j.af.length - (intOf i).toNat)
  case atStart => exact ⟨0, Nat.zero_le _, rfl, (fun i v h => by omega), HB0.out, KJ0.out⟩
  case round =>
    obtain ⟨k, hk, rfl, hP, hB, hJ⟩ := hrel
    clear HB0 KJ0
    have x13 : wr.cell? ⟨w.heap.size, 13, none⟩ = some (.slice Y j.af.length cj) := hJ.out.cell 13
    have x0 : wr.cell? ⟨w.heap.size, 0, none⟩ = some (.int .i64 j.id) := hJ.out.cell 0
    by_cases hlt : k < j.af.length
    · have hg : j.af[k]? = some j.af[k] := List.getElem?_eq_getElem hlt
      generalize j.af[k] = v at hg
      have hki : (k : Int) < (j.af.length : Int) := by omega
      have hki0 : (0 : Int) ≤ (k : Int) := by omega
      obtain ⟨b, o, rfl, hb, y0⟩ := HY.out.up hB.out k v hg
      have HG := Lib.hid hg
      have hn : ∀ {q : Prop}, (¬ (lastAt 0 j.af k < v ∧ v < j.id)) → V = false := fun {q} hn => by
        rw [HV.out]
        cases hr : risB j.id 0 j.af
        · rfl
        · exact absurd (ris_iff.1 hr k v HG.out) hn
      have HN := Lib.hid (hn (q := True))
      have hlast : (k = 0 ∧ lastAt 0 j.af k = 0) ∨ ∃ m u, k = m + 1 ∧ j.af[m]? = some u ∧ lastAt 0 j.af k = u ∧ 1 ≤ u := by
        cases k with
        | zero => exact .inl ⟨rfl, rfl⟩
        | succ m =>
          have hm : j.af[m]? = some (j.af[m]'(by omega)) := List.getElem?_eq_getElem (by omega)
          refine .inr ⟨m, _, rfl, hm, ?_, (hP.out m _ (by omega) hm).1⟩
          simp [lastAt, List.getD_eq_getElem?_getD, hm]
      clear hg hn
      by_cases h1 : v < 1
      · have HE := Lib.hid (HN.out (by rcases hlast with ⟨_, e⟩ | ⟨m, u, _, _, e, _⟩ <;> omega))
        clear hlast
        go_wp2_with fail
        have kq0 := cell_regrown x13
        have kq1 := cell_regrown x0
        have kq2 := cell_regrown y0
        refine wp_region_quiet_below (by kernel_rfl) (by kernel_rfl) ?_
        repeat (go_big_quiet_step (first | fail))
        refine wpQuiet_nil ?_
        intro _ hw'
        obtain ⟨⟨dq, osq⟩, hw''⟩ := hw'
        subst hw''
        have hBq := below_regrown wr dq osq
        clear kq0 kq1 kq2
        generalize grow (redrawn wr dq) osq = wq at *
        have HBq := Lib.hid hBq
        clear hBq x13 x0 y0
        go_wp2_with fail
        go_ret
        rw [HE.out]
        exact ⟨rfl, below_up hB.out HBq.out⟩
      · have dd1 : decide (v < 1) = false := decide_eq_false h1
        by_cases h2 : j.id ≤ v
        · have dd2 : decide (j.id ≤ v) = true := decide_eq_true h2
          have HE := Lib.hid (HN.out (by omega))
          clear hlast
          go_wp2_with fail
          have kq0 := cell_regrown x13
          have kq1 := cell_regrown x0
          have kq2 := cell_regrown y0
          refine wp_region_quiet_below (by kernel_rfl) (by kernel_rfl) ?_
          repeat (go_big_quiet_step (first | fail))
          refine wpQuiet_nil ?_
          intro _ hw'
          obtain ⟨⟨dq, osq⟩, hw''⟩ := hw'
          subst hw''
          have hBq := below_regrown wr dq osq
          clear kq0 kq1 kq2
          generalize grow (redrawn wr dq) osq = wq at *
          have HBq := Lib.hid hBq
          clear hBq x13 x0 y0
          go_wp2_with fail
          go_ret
          rw [HE.out]
          exact ⟨rfl, below_up hB.out HBq.out⟩
        · have dd2 : decide (j.id ≤ v) = false := decide_eq_false h2
          rcases hlast with ⟨rfl, e0⟩ | ⟨m, u, rfl, hm, e0, hu⟩
          · have HE := Lib.hid e0
            have y0' : wr.cell? ⟨b, o, none⟩ = some (.int .i64 v) := y0
            have hk0' : (0 : Int) < (j.af.length : Int) := by omega
            clear e0 y0
            go_wp2_with fail
            have kq0 := cell_regrown x13
            have kq1 := cell_regrown x0
            have kq2 := cell_regrown y0'
            refine wp_region_quiet_below (by kernel_rfl) (by kernel_rfl) ?_
            repeat (go_big_quiet_step (first | fail))
            refine wpQuiet_nil ?_
            intro _ hw'
            obtain ⟨⟨dq, osq⟩, hw''⟩ := hw'
            subst hw''
            have hBq := below_regrown wr dq osq
            clear kq0 kq1 kq2
            generalize grow (redrawn wr dq) osq = wq at *
            have HBq := Lib.hid hBq
            clear hBq x13 x0 y0'
            go_wp2_with fail
            go_roundw
            case rel => exact ⟨1, by omega, by go_num, (fun i z hi hz => by
                obtain rfl : i = 0 := by omega
                rw [HG.out] at hz; cases hz
                exact ⟨by omega, by omega, by rw [HE.out]; omega⟩), below_up hB.out HBq.out, hJ.out.below HBq.out hJ.out.lt⟩
            case measure => simp [intOf]; omega
          · obtain ⟨b', o', e1, hb', z0⟩ := HY.out.up hB.out m u hm
            have e2 : b' = b ∧ o' = o := by
              simp at e1
              exact ⟨e1.1.symm, e1.2.symm⟩
            rw [e2.1, e2.2] at z0
            have HE := Lib.hid e0
            have f1 : IntKind.i64.wrap ((m : Int) + 1 - 1) = (m : Int) := by rw [show (m : Int) + 1 - 1 = m by omega]; exact IntWalk.i64_in _ (by omega)
            have f2 : IntKind.i64.wrap (m : Int) = (m : Int) := IntWalk.i64_in _ (by omega)
            have hm0 : (0 : Int) ≤ (m : Int) := by omega
            have hm1 : (m : Int) < (j.af.length : Int) := by omega
            have hm2 : (0 : Int) < (m : Int) + 1 := by omega
            have dd3 : decide ((0 : Int) < (m : Int) + 1) = true := decide_eq_true hm2
            clear e0 e1 e2 hb' hm
            by_cases h3 : v ≤ u
            · have dd4 : decide (v ≤ u) = true := decide_eq_true h3
              have HE2 := Lib.hid (HN.out (by rw [HE.out]; omega))
              go_wp2_with fail
              have kq0 := cell_regrown x13
              have kq1 := cell_regrown x0
              have kq2 := cell_regrown y0
              have kq3 := cell_regrown z0
              refine wp_region_quiet_below (by kernel_rfl) (by kernel_rfl) ?_
              repeat (go_big_quiet_step (first | fail))
              refine wpQuiet_nil ?_
              intro _ hw'
              obtain ⟨⟨dq, osq⟩, hw''⟩ := hw'
              subst hw''
              have hBq := below_regrown wr dq osq
              clear kq0 kq1 kq2 kq3
              generalize grow (redrawn wr dq) osq = wq at *
              have HBq := Lib.hid hBq
              clear hBq x13 x0 y0 z0
              go_wp2_with fail
              go_ret
              rw [HE2.out]
              exact ⟨rfl, below_up hB.out HBq.out⟩
            · have dd4 : decide (v ≤ u) = false := decide_eq_false h3
              go_wp2_with fail
              have kq0 := cell_regrown x13
              have kq1 := cell_regrown x0
              have kq2 := cell_regrown y0
              have kq3 := cell_regrown z0
              refine wp_region_quiet_below (by kernel_rfl) (by kernel_rfl) ?_
              repeat (go_big_quiet_step (first | fail))
              refine wpQuiet_nil ?_
              intro _ hw'
              obtain ⟨⟨dq, osq⟩, hw''⟩ := hw'
              subst hw''
              have hBq := below_regrown wr dq osq
              clear kq0 kq1 kq2 kq3
              generalize grow (redrawn wr dq) osq = wq at *
              have HBq := Lib.hid hBq
              clear hBq x13 x0 y0 z0
              go_wp2_with fail
              go_roundw
              case rel => exact ⟨m + 2, by omega, by go_num, (fun i z hi hz => by
                  rcases Nat.lt_or_ge i (m + 1) with h | h
                  · exact hP.out i z h hz
                  · obtain rfl : i = m + 1 := by omega
                    rw [HG.out] at hz; cases hz
                    exact ⟨by omega, by omega, by rw [HE.out]; omega⟩), below_up hB.out HBq.out, hJ.out.below HBq.out hJ.out.lt⟩
              case measure => simp [intOf]; omega
    · obtain rfl : k = j.af.length := by omega
      have ev : V = true := by
        rw [HV.out]
        exact ris_iff.2 fun i v hi => ⟨(hP.out i v (List.getElem?_eq_some_iff.1 hi).1 hi).2.2, (hP.out i v (List.getElem?_eq_some_iff.1 hi).1 hi).2.1⟩
      have EV := Lib.hid ev
      clear ev
      go_wp2_with fail
      go_ret
      rw [EV.out]
      exact ⟨rfl, hB.out⟩
theorem rafter (j : JV) (Y : Option Addr) (cj : Nat) (hl : j.af.length ≤ 4611686018427387904) (r : Bool) (h : afterB j = r) (w : World) (hY : IntsAt w Y j.af) :
    Calls Tryz.prog 48 #[.agg #[.int .i64 j.id, .int .i64 j.us, .int .i64 j.cl, .int .i64 j.x.a, .int .i64 j.x.b, .int .i64 j.x.c, .bool j.x.p, .bool j.x.q, .bool j.x.r, .bool j.x.tn, .int .i64 j.wa, .int .i64 j.pr, .bool j.he, .slice Y j.af.length cj, .int .u8 j.st, .int .i64 j.ca]] w fun e w' => e = .returned (.bool r) ∧ Below w.heap.size w w' := by
  unfold afterB at h
  by_cases h4 : j.af.length ≤ 4
  · have e : r = risB j.id 0 j.af := by rw [← h, decide_eq_true (by omega)]; rfl
    rw [e]
    exact rafter_few j Y cj h4 w hY
  · have e : r = false := by rw [← h, decide_eq_false (by omega)]; rfl
    rw [e]
    exact rafter_many j Y cj (by omega) hl w
end Go.Proofs.YtfpljpdjohmbaaaGreat.JobRef1
