/- The contract of pos.Of: a midplane's coordinates, or an error. -/
import Derived.Test.YthapginaphdmjaaPosAt
namespace Go.Proofs.Ythapginaphdmjaa.PosOf
open Go.RowKit Go.Shelf PosMath PosCheck PosMany Mem SeqKit PosSeq Round PosAt
attribute [local go_sem] Oper.semAt_some
set_option linter.unusedVariables false

def co (a b c m : Int) : Ax → Int
  | none => cx a m
  | some false => cy a b m
  | some true => cz a b c m
def pv (a b c m : Int) (pre : List Ax) (j : Ax) : Int := if j ∈ pre then co a b c m j else 0
theorem pv_same (a b c m : Int) (pre : List Ax) (j : Ax) : pv a b c m (pre ++ [j]) j = co a b c m j := if_pos (by simp)
theorem pv_other (a b c m : Int) (pre : List Ax) {j k : Ax} (h : j ≠ k) : pv a b c m (pre ++ [k]) j = pv a b c m pre j := by unfold pv; simp [h]
theorem pv_axes (a b c m : Int) (j : Ax) : pv a b c m axes j = co a b c m j := if_pos (by rcases j with _ | _ | _ <;> simp [axes])
def pA (a b c m : Int) (pre : List Ax) : Array Value := #[.int .i64 (pv a b c m pre none), .int .i64 (pv a b c m pre (some false)), .int .i64 (pv a b c m pre (some true))]
theorem pA_set0 (a b c m : Int) (pre : List Ax) : (pA a b c m pre).setIfInBounds 0 (.int .i64 (cx a m)) = pA a b c m (pre ++ [none]) := by
  unfold pA; rw [pv_same, pv_other _ _ _ _ _ (by decide), pv_other _ _ _ _ _ (by decide)]; rfl
theorem pA_set1 (a b c m : Int) (pre : List Ax) : (pA a b c m pre).setIfInBounds 1 (.int .i64 (cy a b m)) = pA a b c m (pre ++ [some false]) := by
  unfold pA; rw [pv_same, pv_other _ _ _ _ _ (by decide), pv_other _ _ _ _ _ (by decide)]; rfl
theorem pA_set2 (a b c m : Int) (pre : List Ax) : (pA a b c m pre).setIfInBounds 2 (.int .i64 (cz a b c m)) = pA a b c m (pre ++ [some true]) := by
  unfold pA; rw [pv_same, pv_other _ _ _ _ _ (by decide), pv_other _ _ _ _ _ (by decide)]; rfl

section
variable {W w w1 : World} {a b c m : Int}
def Inv (w : World) (a b c m : Int) (pre : List Ax) (W : World) : Prop := (Blk W w.heap.size 23 #[.int .i64 a, .int .i64 b, .int .i64 c] ∧ Blk W (w.heap.size + 1) 3 #[.int .i64 m] ∧ Blk W (w.heap.size + 1 + 1) 22 (pA a b c m pre)) ∧ Below w.heap.size w W
theorem inv_own (a b c m : Int) (B : Nat) (hB : w.heap.size ≤ B) : OwnFrom B (Inv w a b c m) :=
  OwnFrom.and (Own.from (fun s A B row hs hg hr => ⟨blk_own _ _ (fun _ => _) s A B row hs.1 hg hr, blk_own _ _ (fun _ => _) s A B row hs.2.1 hg hr, blk_own _ _ (fun s => pA a b c m s) s A B row hs.2.2 hg hr⟩) _) (ownFrom_below (Nat.le_refl _) hB)
theorem step_on {pre pre' : List Ax} (n i : Nat) (hz : w.heap.size + 1 + 1 < w1.heap.size) (h : Inv w a b c m pre W) {v : Int} (hv : (pA a b c m pre).setIfInBounds i (.int .i64 v) = pA a b c m pre') :
    KeepsOthers W ((W.drewN n).setCell ⟨w.heap.size + 1 + 1, i, none⟩ (.int .i64 v)) ∧ KeepB w1.heap.size W ((W.drewN n).setCell ⟨w.heap.size + 1 + 1, i, none⟩ (.int .i64 v)) ∧ Inv w a b c m pre' ((W.drewN n).setCell ⟨w.heap.size + 1 + 1, i, none⟩ (.int .i64 v)) := by
  obtain ⟨⟨p0, p1, p2⟩, hB⟩ := h
  refine ⟨(keeps_drewN W n).trans (KeepsOthers.setCell _ _ _), KeepB.set_ (W.drewN n) (by simp; omega) _, ⟨(p0.drewN n).far (by simp; omega) _, (p1.drewN n).far (by simp) _, ?_⟩, (below_drewN hB n).setCell (by simp; omega) _⟩
  rw [← hv]
  exact (p2.drewN n).set_ i _
end
theorem div_range {m k d : Int} (hm : 0 ≤ m) (hk : 1 ≤ k) (hd : 1 ≤ d) : 0 ≤ m / k ∧ m / k ≤ m := ⟨Int.ediv_nonneg hm (by omega), Int.ediv_le_self _ hm⟩

set_option maxRecDepth 100000 in
set_option maxHeartbeats 4000000 in
theorem of_ok (a b c m : Int) (h : May a b c) (h0 : 0 ≤ m) (h1 : m < num a b c) (w : World) :
    Calls Try.prog 13 #[.agg #[.int .i64 a, .int .i64 b, .int .i64 c], .int .i64 m] w fun e w' => e = .returned (.tuple #[.agg #[.int .i64 (cx a m), .int .i64 (cy a b m), .int .i64 (cz a b c m)], .int .i64 0]) ∧ Below w.heap.size w w' := by
  have HH := Lib.hid h
  have hn : num a b c ≤ 4096 := (num_bounds h).2.2
  clear h
  obtain ⟨n, hn0⟩ : ∃ n, n = num a b c := ⟨_, rfl⟩
  rw [← hn0] at h1 hn
  have hmany : ∀ w', Calls Try.prog 9 #[.agg #[.int .i64 a, .int .i64 b, .int .i64 c]] w' fun e w'' => e = .returned (.tuple #[.int .i64 n, .int .i64 0]) ∧ Below w'.heap.size w' w'' := by
    rw [hn0]; exact many_ok a b c HH.out
  have HM := Lib.hid hmany
  have t1 : decide (m < 0) = false := by simpa using h0
  have t2 : decide (n ≤ m) = false := by simpa using h1
  clear hmany hn0
  refine (callsIn_wide (n := 5)).1 ?_
  refine callsIn_of_wp_marks Try.func13 rfl trivial ?_ rfl
  simp only [Try.ntmps13, List.size_toArray, List.length_cons, List.length_nil, Nat.reduceAdd, Nat.reduceSub, Array.replicate_succ, Array.replicate_zero, List.push_toArray, List.append_toArray, List.nil_append, List.cons_append]
  gi_wp2_with fail
  refine ⟨trivial, ?_⟩
  refine (callsIn_wide.2 (HM.out _)).mono ?_
  rintro e w1 ⟨rfl, hB1⟩
  have k0 : Blk w1 w.heap.size 23 #[.int .i64 a, .int .i64 b, .int .i64 c] := (((Blk.new w _ _).alloc _).alloc _).below hB1 (by simp; omega)
  have k1 : Blk w1 (w.heap.size + 1) 3 #[.int .i64 m] := ((blk1 w _ _).alloc _).below hB1 (by simp)
  have k2 : Blk w1 (w.heap.size + 1 + 1) 22 #[.int .i64 0, .int .i64 0, .int .i64 0] := (blk2 w _ _).below hB1 (by simp)
  have hb1 : Below w.heap.size w w1 := below_up (below_alloc (below_alloc (below_alloc (Below.refl _ _)))) hB1
  have HB1 := Lib.hid hb1
  have HK := Lib.hid (And.intro k0 (And.intro k1 k2))
  have c0 : w1.cell? ⟨w.heap.size, 0, none⟩ = some (.int .i64 a) := k0.cell 0
  have c1 : w1.cell? ⟨w.heap.size, 1, none⟩ = some (.int .i64 b) := k0.cell 1
  have c2 : w1.cell? ⟨w.heap.size, 2, none⟩ = some (.int .i64 c) := k0.cell 2
  have e0 : w1.cell? ⟨w.heap.size + 1, 0, none⟩ = some (.int .i64 m) := k1.cell 0
  clear hB1 hb1 k0 k1 k2
  gi_wp2_with (refine ⟨trivial, ?_⟩; gi_at_call 25; refine (strides_in Fence.wide 4 trivial rfl a b c _).mono ?_; rintro e w' ⟨rfl, rfl⟩)
  obtain ⟨g0, g1, g2⟩ := HK.out
  obtain ⟨W0, hW0⟩ : ∃ W0, w1.alloc (.cells #[.int .i64 a, .int .i64 b, .int .i64 c] 23) = W0 := ⟨_, rfl⟩
  have q0 : Blk W0 w.heap.size 23 #[.int .i64 a, .int .i64 b, .int .i64 c] := by rw [← hW0]; exact g0.alloc _
  have q1 : Blk W0 (w.heap.size + 1) 3 #[.int .i64 m] := by rw [← hW0]; exact g1.alloc _
  have q2 : Blk W0 (w.heap.size + 1 + 1) 22 #[.int .i64 0, .int .i64 0, .int .i64 0] := by rw [← hW0]; exact g2.alloc _
  have q4 : Blk W0 w1.heap.size 23 #[.int .i64 a, .int .i64 b, .int .i64 c] := by rw [← hW0]; exact Blk.new w1 _ _
  have hBW : Below w.heap.size w W0 := by rw [← hW0]; exact below_alloc HB1.out
  have hz : w.heap.size + 1 + 1 < w1.heap.size := g2.lt
  rw [hW0]
  clear c0 c1 c2 e0 g0 g1 g2 hW0
  have hI : Inv w a b c m [] W0 := ⟨⟨q0, q1, q2⟩, hBW⟩
  refine wpIn_rangeFunc_ownF rfl (by omega) (gf := 30) (lb := #[.pointer (some ⟨w1.heap.size, 0, none⟩)]) rfl trivial (enters_of Try.func30 (by kernel_rfl) rfl)
    (strides_stops Fence.wide 4 trivial rfl (by omega) w1.heap.size a b c HH.out W0 q4.lt (q4.cell 0) (q4.cell 1) (q4.cell 2)) KeepB.trans (fun W l o o' _ h ho _ => keepB_b W l o o' h ho) (Below.refl _ _) (fun _ => rfl)
    (Inv w a b c m) (fun _ _ _ => False) (inv_own a b c m _ hBW.size) (fun _ => Own.from (fun _ _ _ _ hs _ _ => hs) _) hI
    (fun k => { tmps := #[.agg #[.int .i64 a, .int .i64 b, .int .i64 c], .int .i64 m, .pointer (some ⟨w.heap.size, 0, none⟩), .pointer (some ⟨w.heap.size + 1, 0, none⟩), .pointer (some ⟨w.heap.size + 1 + 1, 0, none⟩), .int .i64 0, .int .i64 n, .int .i64 (axn k), .int .i64 (sd a b k), .tuple #[.int .i64 n, .int .i64 0], .agg #[.int .i64 a, .int .i64 b, .int .i64 c], .tuple #[.int .i64 n, .int .i64 0], .int .i64 n, .int .i64 0, .bool false, .int .i64 0, .bool false, undef, undef, .bool false, .int .i64 m, .bool false, .bool false, .int .i64 m, .int .i64 n, .bool false, .bool false, undef, .agg #[.int .i64 a, .int .i64 b, .int .i64 c], .func (.func 30) #[] #[.pointer (some ⟨w1.heap.size, 0, none⟩)], .int .i64 (axn k), .int .i64 (sd a b k), undef, undef, undef, undef, undef, undef, undef, undef, undef, undef], defers := [] }) ?assign ?body ?done ?stop
  case assign =>
    intro l k W K hK
    dsimp only [enc3]
    gi_wp2
    exact hK
  case body =>
    rintro l pre k W hInv hlen
    obtain ⟨⟨hab, hab'⟩, -⟩ := num_bounds HH.out
    obtain ⟨⟨ha, ha'⟩, ⟨hb, hb'⟩, ⟨hc, hc'⟩⟩ := HH.out
    have hab1 : 1 ≤ a * b := Int.mul_pos (by omega) (by omega)
    have HI := Lib.hid hInv
    obtain ⟨⟨p0, p1, p2⟩, -⟩ := hInv
    have c0 : W.cell? ⟨w.heap.size, 0, none⟩ = some (.int .i64 a) := p0.cell 0
    have c1 : W.cell? ⟨w.heap.size, 1, none⟩ = some (.int .i64 b) := p0.cell 1
    have c2 : W.cell? ⟨w.heap.size, 2, none⟩ = some (.int .i64 c) := p0.cell 2
    have d0 : W.cell? ⟨w.heap.size + 1, 0, none⟩ = some (.int .i64 m) := p1.cell 0
    have m0 : W.cell? ⟨w.heap.size + 1 + 1, 0, none⟩ = some (.int .i64 (pv a b c m pre none)) := p2.cell 0
    have m1 : W.cell? ⟨w.heap.size + 1 + 1, 1, none⟩ = some (.int .i64 (pv a b c m pre (some false))) := p2.cell 1
    have m2 : W.cell? ⟨w.heap.size + 1 + 1, 2, none⟩ = some (.int .i64 (pv a b c m pre (some true))) := p2.cell 2
    have n0 : W.frozen? ⟨w.heap.size + 1 + 1, 0, none⟩ = false := p2.frozen 0
    have n1 : W.frozen? ⟨w.heap.size + 1 + 1, 1, none⟩ = false := p2.frozen 1
    have n2 : W.frozen? ⟨w.heap.size + 1 + 1, 2, none⟩ = false := p2.frozen 2
    clear p0 p1 p2 hlen q0 q1 q2 q4 hBW hI
    obtain ⟨v0, h0v⟩ : ∃ s, s = pv a b c m pre none := ⟨_, rfl⟩
    obtain ⟨v1, h1v⟩ : ∃ s, s = pv a b c m pre (some false) := ⟨_, rfl⟩
    obtain ⟨v2, h2v⟩ : ∃ s, s = pv a b c m pre (some true) := ⟨_, rfl⟩
    rw [← h0v] at m0
    rw [← h1v] at m1
    rw [← h2v] at m2
    clear h0v h1v h2v
    have hno : ∀ i, ¬ LetsOut (Exit.inBlock i (ownPostK (KeepB w1.heap.size) (Inv w a b c m) (fun _ _ _ => False) (pre ++ [k]) W)) := fun i ⟨_, _, h⟩ => h
    have HNO := Lib.hid hno
    clear hno
    rcases k with _ | _ | _ <;> dsimp only [axn, sd]
    · have f0 : ¬ a = 0 := by omega
      have f1 : IntKind.i64.wrap m = m := IntWalk.i64_in _ (by omega)
      have f2 : m.tmod a = m % a := Int.tmod_eq_emod_of_nonneg h0
      gi_wp2
      refine still_round l 8 (HNO.out _) (by kernel_rfl) (by kernel_rfl) (by kernel_rfl) ?_
      simp only [List.take_succ_cons, List.take_zero, List.drop_succ_cons, List.drop_zero]
      repeat still_step
      refine wpStill_nil ?_
      go_wp2
      all_goals
        exact step_on 1 0 hz HI.out (by rw [← pA_set0]; simp [cx])
    · obtain ⟨x1, x2⟩ := div_range h0 ha hb
      have f0 : ¬ b = 0 := by omega
      have f3 : ¬ a = 0 := by omega
      have f1 : IntKind.i64.wrap (m / a) = m / a := IntWalk.i64_in _ (by omega)
      have f2 : (m / a).tmod b = m / a % b := Int.tmod_eq_emod_of_nonneg x1
      have f4 : m.tdiv a = m / a := Int.tdiv_eq_ediv_of_nonneg h0
      gi_wp2
      refine still_round l 8 (HNO.out _) (by kernel_rfl) (by kernel_rfl) (by kernel_rfl) ?_
      simp only [List.take_succ_cons, List.take_zero, List.drop_succ_cons, List.drop_zero]
      repeat still_step
      refine wpStill_nil ?_
      go_wp2
      all_goals
        exact step_on 1 1 hz HI.out (by rw [← pA_set1]; simp [cy])
    · obtain ⟨x1, x2⟩ := div_range h0 hab1 hb
      obtain ⟨q, hq⟩ : ∃ q, q = a * b := ⟨_, rfl⟩
      rw [← hq] at hab hab' hab1 x1 x2 ⊢
      have HQ := Lib.hid hq
      clear hq
      have f3 : ¬ q = 0 := by omega
      have f5 : ¬ c = 0 := by omega
      have f1 : IntKind.i64.wrap (m / q) = m / q := IntWalk.i64_in _ (by omega)
      have f2 : (m / q).tmod c = m / q % c := Int.tmod_eq_emod_of_nonneg x1
      have f4 : m.tdiv q = m / q := Int.tdiv_eq_ediv_of_nonneg h0
      gi_wp2
      refine still_round l 8 (HNO.out _) (by kernel_rfl) (by kernel_rfl) (by kernel_rfl) ?_
      simp only [List.take_succ_cons, List.take_zero, List.drop_succ_cons, List.drop_zero]
      repeat still_step
      refine wpStill_nil ?_
      go_wp2
      all_goals
        exact step_on 1 2 hz HI.out (by rw [← pA_set2]; unfold cz; rw [← HQ.out])
  case done =>
    rintro D ys W hD rfl ⟨⟨p0, p1, p2⟩, hB⟩ hK
    unfold pA at p2
    rw [pv_axes, pv_axes, pv_axes] at p2
    dsimp only [co] at p2
    have m0 : W.cell? ⟨w.heap.size + 1 + 1, 0, none⟩ = some (.int .i64 (cx a m)) := p2.cell 0
    have m1 : W.cell? ⟨w.heap.size + 1 + 1, 1, none⟩ = some (.int .i64 (cy a b m)) := p2.cell 1
    have m2 : W.cell? ⟨w.heap.size + 1 + 1, 2, none⟩ = some (.int .i64 (cz a b c m)) := p2.cell 2
    have n0 : W.frozen? ⟨w.heap.size + 1 + 1, 0, none⟩ = false := p2.frozen 0
    have n1 : W.frozen? ⟨w.heap.size + 1 + 1, 1, none⟩ = false := p2.frozen 1
    have n2 : W.frozen? ⟨w.heap.size + 1 + 1, 2, none⟩ = false := p2.frozen 2
    have HP := Lib.hid p2
    have HB := Lib.hid hB
    have HKK := Lib.hid hK
    clear p0 p1 p2 hB hK q0 q1 q2 q4 hI
    gi_wp2
    have hK1 := (((KeepsOthers.setCell W ⟨w.heap.size + 1 + 1, 0, none⟩ (.int .i64 (cx a m))).trans (KeepsOthers.setCell _ ⟨w.heap.size + 1 + 1, 1, none⟩ (.int .i64 (cy a b m)))).trans (KeepsOthers.setCell _ ⟨w.heap.size + 1 + 1, 2, none⟩ (.int .i64 (cz a b c m)))).same D _ HKK.out rfl
    refine ⟨by simp, .inl ⟨_, _, rfl, run_takeDeferred hK1, ?_⟩⟩
    have b2 := blk_putObj (.deferred none) (((HP.out.set_ 0 (.int .i64 (cx a m))).set_ 1 (.int .i64 (cy a b m))).set_ 2 (.int .i64 (cz a b c m))) hK1 rfl
    refine ⟨.tuple #[.agg #[.int .i64 (cx a m), .int .i64 (cy a b m), .int .i64 (cz a b c m)], .int .i64 0], ?_, rfl, (((HB.out.setCell (p := ⟨w.heap.size + 1 + 1, 0, none⟩) (by simp; omega) _).setCell (p := ⟨w.heap.size + 1 + 1, 1, none⟩) (by simp; omega) _).setCell (p := ⟨w.heap.size + 1 + 1, 2, none⟩) (by simp; omega) _).trans (belowK_b (w := w) (Nat.le_refl _) _ D _ _ (by have := hBW.size; omega) hK1 rfl rfl)⟩
    have c0 := b2.cell 0
    have c1 := b2.cell 1
    have c2 := b2.cell 2
    simp at c0 c1 c2
    simp [results, Try.f13, go_sem, c0, c1, c2]
  case stop =>
    rintro D c pre W _ _ h _
    exact h.elim

set_option maxHeartbeats 1000000 in
theorem of_bad (a b c m : Int) (h : ¬ May a b c) (w : World) :
    Calls Try.prog 13 #[.agg #[.int .i64 a, .int .i64 b, .int .i64 c], .int .i64 m] w fun e w' => e = .returned (.tuple #[.agg #[.int .i64 0, .int .i64 0, .int .i64 0], .int .i64 8]) ∧ Below w.heap.size w w' := by
  have HH := Lib.hid h
  clear h
  go_enter Try.func13, Try.ntmps13
  go_wp2_with fail
  refine (many_bad a b c HH.out _).mono ?_
  rintro e w1 ⟨rfl, hB1⟩
  have k2 : Blk w1 (w.heap.size + 1 + 1) 22 #[.int .i64 0, .int .i64 0, .int .i64 0] := (blk2 w _ _).below hB1 (by simp)
  have hb1 : Below w.heap.size w w1 := below_up (below_alloc (below_alloc (below_alloc (Below.refl _ _)))) hB1
  have HB1 := Lib.hid hb1
  have m0 : w1.cell? ⟨w.heap.size + 1 + 1, 0, none⟩ = some (.int .i64 0) := k2.cell 0
  have m1 : w1.cell? ⟨w.heap.size + 1 + 1, 1, none⟩ = some (.int .i64 0) := k2.cell 1
  have m2 : w1.cell? ⟨w.heap.size + 1 + 1, 2, none⟩ = some (.int .i64 0) := k2.cell 2
  have n0 : w1.frozen? ⟨w.heap.size + 1 + 1, 0, none⟩ = false := k2.frozen 0
  have n1 : w1.frozen? ⟨w.heap.size + 1 + 1, 1, none⟩ = false := k2.frozen 1
  have n2 : w1.frozen? ⟨w.heap.size + 1 + 1, 2, none⟩ = false := k2.frozen 2
  have HK := Lib.hid k2
  clear hB1 hb1 k2
  go_wp2_with fail
  have b2 := ((HK.out.set_ 0 (.int .i64 0)).set_ 1 (.int .i64 0)).set_ 2 (.int .i64 0)
  have c0 := b2.cell 0
  have c1 := b2.cell 1
  have c2 := b2.cell 2
  simp at c0 c1 c2
  exact bodyPost_ret (v := .tuple #[.agg #[.int .i64 0, .int .i64 0, .int .i64 0], .int .i64 8]) (by simp [results, Try.results13, go_sem, c0, c1, c2]) rfl ⟨rfl, ((HB1.out.setCell (p := ⟨w.heap.size + 1 + 1, 0, none⟩) (by simp; omega) _).setCell (p := ⟨w.heap.size + 1 + 1, 1, none⟩) (by simp; omega) _).setCell (p := ⟨w.heap.size + 1 + 1, 2, none⟩) (by simp; omega) _⟩
set_option maxHeartbeats 1000000 in
theorem of_arg (a b c m : Int) (h : May a b c) (hm : ¬ (0 ≤ m ∧ m < num a b c)) (w : World) :
    Calls Try.prog 13 #[.agg #[.int .i64 a, .int .i64 b, .int .i64 c], .int .i64 m] w fun e w' => e = .returned (.tuple #[.agg #[.int .i64 0, .int .i64 0, .int .i64 0], .int .i64 2]) ∧ Below w.heap.size w w' := by
  have HH := Lib.hid h
  have hn : num a b c ≤ 4096 := (num_bounds h).2.2
  clear h
  obtain ⟨n, hn0⟩ : ∃ n, n = num a b c := ⟨_, rfl⟩
  rw [← hn0] at hm hn
  have hmany : ∀ w', Calls Try.prog 9 #[.agg #[.int .i64 a, .int .i64 b, .int .i64 c]] w' fun e w'' => e = .returned (.tuple #[.int .i64 n, .int .i64 0]) ∧ Below w'.heap.size w' w'' := by
    rw [hn0]; exact many_ok a b c HH.out
  have HM := Lib.hid hmany
  clear hmany hn0
  have hmm : m < 0 ∨ (0 ≤ m ∧ n ≤ m) := by omega
  clear hm
  rcases hmm with h1 | ⟨h1, h2⟩
  all_goals
    go_enter Try.func13, Try.ntmps13
    go_wp2_with fail
    refine (HM.out _).mono ?_
    rintro e w1 ⟨rfl, hB1⟩
    have k2 : Blk w1 (w.heap.size + 1 + 1) 22 #[.int .i64 0, .int .i64 0, .int .i64 0] := (blk2 w _ _).below hB1 (by simp)
    have k1 : Blk w1 (w.heap.size + 1) 3 #[.int .i64 m] := ((blk1 w _ _).alloc _).below hB1 (by simp)
    have hb1 : Below w.heap.size w w1 := below_up (below_alloc (below_alloc (below_alloc (Below.refl _ _)))) hB1
    have HB1 := Lib.hid hb1
    have m0 : w1.cell? ⟨w.heap.size + 1 + 1, 0, none⟩ = some (.int .i64 0) := k2.cell 0
    have m1 : w1.cell? ⟨w.heap.size + 1 + 1, 1, none⟩ = some (.int .i64 0) := k2.cell 1
    have m2 : w1.cell? ⟨w.heap.size + 1 + 1, 2, none⟩ = some (.int .i64 0) := k2.cell 2
    have n0 : w1.frozen? ⟨w.heap.size + 1 + 1, 0, none⟩ = false := k2.frozen 0
    have n1 : w1.frozen? ⟨w.heap.size + 1 + 1, 1, none⟩ = false := k2.frozen 1
    have n2 : w1.frozen? ⟨w.heap.size + 1 + 1, 2, none⟩ = false := k2.frozen 2
    have e0 : w1.cell? ⟨w.heap.size + 1, 0, none⟩ = some (.int .i64 m) := k1.cell 0
    have HK := Lib.hid k2
    clear hB1 hb1 k2 k1
    go_wp2_with fail
    have b2 := ((HK.out.set_ 0 (.int .i64 0)).set_ 1 (.int .i64 0)).set_ 2 (.int .i64 0)
    have c0 := b2.cell 0
    have c1 := b2.cell 1
    have c2 := b2.cell 2
    simp at c0 c1 c2
    exact bodyPost_ret (v := .tuple #[.agg #[.int .i64 0, .int .i64 0, .int .i64 0], .int .i64 2]) (by simp [results, Try.results13, go_sem, c0, c1, c2]) rfl ⟨rfl, ((HB1.out.setCell (p := ⟨w.heap.size + 1 + 1, 0, none⟩) (by simp; omega) _).setCell (p := ⟨w.heap.size + 1 + 1, 1, none⟩) (by simp; omega) _).setCell (p := ⟨w.heap.size + 1 + 1, 2, none⟩) (by simp; omega) _⟩
end Go.Proofs.Ythapginaphdmjaa.PosOf
