/- The contract of pos.At: the midplane at coordinates, or an error. -/
import Derived.Test.YthapginaphdmjaaPosSeq
import Derived.Test.YthapginaphdmjaaRound
namespace Go.Proofs.Ythapginaphdmjaa.PosAt
open Go.RowKit Go.Shelf PosMath PosCheck PosMany Mem SeqKit PosSeq Round
attribute [local go_sem] Oper.semAt_some
set_option linter.unusedVariables false

/-- The sum over axes. -/
def sum3 (a b x y z : Int) : List Ax → Int
  | [] => 0
  | k :: l => sum3 a b x y z l + sd a b k * of3 x y z k
theorem sum3_snoc (a b x y z : Int) : ∀ (l : List Ax) (k : Ax), sum3 a b x y z (l ++ [k]) = sum3 a b x y z l + sd a b k * of3 x y z k
  | [], k => by simp [sum3]
  | j :: l, k => by simp [sum3, sum3_snoc a b x y z l k]; omega
theorem sum3_axes (a b x y z : Int) : sum3 a b x y z axes = at_ a b x y z := by simp [sum3, axes, sd, of3, at_]; omega
def Ok3 (a b c x y z : Int) : Prop := (0 ≤ x ∧ x < a) ∧ (0 ≤ y ∧ y < b) ∧ (0 ≤ z ∧ z < c)
instance (a b c x y z : Int) : Decidable (Ok3 a b c x y z) := by unfold Ok3; infer_instance
def OkL (a b c x y z : Int) (l : List Ax) : Prop := ∀ k ∈ l, 0 ≤ of3 x y z k ∧ of3 x y z k < of3 a b c k
theorem OkL.snoc {a b c x y z : Int} {l : List Ax} (h : OkL a b c x y z l) {k : Ax} (hk : 0 ≤ of3 x y z k ∧ of3 x y z k < of3 a b c k) : OkL a b c x y z (l ++ [k]) := fun j hj => by
  rcases List.mem_append.1 hj with hj | hj
  · exact h j hj
  · simp at hj; subst hj; exact hk
theorem OkL.all {a b c x y z : Int} (h : OkL a b c x y z axes) : Ok3 a b c x y z := ⟨h none (by simp [axes]), h (some false) (by simp [axes]), h (some true) (by simp [axes])⟩
theorem term_range {a b c x y z : Int} (h : May a b c) (k : Ax) (h3 : 0 ≤ of3 x y z k ∧ of3 x y z k < of3 a b c k) : 0 ≤ sd a b k * of3 x y z k ∧ sd a b k * of3 x y z k ≤ 4096 := by
  obtain ⟨⟨h1, h2⟩, _⟩ := num_bounds h
  obtain ⟨⟨ha, ha'⟩, ⟨hb, hb'⟩, ⟨hc, hc'⟩⟩ := h
  rcases k with _ | _ | _ <;> simp only [sd, of3] at h3 ⊢
  · omega
  · have h5 := Int.mul_nonneg (show 0 ≤ a by omega) h3.1
    have h6 : a * y ≤ 16 * 16 := Int.mul_le_mul (by omega) (by omega) (by omega) (by omega)
    omega
  · have h5 := Int.mul_nonneg h1 h3.1
    have h6 : a * b * z ≤ 256 * 16 := Int.mul_le_mul (by omega) (by omega) (by omega) (by omega)
    omega
theorem sum3_range {a b c x y z : Int} (h : May a b c) : ∀ l : List Ax, OkL a b c x y z l → 0 ≤ sum3 a b x y z l ∧ sum3 a b x y z l ≤ 4096 * l.length
  | [], _ => by simp [sum3]
  | k :: l, h3 => by
    have h4 := sum3_range h l (fun j hj => h3 j (List.mem_cons_of_mem _ hj))
    have h5 := term_range h k (h3 k (by simp))
    simp only [sum3, List.length_cons]
    omega
/-- What pos.At answers. -/
def atR (a b c x y z : Int) : Int × Int := if Ok3 a b c x y z then (at_ a b x y z, 0) else (0, 2)

section
variable {W w w1 : World} {a b c x y z : Int}
def Inv (w : World) (a b c x y z : Int) (pre : List Ax) (W : World) : Prop := (OkL a b c x y z pre ∧ Blk W w.heap.size 23 #[.int .i64 a, .int .i64 b, .int .i64 c] ∧ Blk W (w.heap.size + 1) 22 #[.int .i64 x, .int .i64 y, .int .i64 z] ∧ Blk W (w.heap.size + 1 + 1) 3 #[.int .i64 (sum3 a b x y z pre)] ∧ Blk W (w.heap.size + 1 + 1 + 1) 24 #[.int .i64 0]) ∧ Below w.heap.size w W
theorem inv_own (a b c x y z : Int) (B : Nat) (hB : w.heap.size ≤ B) : OwnFrom B (Inv w a b c x y z) :=
  OwnFrom.and (Own.from (fun s A B row hs hg hr => ⟨hs.1, blk_own _ _ (fun _ => _) s A B row hs.2.1 hg hr, blk_own _ _ (fun _ => _) s A B row hs.2.2.1 hg hr, blk_own _ _ (fun s => #[.int .i64 (sum3 a b x y z s)]) s A B row hs.2.2.2.1 hg hr, blk_own _ _ (fun _ => _) s A B row hs.2.2.2.2 hg hr⟩) _) (ownFrom_below (Nat.le_refl _) hB)
def InvX (w : World) (a b c x y z : Int) (cd : Code) (pre : List Ax) (W : World) : Prop := (cd = .ret ∧ ¬ Ok3 a b c x y z ∧ Blk W (w.heap.size + 1 + 1) 3 #[.int .i64 0] ∧ Blk W (w.heap.size + 1 + 1 + 1) 24 #[.int .i64 2]) ∧ Below w.heap.size w W
theorem invX_own (a b c x y z : Int) (B : Nat) (hB : w.heap.size ≤ B) (cd : Code) : OwnFrom B (InvX w a b c x y z cd) :=
  OwnFrom.and (Own.from (fun s A B row hs hg hr => ⟨hs.1, hs.2.1, blk_own _ _ (fun _ => _) s A B row hs.2.2.1 hg hr, blk_own _ _ (fun _ => _) s A B row hs.2.2.2 hg hr⟩) _) (ownFrom_below (Nat.le_refl _) hB)
theorem keeps_drewN (W : World) (n : Nat) : KeepsOthers W (W.drewN n) := ⟨Nat.le_refl _, fun _ _ h _ => h⟩
theorem step_on {pre : List Ax} {k : Ax} (m : Nat) (hz : w.heap.size + 1 + 1 + 1 < w1.heap.size) (h : Inv w a b c x y z pre W) (hk : 0 ≤ of3 x y z k ∧ of3 x y z k < of3 a b c k) {v : Int} (hv : v = sum3 a b x y z (pre ++ [k])) :
    KeepsOthers W ((W.drewN m).setCell ⟨w.heap.size + 1 + 1, 0, none⟩ (.int .i64 v)) ∧ KeepB w1.heap.size W ((W.drewN m).setCell ⟨w.heap.size + 1 + 1, 0, none⟩ (.int .i64 v)) ∧ Inv w a b c x y z (pre ++ [k]) ((W.drewN m).setCell ⟨w.heap.size + 1 + 1, 0, none⟩ (.int .i64 v)) := by
  obtain ⟨⟨hl, p0, p1, p2, p3⟩, hB⟩ := h
  subst hv
  refine ⟨(keeps_drewN W m).trans (KeepsOthers.setCell _ _ _), KeepB.set_ (W.drewN m) (by simp; omega) _, ⟨hl.snoc hk, (p0.drewN m).far (by simp; omega) _, (p1.drewN m).far (by simp) _, ?_, (p3.drewN m).far (by simp) _⟩, (below_drewN hB m).setCell (by simp; omega) _⟩
  exact (p2.drewN m).set_ 0 _
theorem step_off {pre pre' : List Ax} (m : Nat) (h : Inv w a b c x y z pre W) (hk : ¬ Ok3 a b c x y z) :
    KeepsOthers W (((W.drewN m).setCell ⟨w.heap.size + 1 + 1, 0, none⟩ (.int .i64 0)).setCell ⟨w.heap.size + 1 + 1 + 1, 0, none⟩ (.int .i64 2)) ∧ InvX w a b c x y z .ret pre' (((W.drewN m).setCell ⟨w.heap.size + 1 + 1, 0, none⟩ (.int .i64 0)).setCell ⟨w.heap.size + 1 + 1 + 1, 0, none⟩ (.int .i64 2)) := by
  obtain ⟨⟨hl, p0, p1, p2, p3⟩, hB⟩ := h
  refine ⟨((keeps_drewN W m).trans (KeepsOthers.setCell _ _ _)).trans (KeepsOthers.setCell _ _ _), ⟨rfl, hk, ?_, ?_⟩, ((below_drewN hB m).setCell (by simp; omega) _).setCell (by simp; omega) _⟩
  · exact ((p2.drewN m).set_ 0 _).far (by simp) _
  · exact ((p3.drewN m).far (by simp) _).set_ 0 _
theorem blk_putObj {W : World} {g : Nat} {t : TypeId} {cs : Array Value} {D : Nat} {o : Obj} (o' : Obj) (h : Blk W g t cs) (hD : W.heap[D]? = some o) (ho : o.isCells = false) : Blk (W.putObj D o') g t cs :=
  (blk_own g t (fun _ : Unit => cs)).putObj (s := ()) o' h hD ho
end

set_option maxRecDepth 100000 in
set_option maxHeartbeats 4000000 in
theorem at_may (a b c x y z : Int) (h : May a b c) (w : World) :
    Calls Try.prog 11 #[.agg #[.int .i64 a, .int .i64 b, .int .i64 c], .agg #[.int .i64 x, .int .i64 y, .int .i64 z]] w fun e w' => e = .returned (.tuple #[.int .i64 (atR a b c x y z).1, .int .i64 (atR a b c x y z).2]) ∧ Below w.heap.size w w' := by
  have HH := Lib.hid h
  clear h
  have HR : Hid ((∀ v, Ok3 a b c x y z → v = at_ a b x y z → atR a b c x y z = (v, 0)) ∧ (¬ Ok3 a b c x y z → atR a b c x y z = (0, 2))) := ⟨fun v h hv => by subst hv; exact if_pos h, fun h => if_neg h⟩
  generalize atR a b c x y z = r at *
  refine (callsIn_wide (n := 5)).1 ?_
  refine callsIn_of_wp_marks Try.func11 rfl trivial ?_ rfl
  simp only [Try.ntmps11, List.size_toArray, List.length_cons, List.length_nil, Nat.reduceAdd, Nat.reduceSub, Array.replicate_succ, Array.replicate_zero, List.push_toArray, List.append_toArray, List.nil_append, List.cons_append]
  gi_wp2_with fail
  refine ⟨trivial, ?_⟩
  refine (callsIn_wide.2 (check_ok a b c HH.out _)).mono ?_
  rintro e w1 ⟨rfl, hB1⟩
  have k0 : Blk w1 w.heap.size 23 #[.int .i64 a, .int .i64 b, .int .i64 c] := ((((Blk.new w _ _).alloc _).alloc _).alloc _).below hB1 (by simp; omega)
  have k1 : Blk w1 (w.heap.size + 1) 22 #[.int .i64 x, .int .i64 y, .int .i64 z] := (((blk1 w _ _).alloc _).alloc _).below hB1 (by simp)
  have k2 : Blk w1 (w.heap.size + 1 + 1) 3 #[.int .i64 0] := ((blk2 w _ _).alloc _).below hB1 (by simp)
  have k3 : Blk w1 (w.heap.size + 1 + 1 + 1) 24 #[.int .i64 0] := (blk3 w _ _).below hB1 (by simp)
  have hb1 : Below w.heap.size w w1 := below_up (below_alloc (below_alloc (below_alloc (below_alloc (Below.refl _ _))))) hB1
  have HB1 := Lib.hid hb1
  have HK := Lib.hid (And.intro k0 (And.intro k1 (And.intro k2 k3)))
  have c0 : w1.cell? ⟨w.heap.size, 0, none⟩ = some (.int .i64 a) := k0.cell 0
  have c1 : w1.cell? ⟨w.heap.size, 1, none⟩ = some (.int .i64 b) := k0.cell 1
  have c2 : w1.cell? ⟨w.heap.size, 2, none⟩ = some (.int .i64 c) := k0.cell 2
  have e0 : w1.cell? ⟨w.heap.size + 1 + 1 + 1, 0, none⟩ = some (.int .i64 0) := k3.cell 0
  have e1 : w1.frozen? ⟨w.heap.size + 1 + 1 + 1, 0, none⟩ = false := k3.frozen 0
  clear hB1 hb1 k0 k1 k2 k3
  gi_wp2_with (refine ⟨trivial, ?_⟩; gi_at_call 25; refine (strides_in Fence.wide 4 trivial rfl a b c _).mono ?_; rintro e w' ⟨rfl, rfl⟩)
  obtain ⟨g0, g1, g2, g3⟩ := HK.out
  obtain ⟨W0, hW0⟩ : ∃ W0, (w1.setCell ⟨w.heap.size + 1 + 1 + 1, 0, none⟩ (.int .i64 0)).alloc (.cells #[.int .i64 a, .int .i64 b, .int .i64 c] 23) = W0 := ⟨_, rfl⟩
  have q0 : Blk W0 w.heap.size 23 #[.int .i64 a, .int .i64 b, .int .i64 c] := by rw [← hW0]; exact (g0.far (by simp; omega) _).alloc _
  have q1 : Blk W0 (w.heap.size + 1) 22 #[.int .i64 x, .int .i64 y, .int .i64 z] := by rw [← hW0]; exact (g1.far (by simp) _).alloc _
  have q2 : Blk W0 (w.heap.size + 1 + 1) 3 #[.int .i64 0] := by rw [← hW0]; exact (g2.far (by simp) _).alloc _
  have q3 : Blk W0 (w.heap.size + 1 + 1 + 1) 24 #[.int .i64 0] := by rw [← hW0]; exact (g3.set_ 0 _).alloc _
  have q4 : Blk W0 w1.heap.size 23 #[.int .i64 a, .int .i64 b, .int .i64 c] := by
    rw [← hW0]
    have hq := Blk.new (w1.setCell ⟨w.heap.size + 1 + 1 + 1, 0, none⟩ (.int .i64 0)) 23 #[.int .i64 a, .int .i64 b, .int .i64 c]
    rwa [World.size_setCell] at hq
  have hBW : Below w.heap.size w W0 := by rw [← hW0]; exact below_alloc (HB1.out.setCell (by simp; omega) _)
  have hz : w.heap.size + 1 + 1 + 1 < w1.heap.size := g3.lt
  rw [hW0]
  clear c0 c1 c2 e0 e1 g0 g1 g2 g3 hW0
  have hI : Inv w a b c x y z [] W0 := ⟨⟨fun k hk => by simp at hk, q0, q1, q2, q3⟩, hBW⟩
  refine wpIn_rangeFunc_ownF rfl (by omega) (gf := 30) (lb := #[.pointer (some ⟨w1.heap.size, 0, none⟩)]) rfl trivial (enters_of Try.func30 (by kernel_rfl) rfl)
    (strides_stops Fence.wide 4 trivial rfl (by omega) w1.heap.size a b c HH.out W0 q4.lt (q4.cell 0) (q4.cell 1) (q4.cell 2)) KeepB.trans (fun W l o o' _ h ho _ => keepB_b W l o o' h ho) (Below.refl _ _) (fun _ => rfl)
    (Inv w a b c x y z) (InvX w a b c x y z) (inv_own a b c x y z _ hBW.size) (invX_own a b c x y z _ hBW.size) hI
    (fun k => { tmps := #[.agg #[.int .i64 a, .int .i64 b, .int .i64 c], .agg #[.int .i64 x, .int .i64 y, .int .i64 z], .pointer (some ⟨w.heap.size, 0, none⟩), .pointer (some ⟨w.heap.size + 1, 0, none⟩), .pointer (some ⟨w.heap.size + 1 + 1, 0, none⟩), .pointer (some ⟨w.heap.size + 1 + 1 + 1, 0, none⟩), .int .i64 (axn k), .int .i64 (sd a b k), .agg #[.int .i64 a, .int .i64 b, .int .i64 c], .int .i64 0, .int .i64 0, .bool false, .agg #[.int .i64 a, .int .i64 b, .int .i64 c], .func (.func 30) #[] #[.pointer (some ⟨w1.heap.size, 0, none⟩)], .int .i64 (axn k), .int .i64 (sd a b k), undef, undef, undef, undef, undef, undef, undef, undef, undef, undef, undef, undef, undef, undef, undef, undef, undef, undef, undef, undef, undef], defers := [] }) ?assign ?body ?done ?stop
  case assign =>
    intro l k W K hK
    dsimp only [enc3]
    gi_wp2
    exact hK
  case body =>
    rintro l pre k W hInv hlen
    have hs := sum3_snoc a b x y z pre k
    obtain ⟨r1, r2⟩ := sum3_range HH.out pre hInv.1.1
    have rt := fun h3 => term_range (x := x) (y := y) (z := z) HH.out k h3
    obtain ⟨⟨ha, ha'⟩, ⟨hb, hb'⟩, ⟨hc, hc'⟩⟩ := HH.out
    have r5 : sum3 a b x y z pre ≤ 12288 := by omega
    have HI := Lib.hid hInv
    obtain ⟨⟨-, p0, p1, p2, p3⟩, -⟩ := hInv
    have HS := Lib.hid hs
    have RT := Lib.hid rt
    have c0 : W.cell? ⟨w.heap.size, 0, none⟩ = some (.int .i64 a) := p0.cell 0
    have c1 : W.cell? ⟨w.heap.size, 1, none⟩ = some (.int .i64 b) := p0.cell 1
    have c2 : W.cell? ⟨w.heap.size, 2, none⟩ = some (.int .i64 c) := p0.cell 2
    have d0 : W.cell? ⟨w.heap.size + 1, 0, none⟩ = some (.int .i64 x) := p1.cell 0
    have d1 : W.cell? ⟨w.heap.size + 1, 1, none⟩ = some (.int .i64 y) := p1.cell 1
    have d2 : W.cell? ⟨w.heap.size + 1, 2, none⟩ = some (.int .i64 z) := p1.cell 2
    have m0 : W.cell? ⟨w.heap.size + 1 + 1, 0, none⟩ = some (.int .i64 (sum3 a b x y z pre)) := p2.cell 0
    have m1 : W.frozen? ⟨w.heap.size + 1 + 1, 0, none⟩ = false := p2.frozen 0
    have n0 : W.cell? ⟨w.heap.size + 1 + 1 + 1, 0, none⟩ = some (.int .i64 0) := p3.cell 0
    have n1 : W.frozen? ⟨w.heap.size + 1 + 1 + 1, 0, none⟩ = false := p3.frozen 0
    clear hs rt p0 p1 p2 p3 hlen r2 q0 q1 q2 q3 q4 hBW hI
    obtain ⟨s, hs⟩ : ∃ s, s = sum3 a b x y z pre := ⟨_, rfl⟩
    rw [← hs] at m0 r1 r5
    have HE := Lib.hid hs
    clear hs
    have hno : ∀ i, ¬ LetsOut (Exit.inBlock i (ownPostK (KeepB w1.heap.size) (Inv w a b c x y z) (InvX w a b c x y z) (pre ++ [k]) W)) := fun i ⟨_, _, h⟩ => h
    have HNO := Lib.hid hno
    clear hno
    rcases k with _ | _ | _ <;> dsimp only [axn, sd]
    · by_cases h0 : x < 0
      · have t1 : decide (x < 0) = true := by simpa using h0
        have t2 : ¬ Ok3 a b c x y z := fun h => by unfold Ok3 at h; omega
        have T2 := Lib.hid t2
        clear t2
        gi_wp2
        refine quiet_round l rfl (by kernel_rfl) (by kernel_rfl) (by kernel_rfl) ?_
        repeat (gi_big_quiet_step (fail))
        refine wpQuietIn_nil ?_
        intro _ hw'
        obtain ⟨nq, hw''⟩ := hw'
        subst hw''
        gi_wp2
        exact step_off nq HI.out T2.out
      · have t1 : decide (x < 0) = false := by simpa using h0
        by_cases h1 : a ≤ x
        · have t3 : decide (a ≤ x) = true := by simpa using h1
          have t2 : ¬ Ok3 a b c x y z := fun h => by unfold Ok3 at h; omega
          have T2 := Lib.hid t2
          clear t2
          gi_wp2
          refine quiet_round l rfl (by kernel_rfl) (by kernel_rfl) (by kernel_rfl) ?_
          repeat (gi_big_quiet_step (fail))
          refine wpQuietIn_nil ?_
          intro _ hw'
          obtain ⟨nq, hw''⟩ := hw'
          subst hw''
          gi_wp2
          exact step_off nq HI.out T2.out
        · have t3 : decide (a ≤ x) = false := by simpa using h1
          have hk : 0 ≤ of3 x y z none ∧ of3 x y z none < of3 a b c none := by dsimp only [of3]; omega
          obtain ⟨r3, r4⟩ := RT.out hk
          dsimp only [sd, of3] at r3 r4
          have HKK := Lib.hid hk
          have u1 : IntKind.i64.wrap (x) = x := IntWalk.i64_in _ (by omega)
          have u2 : IntKind.i64.wrap (s + x) = s + x := IntWalk.i64_in _ (by omega)
          clear hk
          gi_wp2
          refine quiet_round l rfl (by kernel_rfl) (by kernel_rfl) (by kernel_rfl) ?_
          repeat (gi_big_quiet_step (fail))
          refine wpQuietIn_nil ?_
          intro _ hw'
          obtain ⟨nq, hw''⟩ := hw'
          subst hw''
          gi_wp2
          refine still_round l 7 (HNO.out _) (by kernel_rfl) (by kernel_rfl) (by kernel_rfl) ?_
          simp only [List.take_succ_cons, List.take_zero, List.drop_succ_cons, List.drop_zero]
          repeat still_step
          refine wpStill_nil ?_
          go_wp2
          all_goals
            exact step_on (nq + 1) hz HI.out HKK.out (by rw [HS.out, ← HE.out]; simp [sd, of3])
    · by_cases h0 : y < 0
      · have t1 : decide (y < 0) = true := by simpa using h0
        have t2 : ¬ Ok3 a b c x y z := fun h => by unfold Ok3 at h; omega
        have T2 := Lib.hid t2
        clear t2
        gi_wp2
        refine quiet_round l rfl (by kernel_rfl) (by kernel_rfl) (by kernel_rfl) ?_
        repeat (gi_big_quiet_step (fail))
        refine wpQuietIn_nil ?_
        intro _ hw'
        obtain ⟨nq, hw''⟩ := hw'
        subst hw''
        gi_wp2
        exact step_off nq HI.out T2.out
      · have t1 : decide (y < 0) = false := by simpa using h0
        by_cases h1 : b ≤ y
        · have t3 : decide (b ≤ y) = true := by simpa using h1
          have t2 : ¬ Ok3 a b c x y z := fun h => by unfold Ok3 at h; omega
          have T2 := Lib.hid t2
          clear t2
          gi_wp2
          refine quiet_round l rfl (by kernel_rfl) (by kernel_rfl) (by kernel_rfl) ?_
          repeat (gi_big_quiet_step (fail))
          refine wpQuietIn_nil ?_
          intro _ hw'
          obtain ⟨nq, hw''⟩ := hw'
          subst hw''
          gi_wp2
          exact step_off nq HI.out T2.out
        · have t3 : decide (b ≤ y) = false := by simpa using h1
          have hk : 0 ≤ of3 x y z (some false) ∧ of3 x y z (some false) < of3 a b c (some false) := by dsimp only [of3]; omega
          obtain ⟨r3, r4⟩ := RT.out hk
          dsimp only [sd, of3] at r3 r4
          have HKK := Lib.hid hk
          have u1 : IntKind.i64.wrap (a * y) = a * y := IntWalk.i64_in _ (by omega)
          have u2 : IntKind.i64.wrap (s + a * y) = s + a * y := IntWalk.i64_in _ (by omega)
          clear hk
          gi_wp2
          refine quiet_round l rfl (by kernel_rfl) (by kernel_rfl) (by kernel_rfl) ?_
          repeat (gi_big_quiet_step (fail))
          refine wpQuietIn_nil ?_
          intro _ hw'
          obtain ⟨nq, hw''⟩ := hw'
          subst hw''
          gi_wp2
          refine still_round l 7 (HNO.out _) (by kernel_rfl) (by kernel_rfl) (by kernel_rfl) ?_
          simp only [List.take_succ_cons, List.take_zero, List.drop_succ_cons, List.drop_zero]
          repeat still_step
          refine wpStill_nil ?_
          go_wp2
          all_goals
            exact step_on (nq + 1) hz HI.out HKK.out (by rw [HS.out, ← HE.out]; simp [sd, of3])
    · by_cases h0 : z < 0
      · have t1 : decide (z < 0) = true := by simpa using h0
        have t2 : ¬ Ok3 a b c x y z := fun h => by unfold Ok3 at h; omega
        have T2 := Lib.hid t2
        clear t2
        gi_wp2
        refine quiet_round l rfl (by kernel_rfl) (by kernel_rfl) (by kernel_rfl) ?_
        repeat (gi_big_quiet_step (fail))
        refine wpQuietIn_nil ?_
        intro _ hw'
        obtain ⟨nq, hw''⟩ := hw'
        subst hw''
        gi_wp2
        exact step_off nq HI.out T2.out
      · have t1 : decide (z < 0) = false := by simpa using h0
        by_cases h1 : c ≤ z
        · have t3 : decide (c ≤ z) = true := by simpa using h1
          have t2 : ¬ Ok3 a b c x y z := fun h => by unfold Ok3 at h; omega
          have T2 := Lib.hid t2
          clear t2
          gi_wp2
          refine quiet_round l rfl (by kernel_rfl) (by kernel_rfl) (by kernel_rfl) ?_
          repeat (gi_big_quiet_step (fail))
          refine wpQuietIn_nil ?_
          intro _ hw'
          obtain ⟨nq, hw''⟩ := hw'
          subst hw''
          gi_wp2
          exact step_off nq HI.out T2.out
        · have t3 : decide (c ≤ z) = false := by simpa using h1
          have hk : 0 ≤ of3 x y z (some true) ∧ of3 x y z (some true) < of3 a b c (some true) := by dsimp only [of3]; omega
          obtain ⟨r3, r4⟩ := RT.out hk
          dsimp only [sd, of3] at r3 r4
          have HKK := Lib.hid hk
          have u1 : IntKind.i64.wrap (a * b * z) = a * b * z := IntWalk.i64_in _ (by omega)
          have u2 : IntKind.i64.wrap (s + a * b * z) = s + a * b * z := IntWalk.i64_in _ (by omega)
          clear hk
          gi_wp2
          refine quiet_round l rfl (by kernel_rfl) (by kernel_rfl) (by kernel_rfl) ?_
          repeat (gi_big_quiet_step (fail))
          refine wpQuietIn_nil ?_
          intro _ hw'
          obtain ⟨nq, hw''⟩ := hw'
          subst hw''
          gi_wp2
          refine still_round l 7 (HNO.out _) (by kernel_rfl) (by kernel_rfl) (by kernel_rfl) ?_
          simp only [List.take_succ_cons, List.take_zero, List.drop_succ_cons, List.drop_zero]
          repeat still_step
          refine wpStill_nil ?_
          go_wp2
          all_goals
            exact step_on (nq + 1) hz HI.out HKK.out (by rw [HS.out, ← HE.out]; simp [sd, of3])
  case done =>
    rintro D ys W hD rfl ⟨⟨hl, p0, p1, p2, p3⟩, hB⟩ hK
    rw [sum3_axes] at p2
    have hr := HR.out.1 _ hl.all rfl
    have m0 : W.cell? ⟨w.heap.size + 1 + 1, 0, none⟩ = some (.int .i64 (at_ a b x y z)) := p2.cell 0
    have m1 : W.frozen? ⟨w.heap.size + 1 + 1, 0, none⟩ = false := p2.frozen 0
    have n0 : W.cell? ⟨w.heap.size + 1 + 1 + 1, 0, none⟩ = some (.int .i64 0) := p3.cell 0
    have n1 : W.frozen? ⟨w.heap.size + 1 + 1 + 1, 0, none⟩ = false := p3.frozen 0
    have HP := Lib.hid (And.intro p2 p3)
    have HB := Lib.hid hB
    have HKK := Lib.hid hK
    have HRR := Lib.hid hr
    clear p0 p1 p2 p3 hB hK hr q0 q1 q2 q3 q4 hI
    generalize at_ a b x y z = v at *
    gi_wp2
    have hK1 := ((KeepsOthers.setCell W ⟨w.heap.size + 1 + 1, 0, none⟩ (.int .i64 v)).trans (KeepsOthers.setCell _ ⟨w.heap.size + 1 + 1 + 1, 0, none⟩ (.int .i64 0))).same D _ HKK.out rfl
    refine ⟨by simp, .inl ⟨_, _, rfl, run_takeDeferred hK1, ?_⟩⟩
    have b2 := blk_putObj (.deferred none) ((HP.out.1.set_ 0 (.int .i64 v)).far (p := ⟨w.heap.size + 1 + 1 + 1, 0, none⟩) (by simp) (.int .i64 0)) hK1 rfl
    have b3 := blk_putObj (.deferred none) ((HP.out.2.far (p := ⟨w.heap.size + 1 + 1, 0, none⟩) (by simp) (.int .i64 v)).set_ 0 (.int .i64 0)) hK1 rfl
    refine ⟨.tuple #[.int .i64 v, .int .i64 0], ?_, by rw [HRR.out], ((HB.out.setCell (p := ⟨w.heap.size + 1 + 1, 0, none⟩) (by simp; omega) _).setCell (p := ⟨w.heap.size + 1 + 1 + 1, 0, none⟩) (by simp; omega) _).trans (belowK_b (w := w) (Nat.le_refl _) _ D _ _ (by have := hBW.size; omega) hK1 rfl rfl)⟩
    have c2 := b2.cell 0
    have c3 := b3.cell 0
    simp at c2 c3
    simp [results, Try.f11, go_sem, c2, c3]
  case stop =>
    rintro D cd pre W hD _ ⟨⟨rfl, hno, p2, p3⟩, hB⟩ hK
    have hr := HR.out.2 hno
    have m0 : W.cell? ⟨w.heap.size + 1 + 1, 0, none⟩ = some (.int .i64 0) := p2.cell 0
    have n0 : W.cell? ⟨w.heap.size + 1 + 1 + 1, 0, none⟩ = some (.int .i64 2) := p3.cell 0
    have HP := Lib.hid (And.intro p2 p3)
    have HB := Lib.hid hB
    have HKK := Lib.hid hK
    have HRR := Lib.hid hr
    clear p2 p3 hB hK hr q0 q1 q2 q3 q4 hI
    gi_wp2
    have hK1 := HKK.out
    refine ⟨by simp, .inl ⟨_, _, rfl, run_takeDeferred hK1, ?_⟩⟩
    have b2 := blk_putObj (.deferred none) HP.out.1 hK1 rfl
    have b3 := blk_putObj (.deferred none) HP.out.2 hK1 rfl
    refine ⟨.tuple #[.int .i64 0, .int .i64 2], ?_, by rw [HRR.out], HB.out.trans (belowK_b (w := w) (Nat.le_refl _) _ D _ _ (by have := hBW.size; omega) hK1 rfl rfl)⟩
    have c2 := b2.cell 0
    have c3 := b3.cell 0
    simp at c2 c3
    simp [results, Try.f11, go_sem, c2, c3]
end Go.Proofs.Ythapginaphdmjaa.PosAt
