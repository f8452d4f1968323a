/- The reference: Same, Twin. -/
import Derived.BigQuiet
import Derived.Deep.QuietTactic
import Derived.Deep.RegionLaw
import Derived.Lib.SliceRun
import Derived.Lib.QuietBelow
import Derived.Test.YtfdldbfjeamlcaaLogRef1
namespace Go.Proofs.Ytfdldbfjeamlcaa.LogRef2
open Go.RowKit Mem LogMath LogProg LogRef1
open Go.Sort (grow)
set_option linter.unusedVariables false
set_option linter.unusedSimpArgs false

set_option maxRecDepth 100000 in
set_option maxHeartbeats 4000000 in
/-- The reference's Same. -/
theorem rSame (x y : AV) (X : Option Addr) (ca : Nat) (Y : Option Addr) (cb : Nat) (x' y' : AV) (X' : Option Addr) (ca' : Nat) (Y' : Option Addr) (cb' : Nat) (w : World) (hX : TAt w X x.t) (hY : TAt w Y y.t) (hX' : TAt w X' x'.t) (hY' : TAt w Y' y'.t) :
    Calls Try.prog 35 #[.agg #[.slice X x.t.length ca, .int .i64 x.k, .slice Y y.t.length cb, .int .i64 y.k], .agg #[.slice X' x'.t.length ca', .int .i64 x'.k, .slice Y' y'.t.length cb', .int .i64 y'.k]] w fun e w' => e = .returned (.bool (sameL ⟨x, y⟩ ⟨x', y'⟩)) ∧ Below w.heap.size w w' := by
  have HX := Lib.hid (And.intro (And.intro hX hY) (And.intro hX' hY'))
  clear hX hY hX' hY'
  go_enter Try.func35, Try.ntmps35
  go_wp2_with fail
  go_loopw [5] (fun i wr => ∃ k : Nat, k ≤ 2 ∧ i = .int .i64 k ∧ Hid ((0 < k → sameA x x' = true) ∧ (1 < k → sameA y y' = true)) ∧ Hid (Below w.heap.size w wr) ∧ Hid (Blk wr w.heap.size 70 #[.slice X x.t.length ca, .int .i64 x.k, .slice Y y.t.length cb, .int .i64 y.k]) ∧ Hid (Blk wr (w.heap.size + 1) 70 #[.slice X' x'.t.length ca', .int .i64 x'.k, .slice Y' y'.t.length cb', .int .i64 y'.k]))
    (fun i _ => 2 - (intOf i).toNat)
  case atStart => exact ⟨0, by omega, rfl, ⟨(fun h => by omega), (fun h => by omega)⟩, below_alloc (below_alloc (Below.refl _ _)), (Blk.new _ _ _).alloc _, blk1 _ _ _⟩
  case round =>
    obtain ⟨k, hk, rfl, hp, hB, hA, hA'⟩ := hrel
    match k, hk with
    | 0, _ =>
      have p0 : wr.cell? ⟨w.heap.size, 0, none⟩ = some (.slice X x.t.length ca) := hA.out.cell 0
      have p1 : wr.cell? ⟨w.heap.size, 1, none⟩ = some (.int .i64 x.k) := hA.out.cell 1
      have p2 : wr.cell? ⟨w.heap.size + 1, 0, none⟩ = some (.slice X' x'.t.length ca') := hA'.out.cell 0
      have p3 : wr.cell? ⟨w.heap.size + 1, 1, none⟩ = some (.int .i64 x'.k) := hA'.out.cell 1
      have t1 := Lib.hid (TAt.up HX.out.1.1 hB.out)
      have t2 := Lib.hid (TAt.up HX.out.2.1 hB.out)
      by_cases h1 : x.k = x'.k
      · have e1 : (x.k != x'.k) = false := by simpa using h1
        have H1 := Lib.hid h1
        clear h1
        cases h2 : ((strOf x.t).toList == (strOf x'.t).toList)
        · have e2 : ((strOf x.t).toList != (strOf x'.t).toList) = true := by simp only [bne, h2]; rfl
          go_wp2_with fail
          have kq0 := cell_regrown p0
          have kq1 := cell_regrown p1
          have kq2 := cell_regrown p2
          have kq3 := cell_regrown p3
          have kv0 := fun (dq : _) (osq : _) => run_strOf (c := ca) (TAt.reads (TAt.up t1.out (below_regrown wr dq osq)))
          have kv1 := fun (dq : _) (osq : _) => run_strOf (c := ca') (TAt.reads (TAt.up t2.out (below_regrown wr dq osq)))
          refine wp_region_quiet_below (by kernel_rfl) (by kernel_rfl) ?_
          repeat (go_big_quiet_step (first | fail))
          refine wpQuiet_nil ?_
          intro _ hw'
          obtain ⟨⟨dq, osq⟩, hw''⟩ := hw'
          subst hw''
          have hBq := below_regrown wr dq osq
          clear kq0 kq1 kq2 kq3 kv0 kv1
          generalize grow (redrawn wr dq) osq = w2 at *
          have HB2 := Lib.hid (below_up hB.out hBq)
          have HA2 := Lib.hid (hA.out.below hBq hA.out.lt)
          have HA3 := Lib.hid (hA'.out.below hBq hA'.out.lt)
          clear hBq hB hA hA' p0 p1 p2 p3 t1 t2
          go_wp2_with fail
          go_ret
          exact ⟨by rw [show sameL ⟨x, y⟩ ⟨x', y'⟩ = false from by unfold sameL; rw [show sameA x x' = false from by unfold sameA; rw [h2]; simp]; rfl]; rfl, HB2.out⟩
        · have e2 : ((strOf x.t).toList != (strOf x'.t).toList) = false := by simp only [bne, h2]; rfl
          go_wp2_with fail
          have kq0 := cell_regrown p0
          have kq1 := cell_regrown p1
          have kq2 := cell_regrown p2
          have kq3 := cell_regrown p3
          have kv0 := fun (dq : _) (osq : _) => run_strOf (c := ca) (TAt.reads (TAt.up t1.out (below_regrown wr dq osq)))
          have kv1 := fun (dq : _) (osq : _) => run_strOf (c := ca') (TAt.reads (TAt.up t2.out (below_regrown wr dq osq)))
          refine wp_region_quiet_below (by kernel_rfl) (by kernel_rfl) ?_
          repeat (go_big_quiet_step (first | fail))
          refine wpQuiet_nil ?_
          intro _ hw'
          obtain ⟨⟨dq, osq⟩, hw''⟩ := hw'
          subst hw''
          have hBq := below_regrown wr dq osq
          clear kq0 kq1 kq2 kq3 kv0 kv1
          generalize grow (redrawn wr dq) osq = w2 at *
          have HB2 := Lib.hid (below_up hB.out hBq)
          have HA2 := Lib.hid (hA.out.below hBq hA.out.lt)
          have HA3 := Lib.hid (hA'.out.below hBq hA'.out.lt)
          clear hBq hB hA hA' p0 p1 p2 p3 t1 t2
          go_wp2_with fail
          go_roundw
          case rel => exact ⟨1, by omega, rfl, ⟨(fun _ => by unfold sameA; rw [h2, H1.out]; simp), (fun h => by omega)⟩, HB2.out, HA2.out, HA3.out⟩
          case measure => simp [intOf]
      · have e1 : (x.k != x'.k) = true := by simpa using h1
        have H1 := Lib.hid h1
        clear h1
        go_wp2_with fail
        have kq0 := cell_regrown p0
        have kq1 := cell_regrown p1
        have kq2 := cell_regrown p2
        have kq3 := cell_regrown p3
        refine wp_region_quiet_below (by kernel_rfl) (by kernel_rfl) ?_
        repeat (go_big_quiet_step (first | fail))
        refine wpQuiet_nil ?_
        intro _ hw'
        obtain ⟨⟨dq, osq⟩, hw''⟩ := hw'
        subst hw''
        have hBq := below_regrown wr dq osq
        clear kq0 kq1 kq2 kq3
        generalize grow (redrawn wr dq) osq = w2 at *
        have HB2 := Lib.hid (below_up hB.out hBq)
        have HA2 := Lib.hid (hA.out.below hBq hA.out.lt)
        have HA3 := Lib.hid (hA'.out.below hBq hA'.out.lt)
        clear hBq hB hA hA' p0 p1 p2 p3 t1 t2
        go_wp2_with fail
        go_ret
        exact ⟨by rw [show sameL ⟨x, y⟩ ⟨x', y'⟩ = false from by unfold sameL; rw [show sameA x x' = false from by unfold sameA; rw [show (x.k == x'.k) = false from by simpa using H1.out]; rfl]; rfl]; rfl, HB2.out⟩
    | 1, _ =>
      have p0 : wr.cell? ⟨w.heap.size, 2, none⟩ = some (.slice Y y.t.length cb) := hA.out.cell 2
      have p1 : wr.cell? ⟨w.heap.size, 3, none⟩ = some (.int .i64 y.k) := hA.out.cell 3
      have p2 : wr.cell? ⟨w.heap.size + 1, 2, none⟩ = some (.slice Y' y'.t.length cb') := hA'.out.cell 2
      have p3 : wr.cell? ⟨w.heap.size + 1, 3, none⟩ = some (.int .i64 y'.k) := hA'.out.cell 3
      have t1 := Lib.hid (TAt.up HX.out.1.2 hB.out)
      have t2 := Lib.hid (TAt.up HX.out.2.2 hB.out)
      by_cases h1 : y.k = y'.k
      · have e1 : (y.k != y'.k) = false := by simpa using h1
        have H1 := Lib.hid h1
        clear h1
        cases h2 : ((strOf y.t).toList == (strOf y'.t).toList)
        · have e2 : ((strOf y.t).toList != (strOf y'.t).toList) = true := by simp only [bne, h2]; rfl
          go_wp2_with fail
          have kq0 := cell_regrown p0
          have kq1 := cell_regrown p1
          have kq2 := cell_regrown p2
          have kq3 := cell_regrown p3
          have kv0 := fun (dq : _) (osq : _) => run_strOf (c := cb) (TAt.reads (TAt.up t1.out (below_regrown wr dq osq)))
          have kv1 := fun (dq : _) (osq : _) => run_strOf (c := cb') (TAt.reads (TAt.up t2.out (below_regrown wr dq osq)))
          refine wp_region_quiet_below (by kernel_rfl) (by kernel_rfl) ?_
          repeat (go_big_quiet_step (first | fail))
          refine wpQuiet_nil ?_
          intro _ hw'
          obtain ⟨⟨dq, osq⟩, hw''⟩ := hw'
          subst hw''
          have hBq := below_regrown wr dq osq
          clear kq0 kq1 kq2 kq3 kv0 kv1
          generalize grow (redrawn wr dq) osq = w2 at *
          have HB2 := Lib.hid (below_up hB.out hBq)
          have HA2 := Lib.hid (hA.out.below hBq hA.out.lt)
          have HA3 := Lib.hid (hA'.out.below hBq hA'.out.lt)
          clear hBq hB hA hA' p0 p1 p2 p3 t1 t2
          go_wp2_with fail
          go_ret
          exact ⟨by rw [show sameL ⟨x, y⟩ ⟨x', y'⟩ = false from by unfold sameL; rw [show sameA y y' = false from by unfold sameA; rw [h2]; simp]; simp]; rfl, HB2.out⟩
        · have e2 : ((strOf y.t).toList != (strOf y'.t).toList) = false := by simp only [bne, h2]; rfl
          go_wp2_with fail
          have kq0 := cell_regrown p0
          have kq1 := cell_regrown p1
          have kq2 := cell_regrown p2
          have kq3 := cell_regrown p3
          have kv0 := fun (dq : _) (osq : _) => run_strOf (c := cb) (TAt.reads (TAt.up t1.out (below_regrown wr dq osq)))
          have kv1 := fun (dq : _) (osq : _) => run_strOf (c := cb') (TAt.reads (TAt.up t2.out (below_regrown wr dq osq)))
          refine wp_region_quiet_below (by kernel_rfl) (by kernel_rfl) ?_
          repeat (go_big_quiet_step (first | fail))
          refine wpQuiet_nil ?_
          intro _ hw'
          obtain ⟨⟨dq, osq⟩, hw''⟩ := hw'
          subst hw''
          have hBq := below_regrown wr dq osq
          clear kq0 kq1 kq2 kq3 kv0 kv1
          generalize grow (redrawn wr dq) osq = w2 at *
          have HB2 := Lib.hid (below_up hB.out hBq)
          have HA2 := Lib.hid (hA.out.below hBq hA.out.lt)
          have HA3 := Lib.hid (hA'.out.below hBq hA'.out.lt)
          clear hBq hB hA hA' p0 p1 p2 p3 t1 t2
          go_wp2_with fail
          go_roundw
          case rel => exact ⟨2, by omega, rfl, ⟨(fun _ => hp.out.1 (by omega)), (fun _ => by unfold sameA; rw [h2, H1.out]; simp)⟩, HB2.out, HA2.out, HA3.out⟩
          case measure => simp [intOf]
      · have e1 : (y.k != y'.k) = true := by simpa using h1
        have H1 := Lib.hid h1
        clear h1
        go_wp2_with fail
        have kq0 := cell_regrown p0
        have kq1 := cell_regrown p1
        have kq2 := cell_regrown p2
        have kq3 := cell_regrown p3
        refine wp_region_quiet_below (by kernel_rfl) (by kernel_rfl) ?_
        repeat (go_big_quiet_step (first | fail))
        refine wpQuiet_nil ?_
        intro _ hw'
        obtain ⟨⟨dq, osq⟩, hw''⟩ := hw'
        subst hw''
        have hBq := below_regrown wr dq osq
        clear kq0 kq1 kq2 kq3
        generalize grow (redrawn wr dq) osq = w2 at *
        have HB2 := Lib.hid (below_up hB.out hBq)
        have HA2 := Lib.hid (hA.out.below hBq hA.out.lt)
        have HA3 := Lib.hid (hA'.out.below hBq hA'.out.lt)
        clear hBq hB hA hA' p0 p1 p2 p3 t1 t2
        go_wp2_with fail
        go_ret
        exact ⟨by rw [show sameL ⟨x, y⟩ ⟨x', y'⟩ = false from by unfold sameL; rw [show sameA y y' = false from by unfold sameA; rw [show (y.k == y'.k) = false from by simpa using H1.out]; rfl]; simp]; rfl, HB2.out⟩
    | 2, _ =>
      go_wp2_with fail
      go_ret
      exact ⟨by rw [show sameL ⟨x, y⟩ ⟨x', y'⟩ = true from by unfold sameL; rw [hp.out.1 (by omega), hp.out.2 (by omega)]; rfl]; rfl, hB.out⟩
/-- A row of bytes is a slice. -/
theorem own_slice {w : World} {B n : Nat} {v : Value} {xs : List Value} (h : w.ownsRow B 5 1 v n xs) : ∃ Y c, v = .slice Y n c := by
  rcases h.2 with ⟨rfl, e0⟩ | ⟨g, cap', cur, rfl, _⟩
  · exact ⟨none, 0, by rw [e0]⟩
  · exact ⟨_, cap', rfl⟩
/-- What the reference's Twin has made before its round k. -/
def RtRel (x y : AV) (B g : Nat) (k : Nat) (w : World) : Prop :=
  (k = 0 ∧ Blk w g 70 #[.slice none 0 0, .int .i64 0, .slice none 0 0, .int .i64 0]) ∨
  (k = 1 ∧ ∃ X' ca', TOwn w B (.slice X' x.t.length ca') x.t ∧ Blk w g 70 #[.slice X' x.t.length ca', .int .i64 x.k, .slice none 0 0, .int .i64 0]) ∨
  (k = 2 ∧ ∃ X' ca' Y' cb', TOwn w B (.slice X' x.t.length ca') x.t ∧ TOwn w B (.slice Y' y.t.length cb') y.t ∧ (∀ b, (Value.slice X' x.t.length ca').ownBlock = some b → (Value.slice Y' y.t.length cb').ownBlock ≠ some b) ∧ Blk w g 70 #[.slice X' x.t.length ca', .int .i64 x.k, .slice Y' y.t.length cb', .int .i64 y.k])
set_option maxRecDepth 100000 in
set_option maxHeartbeats 4000000 in
/-- The reference's Twin. -/
theorem rTwin (x y : AV) (X : Option Addr) (ca : Nat) (Y : Option Addr) (cb : Nat) (hx : x.t.length ≤ 140737488355328) (hy : y.t.length ≤ 140737488355328) (w : World) (hX : TAt w X x.t) (hY : TAt w Y y.t) :
    Calls Try.prog 27 #[.agg #[.slice X x.t.length ca, .int .i64 x.k, .slice Y y.t.length cb, .int .i64 y.k]] w fun e w' => ∃ X' ca' Y' cb', e = .returned (.agg #[.slice X' x.t.length ca', .int .i64 x.k, .slice Y' y.t.length cb', .int .i64 y.k]) ∧ TOwn w' (w.heap.size) (.slice X' x.t.length ca') x.t ∧ TOwn w' (w.heap.size) (.slice Y' y.t.length cb') y.t ∧
      (∀ b, (Value.slice X' x.t.length ca').ownBlock = some b → (Value.slice Y' y.t.length cb').ownBlock ≠ some b) ∧ Below w.heap.size w w' := by
  obtain ⟨i0, hi0, hz0, hz1, hz2⟩ := info_parts byte_info
  have HI := Lib.hid (And.intro hi0 (And.intro hz0 (And.intro hz1 hz2)))
  have HX := Lib.hid (And.intro hX hY)
  clear hX hY hi0 hz0 hz1 hz2
  go_enter Try.func27, Try.ntmps27
  go_wp2_with fail
  go_loopw [4] (fun i wr => ∃ k : Nat, k ≤ 2 ∧ i = .int .i64 k ∧ Hid (RtRel x y (w.heap.size + 1 + 1 + 1) (w.heap.size + 1 + 1) k wr) ∧ Hid (Below w.heap.size w wr) ∧ Hid (Blk wr w.heap.size 70 #[.slice X x.t.length ca, .int .i64 x.k, .slice Y y.t.length cb, .int .i64 y.k]) ∧ Hid (Blk wr (w.heap.size + 1) 70 #[.slice none 0 0, .int .i64 0, .slice none 0 0, .int .i64 0]))
    (fun i _ => 2 - (intOf i).toNat)
  case atStart => exact ⟨0, by omega, rfl, .inl ⟨rfl, blk2 _ _ _⟩, below_alloc (below_alloc (below_alloc (Below.refl _ _))), ((Blk.new _ _ _).alloc _).alloc _, (blk1 _ _ _).alloc _⟩
  case round =>
    obtain ⟨k, hk, rfl, hR, hB, hA, hZ⟩ := hrel
    rcases hR.out with ⟨rfl, hK⟩ | ⟨rfl, X', ca', hO, hK⟩ | ⟨rfl, X', ca', Y', cb', hO, hO2, hne, hK⟩
    · have HK := Lib.hid hK
      have p1 : wr.cell? ⟨w.heap.size, 1, none⟩ = some (.int .i64 x.k) := hA.out.cell 1
      have q1 : wr.cell? ⟨w.heap.size + 1 + 1, 1, none⟩ = some (.int .i64 0) := HK.out.cell 1
      have fz1 := HK.out.frozen 1
      have hs3 : w.heap.size + 1 + 1 < wr.heap.size := cell_lt q1
      clear hR hK
      go_wp2_with fail
      have hK2 : Blk (wr.setCell ⟨w.heap.size + 1 + 1, 1, none⟩ (.int .i64 x.k)) (w.heap.size + 1 + 1) 70 #[.slice none 0 0, .int .i64 x.k, .slice none 0 0, .int .i64 0] := HK.out.set_ 1 _
      have hA2 : Blk (wr.setCell ⟨w.heap.size + 1 + 1, 1, none⟩ (.int .i64 x.k)) w.heap.size 70 #[.slice X x.t.length ca, .int .i64 x.k, .slice Y y.t.length cb, .int .i64 y.k] := hA.out.far (by simp <;> omega) _
      have hZ2 : Blk (wr.setCell ⟨w.heap.size + 1 + 1, 1, none⟩ (.int .i64 x.k)) (w.heap.size + 1) 70 #[.slice none 0 0, .int .i64 0, .slice none 0 0, .int .i64 0] := hZ.out.far (by simp) _
      have hB2 := hB.out.setCell (p := ⟨w.heap.size + 1 + 1, 1, none⟩) (by show w.heap.size ≤ w.heap.size + 1 + 1; omega) (.int .i64 x.k)
      have hs2 : w.heap.size + 1 + 1 < (wr.setCell ⟨w.heap.size + 1 + 1, 1, none⟩ (.int .i64 x.k)).heap.size := by simpa using hs3
      clear p1 q1 fz1 hB hA hZ HK
      generalize wr.setCell ⟨w.heap.size + 1 + 1, 1, none⟩ (.int .i64 x.k) = w1 at *
      have p0 : w1.cell? ⟨w.heap.size, 0, none⟩ = some (.slice X x.t.length ca) := hA2.cell 0
      have q0 : w1.cell? ⟨w.heap.size + 1 + 1, 0, none⟩ = some (.slice none 0 0) := hK2.cell 0
      have fz0 := hK2.frozen 0
      have t1 := Lib.hid (TAt.up HX.out.1 hB2)
      have H2 := Lib.hid (And.intro hK2 (And.intro hA2 (And.intro hZ2 (And.intro hB2 hs2))))
      clear hK2 hA2 hZ2 hB2
      go_region_law (refine step_append_any _ rfl (.tmp 23) (.tmp 28) _ rfl (w.heap.size + 1 + 1 + 1) 5 i0 (.int .u8 0) 1 1 Try.underlying37 HI.out.1 HI.out.2.1 HI.out.2.2.1 HI.out.2.2.2 rfl (by decide) (.slice none 0 0) 0 [] (by simp [Act.eval, Act.put]) (World.ownsRow_nil _ _ _ _) w1.heap.size X x.t.length ca (x.t.map (Value.int .u8)) (by simp [Act.eval, Act.put]) (Reads.drew t1.out.reads) (one_cells x.t) (by simp only [maxLen]; omega) (by omega) (by show _ ≤ w1.heap.size; omega) ?_; intro v3 w3 hown hg hat; rw [Nat.zero_add, List.nil_append] at hown; obtain ⟨X', ca', rfl⟩ := own_slice hown; have hK3 := H2.out.1.drew.grown hg (by simp [Value.ownBlock]); have q3 : w3.cell? ⟨w.heap.size + 1 + 1, 0, none⟩ = some (.slice none 0 0) := hK3.cell 0; have f3 := hK3.frozen 0; have H3 := Lib.hid (And.intro hown (And.intro hg (And.intro hat hK3))); clear hown hg hat hK3 q0 fz0)
      all_goals
        go_wp2_with fail
        go_roundw
        case measure => simp [intOf]
        have hK4 : Blk (w3.setCell ⟨w.heap.size + 1 + 1, 0, none⟩ (.slice X' x.t.length ca')) (w.heap.size + 1 + 1) 70 #[.slice X' x.t.length ca', .int .i64 x.k, .slice none 0 0, .int .i64 0] := H3.out.2.2.2.set_ 0 _
        have hO4 := Go.RowKit.ownsRow_setCell_below H3.out.1 (a := ⟨w.heap.size + 1 + 1, 0, none⟩) (by show w.heap.size + 1 + 1 < w.heap.size + 1 + 1 + 1; omega) (.slice X' x.t.length ca')
        have hB4 := (H2.out.2.2.2.1.drew.grown H3.out.2.1 (by have := H2.out.2.2.2.1.size; simpa using this) (fun j hj => by simp [Value.ownBlock] at hj)).setCell (p := ⟨w.heap.size + 1 + 1, 0, none⟩) (by show w.heap.size ≤ w.heap.size + 1 + 1; omega) (.slice X' x.t.length ca')
        have hA4 := (H2.out.2.1.drew.grown H3.out.2.1 (by simp [Value.ownBlock])).far (p := ⟨w.heap.size + 1 + 1, 0, none⟩) (by simp <;> omega) (.slice X' x.t.length ca')
        have hZ4 := (H2.out.2.2.1.drew.grown H3.out.2.1 (by simp [Value.ownBlock])).far (p := ⟨w.heap.size + 1 + 1, 0, none⟩) (by simp) (.slice X' x.t.length ca')
        exact ⟨1, by omega, rfl, .inr (.inl ⟨rfl, X', ca', hO4, hK4⟩), hB4, hA4, hZ4⟩
    · have HO := Lib.hid hO
      clear hO
      have HK := Lib.hid hK
      have p1 : wr.cell? ⟨w.heap.size, 3, none⟩ = some (.int .i64 y.k) := hA.out.cell 3
      have q1 : wr.cell? ⟨w.heap.size + 1 + 1, 3, none⟩ = some (.int .i64 0) := HK.out.cell 3
      have fz1 := HK.out.frozen 3
      have hs3 : w.heap.size + 1 + 1 < wr.heap.size := cell_lt q1
      clear hR hK
      go_wp2_with fail
      have hK2 : Blk (wr.setCell ⟨w.heap.size + 1 + 1, 3, none⟩ (.int .i64 y.k)) (w.heap.size + 1 + 1) 70 #[.slice X' x.t.length ca', .int .i64 x.k, .slice none 0 0, .int .i64 y.k] := HK.out.set_ 3 _
      have hA2 : Blk (wr.setCell ⟨w.heap.size + 1 + 1, 3, none⟩ (.int .i64 y.k)) w.heap.size 70 #[.slice X x.t.length ca, .int .i64 x.k, .slice Y y.t.length cb, .int .i64 y.k] := hA.out.far (by simp <;> omega) _
      have hZ2 : Blk (wr.setCell ⟨w.heap.size + 1 + 1, 3, none⟩ (.int .i64 y.k)) (w.heap.size + 1) 70 #[.slice none 0 0, .int .i64 0, .slice none 0 0, .int .i64 0] := hZ.out.far (by simp) _
      have hB2 := hB.out.setCell (p := ⟨w.heap.size + 1 + 1, 3, none⟩) (by show w.heap.size ≤ w.heap.size + 1 + 1; omega) (.int .i64 y.k)
      have hs2 : w.heap.size + 1 + 1 < (wr.setCell ⟨w.heap.size + 1 + 1, 3, none⟩ (.int .i64 y.k)).heap.size := by simpa using hs3
      have hO2 : TOwn (wr.setCell ⟨w.heap.size + 1 + 1, 3, none⟩ (.int .i64 y.k)) (w.heap.size + 1 + 1 + 1) (.slice X' x.t.length ca') x.t := Go.RowKit.ownsRow_setCell_below HO.out (by show w.heap.size + 1 + 1 < w.heap.size + 1 + 1 + 1; omega) _
      clear p1 q1 fz1 hB hA hZ HK HO
      generalize wr.setCell ⟨w.heap.size + 1 + 1, 3, none⟩ (.int .i64 y.k) = w1 at *
      have p0 : w1.cell? ⟨w.heap.size, 2, none⟩ = some (.slice Y y.t.length cb) := hA2.cell 2
      have q0 : w1.cell? ⟨w.heap.size + 1 + 1, 2, none⟩ = some (.slice none 0 0) := hK2.cell 2
      have fz0 := hK2.frozen 2
      have t1 := Lib.hid (TAt.up HX.out.2 hB2)
      have H2 := Lib.hid (And.intro hK2 (And.intro hA2 (And.intro hZ2 (And.intro hB2 hs2))))
      have HO2 := Lib.hid hO2
      clear hK2 hA2 hZ2 hB2 hO2
      go_region_law (refine step_append_any _ rfl (.tmp 23) (.tmp 28) _ rfl (w.heap.size + 1 + 1 + 1) 5 i0 (.int .u8 0) 1 1 Try.underlying37 HI.out.1 HI.out.2.1 HI.out.2.2.1 HI.out.2.2.2 rfl (by decide) (.slice none 0 0) 0 [] (by simp [Act.eval, Act.put]) (World.ownsRow_nil _ _ _ _) w1.heap.size Y y.t.length cb (y.t.map (Value.int .u8)) (by simp [Act.eval, Act.put]) (Reads.drew t1.out.reads) (one_cells y.t) (by simp only [maxLen]; omega) (by omega) (by show _ ≤ w1.heap.size; omega) ?_; intro v3 w3 hown hg hat; rw [Nat.zero_add, List.nil_append] at hown; obtain ⟨Y', cb', rfl⟩ := own_slice hown; have hK3 := H2.out.1.drew.grown hg (by simp [Value.ownBlock]); have q3 : w3.cell? ⟨w.heap.size + 1 + 1, 2, none⟩ = some (.slice none 0 0) := hK3.cell 2; have f3 := hK3.frozen 2; have H3 := Lib.hid (And.intro hown (And.intro hg (And.intro hat hK3))); clear hown hg hat hK3 q0 fz0)
      all_goals
        go_wp2_with fail
        go_roundw
        case measure => simp [intOf]
        have hK4 : Blk (w3.setCell ⟨w.heap.size + 1 + 1, 2, none⟩ (.slice Y' y.t.length cb')) (w.heap.size + 1 + 1) 70 #[.slice X' x.t.length ca', .int .i64 x.k, .slice Y' y.t.length cb', .int .i64 y.k] := H3.out.2.2.2.set_ 2 _
        have hO4 := Go.RowKit.ownsRow_setCell_below H3.out.1 (a := ⟨w.heap.size + 1 + 1, 2, none⟩) (by show w.heap.size + 1 + 1 < w.heap.size + 1 + 1 + 1; omega) (.slice Y' y.t.length cb')
        have hB4 := (H2.out.2.2.2.1.drew.grown H3.out.2.1 (by have := H2.out.2.2.2.1.size; simpa using this) (fun j hj => by simp [Value.ownBlock] at hj)).setCell (p := ⟨w.heap.size + 1 + 1, 2, none⟩) (by show w.heap.size ≤ w.heap.size + 1 + 1; omega) (.slice Y' y.t.length cb')
        have hA4 := (H2.out.2.1.drew.grown H3.out.2.1 (by simp [Value.ownBlock])).far (p := ⟨w.heap.size + 1 + 1, 2, none⟩) (by simp <;> omega) (.slice Y' y.t.length cb')
        have hZ4 := (H2.out.2.2.1.drew.grown H3.out.2.1 (by simp [Value.ownBlock])).far (p := ⟨w.heap.size + 1 + 1, 2, none⟩) (by simp) (.slice Y' y.t.length cb')
        have hP4 := Go.RowKit.ownsRow_setCell_below (World.ownsRow.kept (w' := w3) HO2.out.drew H3.out.2.1 (by rcases h : (Value.slice X' x.t.length ca').ownBlock with _ | b; exact .inl rfl; exact .inr (by simp [Value.ownBlock]))) (a := ⟨w.heap.size + 1 + 1, 2, none⟩) (by show w.heap.size + 1 + 1 < w.heap.size + 1 + 1 + 1; omega) (.slice Y' y.t.length cb')
        exact ⟨2, by omega, rfl, .inr (.inr ⟨rfl, X', ca', Y', cb', hP4, hO4, (fun b h1 h2 => by
          have q1 := (HO2.out.lt b h1).2
          rcases H3.out.2.2.1 with h | h
          · rw [h2] at h; simp [Value.ownBlock] at h
          · rw [h2] at h; simp at h; omega), hK4⟩), hB4, hA4, hZ4⟩
    · have HK := Lib.hid hK
      have HO := Lib.hid (And.intro hO (And.intro hO2 hne))
      have y0 : wr.cell? ⟨w.heap.size + 1 + 1, 0, none⟩ = some (.slice X' x.t.length ca') := HK.out.cell 0
      have y1 : wr.cell? ⟨w.heap.size + 1 + 1, 1, none⟩ = some (.int .i64 x.k) := HK.out.cell 1
      have y2 : wr.cell? ⟨w.heap.size + 1 + 1, 2, none⟩ = some (.slice Y' y.t.length cb') := HK.out.cell 2
      have y3 : wr.cell? ⟨w.heap.size + 1 + 1, 3, none⟩ = some (.int .i64 y.k) := HK.out.cell 3
      have hs0 : w.heap.size + 1 + 1 < wr.heap.size := cell_lt y0
      have z0 : wr.cell? ⟨w.heap.size + 1, 0, none⟩ = some (.slice none 0 0) := hZ.out.cell 0
      have z1 : wr.cell? ⟨w.heap.size + 1, 1, none⟩ = some (.int .i64 0) := hZ.out.cell 1
      have z2 : wr.cell? ⟨w.heap.size + 1, 2, none⟩ = some (.slice none 0 0) := hZ.out.cell 2
      have z3 : wr.cell? ⟨w.heap.size + 1, 3, none⟩ = some (.int .i64 0) := hZ.out.cell 3
      have zf0 := hZ.out.frozen 0
      have zf1 := hZ.out.frozen 1
      have zf2 := hZ.out.frozen 2
      have zf3 := hZ.out.frozen 3
      clear hK hR hO hO2 hne
      go_wp2_with fail
      have hK4 := W4.blk hZ.out (.slice X' x.t.length ca') (.int .i64 x.k) (.slice Y' y.t.length cb') (.int .i64 y.k)
      have hB4 := W4.below (g := w.heap.size + 1) hB.out (by omega) (.slice X' x.t.length ca') (.int .i64 x.k) (.slice Y' y.t.length cb') (.int .i64 y.k)
      have hO4 := W4.own (g := w.heap.size + 1) HO.out.1 (own_ne HO.out.1 (by omega)) (.slice X' x.t.length ca') (.int .i64 x.k) (.slice Y' y.t.length cb') (.int .i64 y.k)
      have hP4 := W4.own (g := w.heap.size + 1) HO.out.2.1 (own_ne HO.out.2.1 (by omega)) (.slice X' x.t.length ca') (.int .i64 x.k) (.slice Y' y.t.length cb') (.int .i64 y.k)
      have hN4 := HO.out.2.2
      rw [show ((((wr.setCell ⟨w.heap.size + 1, 0, none⟩ (.slice X' x.t.length ca')).setCell ⟨w.heap.size + 1, 1, none⟩ (.int .i64 x.k)).setCell ⟨w.heap.size + 1, 2, none⟩ (.slice Y' y.t.length cb')).setCell ⟨w.heap.size + 1, 3, none⟩ (.int .i64 y.k)) = W4 wr (w.heap.size + 1) (.slice X' x.t.length ca') (.int .i64 x.k) (.slice Y' y.t.length cb') (.int .i64 y.k) from rfl]
      generalize W4 wr (w.heap.size + 1) (.slice X' x.t.length ca') (.int .i64 x.k) (.slice Y' y.t.length cb') (.int .i64 y.k) = w4 at *
      clear hZ hB HX hA HK HO z0 z1 z2 z3 zf0 zf1 zf2 zf3 y0 y1 y2 y3
      have c0 := hK4.cell 0
      have c1 := hK4.cell 1
      have c2 := hK4.cell 2
      have c3 := hK4.cell 3
      simp only [List.getElem?_toArray, List.getElem?_cons_zero, List.getElem?_cons_succ] at c0 c1 c2 c3
      exact bodyPost_ret (v := .agg #[.slice X' x.t.length ca', .int .i64 x.k, .slice Y' y.t.length cb', .int .i64 y.k]) (by simp [results, Try.results27, go_sem, c0, c1, c2, c3]) rfl ⟨X', ca', Y', cb', rfl, ownsRow_less hO4 (by omega), ownsRow_less hP4 (by omega), hN4, hB4⟩
end Go.Proofs.Ytfdldbfjeamlcaa.LogRef2
