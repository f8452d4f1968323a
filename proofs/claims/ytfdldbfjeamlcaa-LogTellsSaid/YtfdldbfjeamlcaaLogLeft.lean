/- The reference: Left. -/
import Derived.BigQuiet
import Derived.Deep.QuietTactic
import Derived.Deep.RegionLaw
import Derived.Deep.DeepCutAuto
import Derived.Lib.SliceRun
import Derived.Lib.QuietBelow
import Derived.IntWalk
import Derived.Test.YtfdldbfjeamlcaaLogRef2
namespace Go.Proofs.Ytfdldbfjeamlcaa.LogLeft
open Go.RowKit Mem LogMath LogProg LogRef1 LogRef2
open Go.Sort (grow)
set_option linter.unusedVariables false
set_option linter.unusedSimpArgs false

/-- How much of an area is left. -/
def leftN (p n : Nat) (m : Int) : Nat := p + (min (max m 0) ((n : Int) - p)).toNat
theorem leftA_eq {t : List Int} {p : Nat} (m : Int) (h : p ≤ t.length) : leftA ⟨t, (p : Int)⟩ m = ⟨t.take (leftN p t.length m), (leftN p t.length m : Int)⟩ := by
  have e : (p : Int) + min (max m 0) ((t.length : Int) - (p : Int)) = (leftN p t.length m : Int) := by unfold leftN; omega
  unfold leftA
  dsimp only
  rw [e, Int.toNat_natCast]
theorem leftN_le {p n : Nat} (m : Int) (h : p ≤ n) : leftN p n m ≤ n := by unfold leftN; omega
/-- What the reference's Left has made before its round k. -/
def LfRel (t u : List Int) (N M B g k : Nat) (w : World) : Prop :=
  (k = 0 ∧ Blk w g 70 #[.slice none 0 0, .int .i64 0, .slice none 0 0, .int .i64 0]) ∨
  (k = 1 ∧ ∃ X' ca', w.ownsRow B 5 1 (.slice X' N ca') N (t.map (Value.int .u8)) ∧ Blk w g 70 #[.slice X' N ca', .int .i64 (N : Int), .slice none 0 0, .int .i64 0]) ∨
  (k = 2 ∧ ∃ X' ca' Y' cb', w.ownsRow B 5 1 (.slice X' N ca') N (t.map (Value.int .u8)) ∧ w.ownsRow B 5 1 (.slice Y' M cb') M (u.map (Value.int .u8)) ∧ Blk w g 70 #[.slice X' N ca', .int .i64 (N : Int), .slice Y' M cb', .int .i64 (M : Int)])
set_option maxRecDepth 100000 in
set_option maxHeartbeats 8000000 in
/-- The reference's Left. -/
theorem rLeft (t u : List Int) (p q : Nat) (X : Option Addr) (ca : Nat) (Y : Option Addr) (cb : Nat) (m n : Int) (ht : t.length ≤ 262144) (hu : u.length ≤ 262144) (hp : p ≤ t.length) (hq : q ≤ u.length) (hca : t.length ≤ ca) (hcb : u.length ≤ cb) (w : World) (hX : TAt w X t) (hY : TAt w Y u) :
    Calls Try.prog 63 #[.agg #[.slice X t.length ca, .int .i64 (p : Int), .slice Y u.length cb, .int .i64 (q : Int)], .agg #[.int .i64 m, .int .i64 n]] w fun e w' => ∃ v, e = .returned v ∧ RetL w' w.heap.size ⟨leftA ⟨t, (p : Int)⟩ m, leftA ⟨u, (q : Int)⟩ n⟩ v ∧ Below w.heap.size w w' := by
  obtain ⟨i0, hi0, hz0, hz1, hz2⟩ := info_parts byte_info
  have HI := Lib.hid (And.intro hi0 (And.intro hz0 (And.intro hz1 hz2)))
  have HX := Lib.hid (And.intro hX hY)
  clear hX hY hi0 hz0 hz1 hz2
  have hx1 := leftA_eq m hp
  have hy1 := leftA_eq n hq
  have hN := leftN_le m hp
  have hM := leftN_le n hq
  have hNd : leftN p t.length m = p + (min (max m 0) ((t.length : Int) - p)).toNat := rfl
  have hMd : leftN q u.length n = q + (min (max n 0) ((u.length : Int) - q)).toNat := rfl
  generalize leftA ⟨t, (p : Int)⟩ m = x' at *
  generalize leftA ⟨u, (q : Int)⟩ n = y' at *
  generalize leftN p t.length m = N at *
  generalize leftN q u.length n = M at *
  subst hx1 hy1
  have HD := Lib.hid (And.intro hNd hMd)
  clear hNd hMd
  have eN : (t.take N).length = N := by rw [List.length_take]; omega
  have eM : (u.take M).length = M := by rw [List.length_take]; omega
  have HE := Lib.hid (And.intro eN eM)
  clear eN eM
  go_enter Try.func63, Try.ntmps63
  go_wp2_with fail
  go_loopw [6, 7, 8, 9] (fun i _ _ _ wr => ∃ k : Nat, k ≤ 2 ∧ i = .int .i64 k ∧ Hid (LfRel (t.take N) (u.take M) N M (w.heap.size + 1 + 1 + 1 + 1) (w.heap.size + 1 + 1 + 1) k wr) ∧ Hid (Below w.heap.size w wr) ∧ Hid (Blk wr w.heap.size 70 #[.slice X t.length ca, .int .i64 (p : Int), .slice Y u.length cb, .int .i64 (q : Int)]) ∧ Hid (Blk wr (w.heap.size + 1) 73 #[.int .i64 m, .int .i64 n]) ∧ Hid (Blk wr (w.heap.size + 1 + 1) 70 #[.slice none 0 0, .int .i64 0, .slice none 0 0, .int .i64 0]))
    (fun i _ _ _ _ => 2 - (intOf i).toNat)
  case atStart => exact ⟨0, by omega, rfl, .inl ⟨rfl, blk3 _ _ _⟩, below_alloc (below_alloc (below_alloc (below_alloc (Below.refl _ _)))), (((Blk.new _ _ _).alloc _).alloc _).alloc _, ((blk1 _ _ _).alloc _).alloc _, (blk2 _ _ _).alloc _⟩
  case round =>
    obtain ⟨k, hk, rfl, hR, hB, hA, hKP, hZ⟩ := hrel
    rcases hR.out with ⟨rfl, hK⟩ | ⟨rfl, X', ca', hO, hK⟩ | ⟨rfl, X', ca', Y', cb', hO, hO2, hK⟩
    · have HK := Lib.hid hK
      have p0 : wr.cell? ⟨w.heap.size, 0, none⟩ = some (.slice X t.length ca) := hA.out.cell 0
      have p1 : wr.cell? ⟨w.heap.size, 1, none⟩ = some (.int .i64 (p : Int)) := hA.out.cell 1
      have hs3 : w.heap.size + 1 + 1 + 1 < wr.heap.size := HK.out.lt
      have hs4 : w.heap.size < wr.heap.size := hA.out.lt
      clear hR hK
      go_upto_region 6 with fail
      have hK1 := HK.out.alloc (.cells #[.slice X t.length ca, .int .i64 (p : Int)] 67)
      have hA1 := hA.out.alloc (.cells #[.slice X t.length ca, .int .i64 (p : Int)] 67)
      have hP1 := hKP.out.alloc (.cells #[.slice X t.length ca, .int .i64 (p : Int)] 67)
      have hZ1 := hZ.out.alloc (.cells #[.slice X t.length ca, .int .i64 (p : Int)] 67)
      have hB1 := below_alloc (o := .cells #[.slice X t.length ca, .int .i64 (p : Int)] 67) hB.out
      have hC1 := Blk.new wr 67 #[.slice X t.length ca, .int .i64 (p : Int)]
      have t1 := (TAt.up (HX.out.1.up hB.out) (below_alloc (o := .cells #[.slice X t.length ca, .int .i64 (p : Int)] 67) (Below.refl _ _))).take N
      have hw1 : (wr.alloc (.cells #[.slice X t.length ca, .int .i64 (p : Int)] 67)).heap.size = wr.heap.size + 1 := by simp
      clear hB hA hZ HK hKP p0 p1
      generalize wr.alloc (.cells #[.slice X t.length ca, .int .i64 (p : Int)] 67) = w1 at *
      have p0 : w1.cell? ⟨wr.heap.size, 0, none⟩ = some (.slice X t.length ca) := hC1.cell 0
      have p1 : w1.cell? ⟨wr.heap.size, 1, none⟩ = some (.int .i64 (p : Int)) := hC1.cell 1
      have p2 : w1.cell? ⟨w.heap.size + 1, 0, none⟩ = some (.int .i64 m) := hP1.cell 0
      have q0 : w1.cell? ⟨w.heap.size + 1 + 1 + 1, 0, none⟩ = some (.slice none 0 0) := hK1.cell 0
      have fz0 := hK1.frozen 0
      have H2 := Lib.hid (And.intro hK1 (And.intro hA1 (And.intro hZ1 (And.intro hB1 (And.intro hP1 hC1)))))
      have T1 := Lib.hid t1
      clear hK1 hA1 hZ1 hB1 hP1 hC1 t1
      go_wp2_with fail
      go_loop [8, 9] (fun a b => ∃ i j : Nat, a = .int .i64 i ∧ b = .int .i64 j ∧ Hid (i = p + j ∧ ((j : Int) ≤ m ∨ j = 0) ∧ i ≤ t.length))
        (fun a b => t.length - (intOf a).toNat)
      case atStart => exact ⟨p, 0, rfl, rfl, by omega, .inr rfl, by omega⟩
      case round =>
        obtain ⟨i, j, rfl, rfl, hij⟩ := hrel
        have hi' := hij.out.2.2
        have hj' : (j : Int) ≤ 262144 := by have := hij.out; omega
        by_cases h1 : (j : Int) < m
        · by_cases h2 : (i : Int) < (t.length : Int)
          · clear p1 q0 fz0
            go_wp2_with fail
            go_round
            case rel => exact ⟨i + 1, j + 1, by go_num, by go_num, by have := hij.out; omega, by omega, by omega⟩
            case measure => simp [intOf]; omega
          · have e : N = i := by have := hij.out; have := HD.out; omega
            clear hij
            subst e
            have hc9 : N ≤ ca := by omega
            have tr := T1.out.reads
            rw [HE.out.1] at tr
            have TR := Lib.hid tr
            clear tr hi' hj'
            go_wp2_with fail
            go_region_law (refine step_append_any _ rfl (.tmp 41) (.tmp 45) _ rfl (w.heap.size + 1 + 1 + 1 + 1) 5 i0 (.int .u8 0) 1 1 Try.underlying37 HI.out.1 HI.out.2.1 HI.out.2.2.1 HI.out.2.2.2 rfl (by decide) (.slice none 0 0) 0 [] (by simp [Act.eval, Act.put]) (World.ownsRow_nil _ _ _ _) w1.heap.size X N ca ((t.take N).map (Value.int .u8)) (by simp [Act.eval, Act.put]) (Reads.drew TR.out) (one_cells _) (by simp only [maxLen]; omega) (by omega) (by show _ ≤ w1.heap.size; omega) ?_; intro v3 w3 hown hg hat; rw [Nat.zero_add, List.nil_append] at hown; obtain ⟨X', ca', rfl⟩ := own_slice hown; have hK3 := H2.out.1.drew.grown hg (by simp [Value.ownBlock]); have q3 : w3.cell? ⟨w.heap.size + 1 + 1 + 1, 0, none⟩ = some (.slice none 0 0) := hK3.cell 0; have q4 : w3.cell? ⟨w.heap.size + 1 + 1 + 1, 1, none⟩ = some (.int .i64 0) := hK3.cell 1; have f3 := hK3.frozen 0; have f4 := hK3.frozen 1; have H3 := Lib.hid (And.intro hown (And.intro hg hK3)); clear hown hg hat hK3 q0 fz0)
            all_goals
              go_wp2_with fail
              go_roundw
              case measure => simp [intOf]
              have hK4 : Blk ((w3.setCell ⟨w.heap.size + 1 + 1 + 1, 0, none⟩ (.slice X' N ca')).setCell ⟨w.heap.size + 1 + 1 + 1, 1, none⟩ (.int .i64 (N : Int))) (w.heap.size + 1 + 1 + 1) 70 #[.slice X' N ca', .int .i64 (N : Int), .slice none 0 0, .int .i64 0] := (H3.out.2.2.set_ 0 _).set_ 1 _
              have hO4 := (Go.RowKit.ownsRow_setCell_below (Go.RowKit.ownsRow_setCell_below H3.out.1 (a := ⟨w.heap.size + 1 + 1 + 1, 0, none⟩) (by show w.heap.size + 1 + 1 + 1 < w.heap.size + 1 + 1 + 1 + 1; omega) (.slice X' N ca')) (a := ⟨w.heap.size + 1 + 1 + 1, 1, none⟩) (by show w.heap.size + 1 + 1 + 1 < w.heap.size + 1 + 1 + 1 + 1; omega) (.int .i64 (N : Int)))
              have hB4 := (((H2.out.2.2.2.1.drew.grown H3.out.2.1 (by have := H2.out.2.2.2.1.size; simpa using this) (fun j hj => by simp [Value.ownBlock] at hj)).setCell (p := ⟨w.heap.size + 1 + 1 + 1, 0, none⟩) (by show w.heap.size ≤ w.heap.size + 1 + 1 + 1; omega) (.slice X' N ca')).setCell (p := ⟨w.heap.size + 1 + 1 + 1, 1, none⟩) (by show w.heap.size ≤ w.heap.size + 1 + 1 + 1; omega) (.int .i64 (N : Int)))
              have hA4 := (((H2.out.2.1.drew.grown H3.out.2.1 (by simp [Value.ownBlock])).far (p := ⟨w.heap.size + 1 + 1 + 1, 0, none⟩) (by simp <;> omega) (.slice X' N ca')).far (p := ⟨w.heap.size + 1 + 1 + 1, 1, none⟩) (by simp <;> omega) (.int .i64 (N : Int)))
              have hP4 := (((H2.out.2.2.2.2.1.drew.grown H3.out.2.1 (by simp [Value.ownBlock])).far (p := ⟨w.heap.size + 1 + 1 + 1, 0, none⟩) (by simp <;> omega) (.slice X' N ca')).far (p := ⟨w.heap.size + 1 + 1 + 1, 1, none⟩) (by simp <;> omega) (.int .i64 (N : Int)))
              have hZ4 := (((H2.out.2.2.1.drew.grown H3.out.2.1 (by simp [Value.ownBlock])).far (p := ⟨w.heap.size + 1 + 1 + 1, 0, none⟩) (by simp <;> omega) (.slice X' N ca')).far (p := ⟨w.heap.size + 1 + 1 + 1, 1, none⟩) (by simp <;> omega) (.int .i64 (N : Int)))
              exact ⟨1, by omega, rfl, .inr (.inl ⟨rfl, X', ca', hO4, hK4⟩), hB4, hA4, hP4, hZ4⟩
        · have e : N = i := by have := hij.out; have := HD.out; omega
          clear hij
          subst e
          have hc9 : N ≤ ca := by omega
          have tr := T1.out.reads
          rw [HE.out.1] at tr
          have TR := Lib.hid tr
          clear tr hi' hj'
          go_wp2_with fail
          go_region_law (refine step_append_any _ rfl (.tmp 41) (.tmp 45) _ rfl (w.heap.size + 1 + 1 + 1 + 1) 5 i0 (.int .u8 0) 1 1 Try.underlying37 HI.out.1 HI.out.2.1 HI.out.2.2.1 HI.out.2.2.2 rfl (by decide) (.slice none 0 0) 0 [] (by simp [Act.eval, Act.put]) (World.ownsRow_nil _ _ _ _) w1.heap.size X N ca ((t.take N).map (Value.int .u8)) (by simp [Act.eval, Act.put]) (Reads.drew TR.out) (one_cells _) (by simp only [maxLen]; omega) (by omega) (by show _ ≤ w1.heap.size; omega) ?_; intro v3 w3 hown hg hat; rw [Nat.zero_add, List.nil_append] at hown; obtain ⟨X', ca', rfl⟩ := own_slice hown; have hK3 := H2.out.1.drew.grown hg (by simp [Value.ownBlock]); have q3 : w3.cell? ⟨w.heap.size + 1 + 1 + 1, 0, none⟩ = some (.slice none 0 0) := hK3.cell 0; have q4 : w3.cell? ⟨w.heap.size + 1 + 1 + 1, 1, none⟩ = some (.int .i64 0) := hK3.cell 1; have f3 := hK3.frozen 0; have f4 := hK3.frozen 1; have H3 := Lib.hid (And.intro hown (And.intro hg hK3)); clear hown hg hat hK3 q0 fz0)
          all_goals
            go_wp2_with fail
            go_roundw
            case measure => simp [intOf]
            have hK4 : Blk ((w3.setCell ⟨w.heap.size + 1 + 1 + 1, 0, none⟩ (.slice X' N ca')).setCell ⟨w.heap.size + 1 + 1 + 1, 1, none⟩ (.int .i64 (N : Int))) (w.heap.size + 1 + 1 + 1) 70 #[.slice X' N ca', .int .i64 (N : Int), .slice none 0 0, .int .i64 0] := (H3.out.2.2.set_ 0 _).set_ 1 _
            have hO4 := (Go.RowKit.ownsRow_setCell_below (Go.RowKit.ownsRow_setCell_below H3.out.1 (a := ⟨w.heap.size + 1 + 1 + 1, 0, none⟩) (by show w.heap.size + 1 + 1 + 1 < w.heap.size + 1 + 1 + 1 + 1; omega) (.slice X' N ca')) (a := ⟨w.heap.size + 1 + 1 + 1, 1, none⟩) (by show w.heap.size + 1 + 1 + 1 < w.heap.size + 1 + 1 + 1 + 1; omega) (.int .i64 (N : Int)))
            have hB4 := (((H2.out.2.2.2.1.drew.grown H3.out.2.1 (by have := H2.out.2.2.2.1.size; simpa using this) (fun j hj => by simp [Value.ownBlock] at hj)).setCell (p := ⟨w.heap.size + 1 + 1 + 1, 0, none⟩) (by show w.heap.size ≤ w.heap.size + 1 + 1 + 1; omega) (.slice X' N ca')).setCell (p := ⟨w.heap.size + 1 + 1 + 1, 1, none⟩) (by show w.heap.size ≤ w.heap.size + 1 + 1 + 1; omega) (.int .i64 (N : Int)))
            have hA4 := (((H2.out.2.1.drew.grown H3.out.2.1 (by simp [Value.ownBlock])).far (p := ⟨w.heap.size + 1 + 1 + 1, 0, none⟩) (by simp <;> omega) (.slice X' N ca')).far (p := ⟨w.heap.size + 1 + 1 + 1, 1, none⟩) (by simp <;> omega) (.int .i64 (N : Int)))
            have hP4 := (((H2.out.2.2.2.2.1.drew.grown H3.out.2.1 (by simp [Value.ownBlock])).far (p := ⟨w.heap.size + 1 + 1 + 1, 0, none⟩) (by simp <;> omega) (.slice X' N ca')).far (p := ⟨w.heap.size + 1 + 1 + 1, 1, none⟩) (by simp <;> omega) (.int .i64 (N : Int)))
            have hZ4 := (((H2.out.2.2.1.drew.grown H3.out.2.1 (by simp [Value.ownBlock])).far (p := ⟨w.heap.size + 1 + 1 + 1, 0, none⟩) (by simp <;> omega) (.slice X' N ca')).far (p := ⟨w.heap.size + 1 + 1 + 1, 1, none⟩) (by simp <;> omega) (.int .i64 (N : Int)))
            exact ⟨1, by omega, rfl, .inr (.inl ⟨rfl, X', ca', hO4, hK4⟩), hB4, hA4, hP4, hZ4⟩
    · have HO := Lib.hid hO
      clear hO
      have HK := Lib.hid hK
      have p0 : wr.cell? ⟨w.heap.size, 2, none⟩ = some (.slice Y u.length cb) := hA.out.cell 2
      have p1 : wr.cell? ⟨w.heap.size, 3, none⟩ = some (.int .i64 (q : Int)) := hA.out.cell 3
      have hs3 : w.heap.size + 1 + 1 + 1 < wr.heap.size := HK.out.lt
      have hs4 : w.heap.size < wr.heap.size := hA.out.lt
      clear hR hK
      go_upto_region 6 with fail
      have hK1 := HK.out.alloc (.cells #[.slice Y u.length cb, .int .i64 (q : Int)] 67)
      have hA1 := hA.out.alloc (.cells #[.slice Y u.length cb, .int .i64 (q : Int)] 67)
      have hP1 := hKP.out.alloc (.cells #[.slice Y u.length cb, .int .i64 (q : Int)] 67)
      have hZ1 := hZ.out.alloc (.cells #[.slice Y u.length cb, .int .i64 (q : Int)] 67)
      have hB1 := below_alloc (o := .cells #[.slice Y u.length cb, .int .i64 (q : Int)] 67) hB.out
      have hC1 := Blk.new wr 67 #[.slice Y u.length cb, .int .i64 (q : Int)]
      have t1 := (TAt.up (HX.out.2.up hB.out) (below_alloc (o := .cells #[.slice Y u.length cb, .int .i64 (q : Int)] 67) (Below.refl _ _))).take M
      have hw1 : (wr.alloc (.cells #[.slice Y u.length cb, .int .i64 (q : Int)] 67)).heap.size = wr.heap.size + 1 := by simp
      have hO1 := HO.out.alloc (.cells #[.slice Y u.length cb, .int .i64 (q : Int)] 67)
      clear hB hA hZ HK hKP p0 p1
      generalize wr.alloc (.cells #[.slice Y u.length cb, .int .i64 (q : Int)] 67) = w1 at *
      have p0 : w1.cell? ⟨wr.heap.size, 0, none⟩ = some (.slice Y u.length cb) := hC1.cell 0
      have p1 : w1.cell? ⟨wr.heap.size, 1, none⟩ = some (.int .i64 (q : Int)) := hC1.cell 1
      have p2 : w1.cell? ⟨w.heap.size + 1, 1, none⟩ = some (.int .i64 n) := hP1.cell 1
      have q0 : w1.cell? ⟨w.heap.size + 1 + 1 + 1, 2, none⟩ = some (.slice none 0 0) := hK1.cell 2
      have fz0 := hK1.frozen 2
      have H2 := Lib.hid (And.intro hK1 (And.intro hA1 (And.intro hZ1 (And.intro hB1 (And.intro hP1 hC1)))))
      have T1 := Lib.hid t1
      clear hK1 hA1 hZ1 hB1 hP1 hC1 t1
      go_wp2_with fail
      go_loop [8, 9] (fun a b => ∃ i j : Nat, a = .int .i64 i ∧ b = .int .i64 j ∧ Hid (i = q + j ∧ ((j : Int) ≤ n ∨ j = 0) ∧ i ≤ u.length))
        (fun a b => u.length - (intOf a).toNat)
      case atStart => exact ⟨q, 0, rfl, rfl, by omega, .inr rfl, by omega⟩
      case round =>
        obtain ⟨i, j, rfl, rfl, hij⟩ := hrel
        have hi' := hij.out.2.2
        have hj' : (j : Int) ≤ 262144 := by have := hij.out; omega
        by_cases h1 : (j : Int) < n
        · by_cases h2 : (i : Int) < (u.length : Int)
          · clear p1 q0 fz0
            go_wp2_with fail
            go_round
            case rel => exact ⟨i + 1, j + 1, by go_num, by go_num, by have := hij.out; omega, by omega, by omega⟩
            case measure => simp [intOf]; omega
          · have e : M = i := by have := hij.out; have := HD.out; omega
            clear hij
            subst e
            have hc9 : M ≤ cb := by omega
            have tr := T1.out.reads
            rw [HE.out.2] at tr
            have TR := Lib.hid tr
            have HO1 := Lib.hid hO1
            clear hO1
            clear tr hi' hj'
            go_wp2_with fail
            go_region_law (refine step_append_any _ rfl (.tmp 41) (.tmp 45) _ rfl (w.heap.size + 1 + 1 + 1 + 1) 5 i0 (.int .u8 0) 1 1 Try.underlying37 HI.out.1 HI.out.2.1 HI.out.2.2.1 HI.out.2.2.2 rfl (by decide) (.slice none 0 0) 0 [] (by simp [Act.eval, Act.put]) (World.ownsRow_nil _ _ _ _) w1.heap.size Y M cb ((u.take M).map (Value.int .u8)) (by simp [Act.eval, Act.put]) (Reads.drew TR.out) (one_cells _) (by simp only [maxLen]; omega) (by omega) (by show _ ≤ w1.heap.size; omega) ?_; intro v3 w3 hown hg hat; rw [Nat.zero_add, List.nil_append] at hown; obtain ⟨Y', cb', rfl⟩ := own_slice hown; have hK3 := H2.out.1.drew.grown hg (by simp [Value.ownBlock]); have q3 : w3.cell? ⟨w.heap.size + 1 + 1 + 1, 2, none⟩ = some (.slice none 0 0) := hK3.cell 2; have q4 : w3.cell? ⟨w.heap.size + 1 + 1 + 1, 3, none⟩ = some (.int .i64 0) := hK3.cell 3; have f3 := hK3.frozen 2; have f4 := hK3.frozen 3; have H3 := Lib.hid (And.intro hown (And.intro hg hK3)); clear hown hg hat hK3 q0 fz0)
            all_goals
              go_wp2_with fail
              go_roundw
              case measure => simp [intOf]
              have hK4 : Blk ((w3.setCell ⟨w.heap.size + 1 + 1 + 1, 2, none⟩ (.slice Y' M cb')).setCell ⟨w.heap.size + 1 + 1 + 1, 3, none⟩ (.int .i64 (M : Int))) (w.heap.size + 1 + 1 + 1) 70 #[.slice X' N ca', .int .i64 (N : Int), .slice Y' M cb', .int .i64 (M : Int)] := (H3.out.2.2.set_ 2 _).set_ 3 _
              have hO4 := (Go.RowKit.ownsRow_setCell_below (Go.RowKit.ownsRow_setCell_below H3.out.1 (a := ⟨w.heap.size + 1 + 1 + 1, 2, none⟩) (by show w.heap.size + 1 + 1 + 1 < w.heap.size + 1 + 1 + 1 + 1; omega) (.slice Y' M cb')) (a := ⟨w.heap.size + 1 + 1 + 1, 3, none⟩) (by show w.heap.size + 1 + 1 + 1 < w.heap.size + 1 + 1 + 1 + 1; omega) (.int .i64 (M : Int)))
              have hB4 := (((H2.out.2.2.2.1.drew.grown H3.out.2.1 (by have := H2.out.2.2.2.1.size; simpa using this) (fun j hj => by simp [Value.ownBlock] at hj)).setCell (p := ⟨w.heap.size + 1 + 1 + 1, 2, none⟩) (by show w.heap.size ≤ w.heap.size + 1 + 1 + 1; omega) (.slice Y' M cb')).setCell (p := ⟨w.heap.size + 1 + 1 + 1, 3, none⟩) (by show w.heap.size ≤ w.heap.size + 1 + 1 + 1; omega) (.int .i64 (M : Int)))
              have hA4 := (((H2.out.2.1.drew.grown H3.out.2.1 (by simp [Value.ownBlock])).far (p := ⟨w.heap.size + 1 + 1 + 1, 2, none⟩) (by simp <;> omega) (.slice Y' M cb')).far (p := ⟨w.heap.size + 1 + 1 + 1, 3, none⟩) (by simp <;> omega) (.int .i64 (M : Int)))
              have hP4 := (((H2.out.2.2.2.2.1.drew.grown H3.out.2.1 (by simp [Value.ownBlock])).far (p := ⟨w.heap.size + 1 + 1 + 1, 2, none⟩) (by simp <;> omega) (.slice Y' M cb')).far (p := ⟨w.heap.size + 1 + 1 + 1, 3, none⟩) (by simp <;> omega) (.int .i64 (M : Int)))
              have hZ4 := (((H2.out.2.2.1.drew.grown H3.out.2.1 (by simp [Value.ownBlock])).far (p := ⟨w.heap.size + 1 + 1 + 1, 2, none⟩) (by simp <;> omega) (.slice Y' M cb')).far (p := ⟨w.heap.size + 1 + 1 + 1, 3, none⟩) (by simp <;> omega) (.int .i64 (M : Int)))
              have hQ4 := (Go.RowKit.ownsRow_setCell_below (Go.RowKit.ownsRow_setCell_below (World.ownsRow.kept (w' := w3) HO1.out.drew H3.out.2.1 (by rcases h : (Value.slice X' N ca').ownBlock with _ | b; exact .inl rfl; exact .inr (by simp [Value.ownBlock]))) (a := ⟨w.heap.size + 1 + 1 + 1, 2, none⟩) (by show w.heap.size + 1 + 1 + 1 < w.heap.size + 1 + 1 + 1 + 1; omega) (.slice Y' M cb')) (a := ⟨w.heap.size + 1 + 1 + 1, 3, none⟩) (by show w.heap.size + 1 + 1 + 1 < w.heap.size + 1 + 1 + 1 + 1; omega) (.int .i64 (M : Int)))
              exact ⟨2, by omega, rfl, .inr (.inr ⟨rfl, X', ca', Y', cb', hQ4, hO4, hK4⟩), hB4, hA4, hP4, hZ4⟩
        · have e : M = i := by have := hij.out; have := HD.out; omega
          clear hij
          subst e
          have hc9 : M ≤ cb := by omega
          have tr := T1.out.reads
          rw [HE.out.2] at tr
          have TR := Lib.hid tr
          have HO1 := Lib.hid hO1
          clear hO1
          clear tr hi' hj'
          go_wp2_with fail
          go_region_law (refine step_append_any _ rfl (.tmp 41) (.tmp 45) _ rfl (w.heap.size + 1 + 1 + 1 + 1) 5 i0 (.int .u8 0) 1 1 Try.underlying37 HI.out.1 HI.out.2.1 HI.out.2.2.1 HI.out.2.2.2 rfl (by decide) (.slice none 0 0) 0 [] (by simp [Act.eval, Act.put]) (World.ownsRow_nil _ _ _ _) w1.heap.size Y M cb ((u.take M).map (Value.int .u8)) (by simp [Act.eval, Act.put]) (Reads.drew TR.out) (one_cells _) (by simp only [maxLen]; omega) (by omega) (by show _ ≤ w1.heap.size; omega) ?_; intro v3 w3 hown hg hat; rw [Nat.zero_add, List.nil_append] at hown; obtain ⟨Y', cb', rfl⟩ := own_slice hown; have hK3 := H2.out.1.drew.grown hg (by simp [Value.ownBlock]); have q3 : w3.cell? ⟨w.heap.size + 1 + 1 + 1, 2, none⟩ = some (.slice none 0 0) := hK3.cell 2; have q4 : w3.cell? ⟨w.heap.size + 1 + 1 + 1, 3, none⟩ = some (.int .i64 0) := hK3.cell 3; have f3 := hK3.frozen 2; have f4 := hK3.frozen 3; have H3 := Lib.hid (And.intro hown (And.intro hg hK3)); clear hown hg hat hK3 q0 fz0)
          all_goals
            go_wp2_with fail
            go_roundw
            case measure => simp [intOf]
            have hK4 : Blk ((w3.setCell ⟨w.heap.size + 1 + 1 + 1, 2, none⟩ (.slice Y' M cb')).setCell ⟨w.heap.size + 1 + 1 + 1, 3, none⟩ (.int .i64 (M : Int))) (w.heap.size + 1 + 1 + 1) 70 #[.slice X' N ca', .int .i64 (N : Int), .slice Y' M cb', .int .i64 (M : Int)] := (H3.out.2.2.set_ 2 _).set_ 3 _
            have hO4 := (Go.RowKit.ownsRow_setCell_below (Go.RowKit.ownsRow_setCell_below H3.out.1 (a := ⟨w.heap.size + 1 + 1 + 1, 2, none⟩) (by show w.heap.size + 1 + 1 + 1 < w.heap.size + 1 + 1 + 1 + 1; omega) (.slice Y' M cb')) (a := ⟨w.heap.size + 1 + 1 + 1, 3, none⟩) (by show w.heap.size + 1 + 1 + 1 < w.heap.size + 1 + 1 + 1 + 1; omega) (.int .i64 (M : Int)))
            have hB4 := (((H2.out.2.2.2.1.drew.grown H3.out.2.1 (by have := H2.out.2.2.2.1.size; simpa using this) (fun j hj => by simp [Value.ownBlock] at hj)).setCell (p := ⟨w.heap.size + 1 + 1 + 1, 2, none⟩) (by show w.heap.size ≤ w.heap.size + 1 + 1 + 1; omega) (.slice Y' M cb')).setCell (p := ⟨w.heap.size + 1 + 1 + 1, 3, none⟩) (by show w.heap.size ≤ w.heap.size + 1 + 1 + 1; omega) (.int .i64 (M : Int)))
            have hA4 := (((H2.out.2.1.drew.grown H3.out.2.1 (by simp [Value.ownBlock])).far (p := ⟨w.heap.size + 1 + 1 + 1, 2, none⟩) (by simp <;> omega) (.slice Y' M cb')).far (p := ⟨w.heap.size + 1 + 1 + 1, 3, none⟩) (by simp <;> omega) (.int .i64 (M : Int)))
            have hP4 := (((H2.out.2.2.2.2.1.drew.grown H3.out.2.1 (by simp [Value.ownBlock])).far (p := ⟨w.heap.size + 1 + 1 + 1, 2, none⟩) (by simp <;> omega) (.slice Y' M cb')).far (p := ⟨w.heap.size + 1 + 1 + 1, 3, none⟩) (by simp <;> omega) (.int .i64 (M : Int)))
            have hZ4 := (((H2.out.2.2.1.drew.grown H3.out.2.1 (by simp [Value.ownBlock])).far (p := ⟨w.heap.size + 1 + 1 + 1, 2, none⟩) (by simp <;> omega) (.slice Y' M cb')).far (p := ⟨w.heap.size + 1 + 1 + 1, 3, none⟩) (by simp <;> omega) (.int .i64 (M : Int)))
            have hQ4 := (Go.RowKit.ownsRow_setCell_below (Go.RowKit.ownsRow_setCell_below (World.ownsRow.kept (w' := w3) HO1.out.drew H3.out.2.1 (by rcases h : (Value.slice X' N ca').ownBlock with _ | b; exact .inl rfl; exact .inr (by simp [Value.ownBlock]))) (a := ⟨w.heap.size + 1 + 1 + 1, 2, none⟩) (by show w.heap.size + 1 + 1 + 1 < w.heap.size + 1 + 1 + 1 + 1; omega) (.slice Y' M cb')) (a := ⟨w.heap.size + 1 + 1 + 1, 3, none⟩) (by show w.heap.size + 1 + 1 + 1 < w.heap.size + 1 + 1 + 1 + 1; omega) (.int .i64 (M : Int)))
            exact ⟨2, by omega, rfl, .inr (.inr ⟨rfl, X', ca', Y', cb', hQ4, hO4, hK4⟩), hB4, hA4, hP4, hZ4⟩
    · have HK := Lib.hid hK
      have HO := Lib.hid (And.intro hO hO2)
      have y0 : wr.cell? ⟨w.heap.size + 1 + 1 + 1, 0, none⟩ = some (.slice X' N ca') := HK.out.cell 0
      have y1 : wr.cell? ⟨w.heap.size + 1 + 1 + 1, 1, none⟩ = some (.int .i64 (N : Int)) := HK.out.cell 1
      have y2 : wr.cell? ⟨w.heap.size + 1 + 1 + 1, 2, none⟩ = some (.slice Y' M cb') := HK.out.cell 2
      have y3 : wr.cell? ⟨w.heap.size + 1 + 1 + 1, 3, none⟩ = some (.int .i64 (M : Int)) := HK.out.cell 3
      have z0 : wr.cell? ⟨w.heap.size + 1 + 1, 0, none⟩ = some (.slice none 0 0) := hZ.out.cell 0
      have z1 : wr.cell? ⟨w.heap.size + 1 + 1, 1, none⟩ = some (.int .i64 0) := hZ.out.cell 1
      have z2 : wr.cell? ⟨w.heap.size + 1 + 1, 2, none⟩ = some (.slice none 0 0) := hZ.out.cell 2
      have z3 : wr.cell? ⟨w.heap.size + 1 + 1, 3, none⟩ = some (.int .i64 0) := hZ.out.cell 3
      have zf0 := hZ.out.frozen 0
      have zf1 := hZ.out.frozen 1
      have zf2 := hZ.out.frozen 2
      have zf3 := hZ.out.frozen 3
      have hs0 : w.heap.size + 1 + 1 + 1 < wr.heap.size := cell_lt y0
      clear hK hR hO hO2
      go_wp2_with fail
      have hK4 := W4.blk hZ.out (.slice X' N ca') (.int .i64 (N : Int)) (.slice Y' M cb') (.int .i64 (M : Int))
      have hB4 := W4.below (g := w.heap.size + 1 + 1) hB.out (by omega) (.slice X' N ca') (.int .i64 (N : Int)) (.slice Y' M cb') (.int .i64 (M : Int))
      have hO4 := W4.own (g := w.heap.size + 1 + 1) HO.out.1 (own_ne HO.out.1 (by omega)) (.slice X' N ca') (.int .i64 (N : Int)) (.slice Y' M cb') (.int .i64 (M : Int))
      have hP4 := W4.own (g := w.heap.size + 1 + 1) HO.out.2 (own_ne HO.out.2 (by omega)) (.slice X' N ca') (.int .i64 (N : Int)) (.slice Y' M cb') (.int .i64 (M : Int))
      rw [show ((((wr.setCell ⟨w.heap.size + 1 + 1, 0, none⟩ (.slice X' N ca')).setCell ⟨w.heap.size + 1 + 1, 1, none⟩ (.int .i64 (N : Int))).setCell ⟨w.heap.size + 1 + 1, 2, none⟩ (.slice Y' M cb')).setCell ⟨w.heap.size + 1 + 1, 3, none⟩ (.int .i64 (M : Int))) = W4 wr (w.heap.size + 1 + 1) (.slice X' N ca') (.int .i64 (N : Int)) (.slice Y' M cb') (.int .i64 (M : Int)) from rfl]
      generalize W4 wr (w.heap.size + 1 + 1) (.slice X' N ca') (.int .i64 (N : Int)) (.slice Y' M cb') (.int .i64 (M : Int)) = w4 at *
      clear hZ hB HX hA hKP HK HO z0 z1 z2 z3 zf0 zf1 zf2 zf3 y0 y1 y2 y3
      have c0 := hK4.cell 0
      have c1 := hK4.cell 1
      have c2 := hK4.cell 2
      have c3 := hK4.cell 3
      simp only [List.getElem?_toArray, List.getElem?_cons_zero, List.getElem?_cons_succ] at c0 c1 c2 c3
      refine bodyPost_ret (v := .agg #[.slice X' N ca', .int .i64 (N : Int), .slice Y' M cb', .int .i64 (M : Int)]) (by simp [results, Try.results63, go_sem, c0, c1, c2, c3]) rfl ⟨_, rfl, ?_, hB4⟩
      have eN := HE.out.1
      have eM := HE.out.2
      rw [show #[Value.slice X' N ca', Value.int .i64 (N : Int), Value.slice Y' M cb', Value.int .i64 (M : Int)] = #[Value.slice X' (t.take N).length ca', Value.int .i64 (N : Int), Value.slice Y' (u.take M).length cb', Value.int .i64 (M : Int)] from by rw [eN, eM]]
      exact RetL.of_own (m := ⟨⟨t.take N, (N : Int)⟩, ⟨u.take M, (M : Int)⟩⟩) (by show World.ownsRow _ _ _ _ (.slice X' (t.take N).length ca') (t.take N).length _; rw [eN]; exact ownsRow_less hO4 (by omega)) (by show World.ownsRow _ _ _ _ (.slice Y' (u.take M).length cb') (u.take M).length _; rw [eM]; exact ownsRow_less hP4 (by omega))
end Go.Proofs.Ytfdldbfjeamlcaa.LogLeft
