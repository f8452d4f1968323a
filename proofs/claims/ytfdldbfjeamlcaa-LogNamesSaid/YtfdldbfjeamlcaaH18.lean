/- Several texts joined: The reference: Left. -/
import Derived.BigQuiet
import Derived.Deep.QuietTactic
import Derived.Deep.RegionLaw
import Derived.Deep.DeepCutAuto
import Derived.Lib.SliceRun
import Derived.Lib.QuietBelow
import Derived.IntWalk
import Derived.Test.YtfdldbfjeamlcaaH16
/-! The reference: Left. -/
namespace Go.Proofs.Ytfdldbfjeamlcaa.LogLeft
open Go.RowKit Mem LogMath LogProg LogRef1 LogRef2
open Go.Sort (grow)
set_option linter.unusedVariables false
set_option linter.unusedSimpArgs false

/-- How much of an area is left. -/
def leftN (p n : Nat) (m : Int) : Nat := p + (min (max m 0) ((n : Int) - p)).toNat
theorem leftA_eq {t : List Int} {p : Nat} (m : Int) (h : p ≤ t.length) : leftA ⟨t, (p : Int)⟩ m = ⟨t.take (leftN p t.length m), (leftN p t.length m : Int)⟩ := by
  have e : (p : Int) + min (max m 0) ((t.length : Int) - (p : Int)) = (leftN p t.length m : Int) := by unfold leftN; omega
  unfold leftA
  dsimp only
  rw [e, Int.toNat_natCast]
theorem leftN_le {p n : Nat} (m : Int) (h : p ≤ n) : leftN p n m ≤ n := by unfold leftN; omega
/-- What the reference's Left has made before its round k. -/
def LfRel (t u : List Int) (N M B g k : Nat) (w : World) : Prop :=
  (k = 0 ∧ Blk w g 70 #[.slice none 0 0, .int .i64 0, .slice none 0 0, .int .i64 0]) ∨
  (k = 1 ∧ ∃ X' ca', w.ownsRow B 5 1 (.slice X' N ca') N (t.map (Value.int .u8)) ∧ Blk w g 70 #[.slice X' N ca', .int .i64 (N : Int), .slice none 0 0, .int .i64 0]) ∨
  (k = 2 ∧ ∃ X' ca' Y' cb', w.ownsRow B 5 1 (.slice X' N ca') N (t.map (Value.int .u8)) ∧ w.ownsRow B 5 1 (.slice Y' M cb') M (u.map (Value.int .u8)) ∧ Blk w g 70 #[.slice X' N ca', .int .i64 (N : Int), .slice Y' M cb', .int .i64 (M : Int)])
set_option maxRecDepth 100000 in
set_option maxHeartbeats 8000000 in
/-- The reference's Left. -/
theorem rLeft (t u : List Int) (p q : Nat) (X : Option Addr) (ca : Nat) (Y : Option Addr) (cb : Nat) (m n : Int) (ht : t.length ≤ 262144) (hu : u.length ≤ 262144) (hp : p ≤ t.length) (hq : q ≤ u.length) (hca : t.length ≤ ca) (hcb : u.length ≤ cb) (w : World) (hX : TAt w X t) (hY : TAt w Y u) :
    Calls Try.prog 63 #[.agg #[.slice X t.length ca, .int .i64 (p : Int), .slice Y u.length cb, .int .i64 (q : Int)], .agg #[.int .i64 m, .int .i64 n]] w fun e w' => ∃ v, e = .returned v ∧ RetL w' w.heap.size ⟨leftA ⟨t, (p : Int)⟩ m, leftA ⟨u, (q : Int)⟩ n⟩ v ∧ Below w.heap.size w w' := by
  obtain ⟨i0, hi0, hz0, hz1, hz2⟩ := info_parts byte_info
  have HI := Lib.hid (And.intro hi0 (And.intro hz0 (And.intro hz1 hz2)))
  have HX := Lib.hid (And.intro hX hY)
  clear hX hY hi0 hz0 hz1 hz2
  have hx1 := leftA_eq m hp
  have hy1 := leftA_eq n hq
  have hN := leftN_le m hp
  have hM := leftN_le n hq
  have hNd : leftN p t.length m = p + (min (max m 0) ((t.length : Int) - p)).toNat := rfl
  have hMd : leftN q u.length n = q + (min (max n 0) ((u.length : Int) - q)).toNat := rfl
  generalize leftA ⟨t, (p : Int)⟩ m = x' at *
  generalize leftA ⟨u, (q : Int)⟩ n = y' at *
  generalize leftN p t.length m = N at *
  generalize leftN q u.length n = M at *
  subst hx1 hy1
  have HD := Lib.hid (And.intro hNd hMd)
  clear hNd hMd
  have eN : (t.take N).length = N := by rw [List.length_take]; omega
  have eM : (u.take M).length = M := by rw [List.length_take]; omega
  have HE := Lib.hid (And.intro eN eM)
  clear eN eM
  go_enter Try.func63, Try.ntmps63
  go_wp2_with fail
  go_loopw [6, 7, 8, 9] (fun i _ _ _ wr => ∃ k : Nat, k ≤ 2 ∧ i = .int .i64 k ∧ Hid (LfRel (t.take N) (u.take M) N M (w.heap.size + 1 + 1 + 1 + 1) (w.heap.size + 1 + 1 + 1) k wr) ∧ Hid (Below w.heap.size w wr) ∧ Hid (Blk wr w.heap.size 70 #[.slice X t.length ca, .int .i64 (p : Int), .slice Y u.length cb, .int .i64 (q : Int)]) ∧ Hid (Blk wr (w.heap.size + 1) 73 #[.int .i64 m, .int .i64 n]) ∧ Hid (Blk wr (w.heap.size + 1 + 1) 70 #[.slice none 0 0, .int .i64 0, .slice none 0 0, .int .i64 0]))
    (fun i _ _ _ _ => 2 - (intOf i).toNat)
  case atStart => exact ⟨0, by omega, rfl, .inl ⟨rfl, blk3 _ _ _⟩, below_alloc (below_alloc (below_alloc (below_alloc (Below.refl _ _)))), (((Blk.new _ _ _).alloc _).alloc _).alloc _, ((blk1 _ _ _).alloc _).alloc _, (blk2 _ _ _).alloc _⟩
  case round =>
    obtain ⟨k, hk, rfl, hR, hB, hA, hKP, hZ⟩ := hrel
    rcases hR.out with ⟨rfl, hK⟩ | ⟨rfl, X', ca', hO, hK⟩ | ⟨rfl, X', ca', Y', cb', hO, hO2, hK⟩
    · have HK := Lib.hid hK
      have p0 : wr.cell? ⟨w.heap.size, 0, none⟩ = some (.slice X t.length ca) := hA.out.cell 0
      have p1 : wr.cell? ⟨w.heap.size, 1, none⟩ = some (.int .i64 (p : Int)) := hA.out.cell 1
      have hs3 : w.heap.size + 1 + 1 + 1 < wr.heap.size := HK.out.lt
      have hs4 : w.heap.size < wr.heap.size := hA.out.lt
      clear hR hK
      go_upto_region 6 with fail
      have hK1 := HK.out.alloc (.cells #[.slice X t.length ca, .int .i64 (p : Int)] 67)
      have hA1 := hA.out.alloc (.cells #[.slice X t.length ca, .int .i64 (p : Int)] 67)
      have hP1 := hKP.out.alloc (.cells #[.slice X t.length ca, .int .i64 (p : Int)] 67)
      have hZ1 := hZ.out.alloc (.cells #[.slice X t.length ca, .int .i64 (p : Int)] 67)
      have hB1 := below_alloc (o := .cells #[.slice X t.length ca, .int .i64 (p : Int)] 67) hB.out
      have hC1 := Blk.new wr 67 #[.slice X t.length ca, .int .i64 (p : Int)]
      have t1 := (TAt.up (HX.out.1.up hB.out) (below_alloc (o := .cells #[.slice X t.length ca, .int .i64 (p : Int)] 67) (Below.refl _ _))).take N
      have hw1 : (wr.alloc (.cells #[.slice X t.length ca, .int .i64 (p : Int)] 67)).heap.size = wr.heap.size + 1 := by simp
      clear hB hA hZ HK hKP p0 p1
      generalize wr.alloc (.cells #[.slice X t.length ca, .int .i64 (p : Int)] 67) = w1 at *
      have p0 : w1.cell? ⟨wr.heap.size, 0, none⟩ = some (.slice X t.length ca) := hC1.cell 0
      have p1 : w1.cell? ⟨wr.heap.size, 1, none⟩ = some (.int .i64 (p : Int)) := hC1.cell 1
      have p2 : w1.cell? ⟨w.heap.size + 1, 0, none⟩ = some (.int .i64 m) := hP1.cell 0
      have q0 : w1.cell? ⟨w.heap.size + 1 + 1 + 1, 0, none⟩ = some (.slice none 0 0) := hK1.cell 0
      have fz0 := hK1.frozen 0
      have H2 := Lib.hid (And.intro hK1 (And.intro hA1 (And.intro hZ1 (And.intro hB1 (And.intro hP1 hC1)))))
      have T1 := Lib.hid t1
      clear hK1 hA1 hZ1 hB1 hP1 hC1 t1
      go_wp2_with fail
      go_loop [8, 9] (fun a b => ∃ i j : Nat, a = .int .i64 i ∧ b = .int .i64 j ∧ Hid (i = p + j ∧ ((j : Int) ≤ m ∨ j = 0) ∧ i ≤ t.length))
        (fun a b => t.length - (intOf a).toNat)
      case atStart => exact ⟨p, 0, rfl, rfl, by omega, .inr rfl, by omega⟩
      case round =>
        obtain ⟨i, j, rfl, rfl, hij⟩ := hrel
        have hi' := hij.out.2.2
        have hj' : (j : Int) ≤ 262144 := by have := hij.out; omega
        by_cases h1 : (j : Int) < m
        · by_cases h2 : (i : Int) < (t.length : Int)
          · clear p1 q0 fz0
            go_wp2_with fail
            go_round
            case rel => exact ⟨i + 1, j + 1, by go_num, by go_num, by have := hij.out; omega, by omega, by omega⟩
            case measure => simp [intOf]; omega
          · have e : N = i := by have := hij.out; have := HD.out; omega
            clear hij
            subst e
            have hc9 : N ≤ ca := by omega
            have tr := T1.out.reads
            rw [HE.out.1] at tr
            have TR := Lib.hid tr
            clear tr hi' hj'
            go_wp2_with fail
            go_region_law (refine step_append_any _ rfl (.tmp 41) (.tmp 45) _ rfl (w.heap.size + 1 + 1 + 1 + 1) 5 i0 (.int .u8 0) 1 1 Try.underlying37 HI.out.1 HI.out.2.1 HI.out.2.2.1 HI.out.2.2.2 rfl (by decide) (.slice none 0 0) 0 [] (by simp [Act.eval, Act.put]) (World.ownsRow_nil _ _ _ _) w1.heap.size X N ca ((t.take N).map (Value.int .u8)) (by simp [Act.eval, Act.put]) (Reads.drew TR.out) (one_cells _) (by simp only [maxLen]; omega) (by omega) (by show _ ≤ w1.heap.size; omega) ?_; intro v3 w3 hown hg hat; rw [Nat.zero_add, List.nil_append] at hown; obtain ⟨X', ca', rfl⟩ := own_slice hown; have hK3 := H2.out.1.drew.grown hg (by simp [Value.ownBlock]); have q3 : w3.cell? ⟨w.heap.size + 1 + 1 + 1, 0, none⟩ = some (.slice none 0 0) := hK3.cell 0; have q4 : w3.cell? ⟨w.heap.size + 1 + 1 + 1, 1, none⟩ = some (.int .i64 0) := hK3.cell 1; have f3 := hK3.frozen 0; have f4 := hK3.frozen 1; have H3 := Lib.hid (And.intro hown (And.intro hg hK3)); clear hown hg hat hK3 q0 fz0)
            all_goals
              go_wp2_with fail
              go_roundw
              case measure => simp [intOf]
              have hK4 : Blk ((w3.setCell ⟨w.heap.size + 1 + 1 + 1, 0, none⟩ (.slice X' N ca')).setCell ⟨w.heap.size + 1 + 1 + 1, 1, none⟩ (.int .i64 (N : Int))) (w.heap.size + 1 + 1 + 1) 70 #[.slice X' N ca', .int .i64 (N : Int), .slice none 0 0, .int .i64 0] := (H3.out.2.2.set_ 0 _).set_ 1 _
              have hO4 := (Go.RowKit.ownsRow_setCell_below (Go.RowKit.ownsRow_setCell_below H3.out.1 (a := ⟨w.heap.size + 1 + 1 + 1, 0, none⟩) (by show w.heap.size + 1 + 1 + 1 < w.heap.size + 1 + 1 + 1 + 1; omega) (.slice X' N ca')) (a := ⟨w.heap.size + 1 + 1 + 1, 1, none⟩) (by show w.heap.size + 1 + 1 + 1 < w.heap.size + 1 + 1 + 1 + 1; omega) (.int .i64 (N : Int)))
              have hB4 := (((H2.out.2.2.2.1.drew.grown H3.out.2.1 (by have := H2.out.2.2.2.1.size; simpa using this) (fun j hj => by simp [Value.ownBlock] at hj)).setCell (p := ⟨w.heap.size + 1 + 1 + 1, 0, none⟩) (by show w.heap.size ≤ w.heap.size + 1 + 1 + 1; omega) (.slice X' N ca')).setCell (p := ⟨w.heap.size + 1 + 1 + 1, 1, none⟩) (by show w.heap.size ≤ w.heap.size + 1 + 1 + 1; omega) (.int .i64 (N : Int)))
              have hA4 := (((H2.out.2.1.drew.grown H3.out.2.1 (by simp [Value.ownBlock])).far (p := ⟨w.heap.size + 1 + 1 + 1, 0, none⟩) (by simp <;> omega) (.slice X' N ca')).far (p := ⟨w.heap.size + 1 + 1 + 1, 1, none⟩) (by simp <;> omega) (.int .i64 (N : Int)))
              have hP4 := (((H2.out.2.2.2.2.1.drew.grown H3.out.2.1 (by simp [Value.ownBlock])).far (p := ⟨w.heap.size + 1 + 1 + 1, 0, none⟩) (by simp <;> omega) (.slice X' N ca')).far (p := ⟨w.heap.size + 1 + 1 + 1, 1, none⟩) (by simp <;> omega) (.int .i64 (N : Int)))
              have hZ4 := (((H2.out.2.2.1.drew.grown H3.out.2.1 (by simp [Value.ownBlock])).far (p := ⟨w.heap.size + 1 + 1 + 1, 0, none⟩) (by simp <;> omega) (.slice X' N ca')).far (p := ⟨w.heap.size + 1 + 1 + 1, 1, none⟩) (by simp <;> omega) (.int .i64 (N : Int)))
              exact ⟨1, by omega, rfl, .inr (.inl ⟨rfl, X', ca', hO4, hK4⟩), hB4, hA4, hP4, hZ4⟩
        · have e : N = i := by have := hij.out; have := HD.out; omega
          clear hij
          subst e
          have hc9 : N ≤ ca := by omega
          have tr := T1.out.reads
          rw [HE.out.1] at tr
          have TR := Lib.hid tr
          clear tr hi' hj'
          go_wp2_with fail
          go_region_law (refine step_append_any _ rfl (.tmp 41) (.tmp 45) _ rfl (w.heap.size + 1 + 1 + 1 + 1) 5 i0 (.int .u8 0) 1 1 Try.underlying37 HI.out.1 HI.out.2.1 HI.out.2.2.1 HI.out.2.2.2 rfl (by decide) (.slice none 0 0) 0 [] (by simp [Act.eval, Act.put]) (World.ownsRow_nil _ _ _ _) w1.heap.size X N ca ((t.take N).map (Value.int .u8)) (by simp [Act.eval, Act.put]) (Reads.drew TR.out) (one_cells _) (by simp only [maxLen]; omega) (by omega) (by show _ ≤ w1.heap.size; omega) ?_; intro v3 w3 hown hg hat; rw [Nat.zero_add, List.nil_append] at hown; obtain ⟨X', ca', rfl⟩ := own_slice hown; have hK3 := H2.out.1.drew.grown hg (by simp [Value.ownBlock]); have q3 : w3.cell? ⟨w.heap.size + 1 + 1 + 1, 0, none⟩ = some (.slice none 0 0) := hK3.cell 0; have q4 : w3.cell? ⟨w.heap.size + 1 + 1 + 1, 1, none⟩ = some (.int .i64 0) := hK3.cell 1; have f3 := hK3.frozen 0; have f4 := hK3.frozen 1; have H3 := Lib.hid (And.intro hown (And.intro hg hK3)); clear hown hg hat hK3 q0 fz0)
          all_goals
            go_wp2_with fail
            go_roundw
            case measure => simp [intOf]
            have hK4 : Blk ((w3.setCell ⟨w.heap.size + 1 + 1 + 1, 0, none⟩ (.slice X' N ca')).setCell ⟨w.heap.size + 1 + 1 + 1, 1, none⟩ (.int .i64 (N : Int))) (w.heap.size + 1 + 1 + 1) 70 #[.slice X' N ca', .int .i64 (N : Int), .slice none 0 0, .int .i64 0] := (H3.out.2.2.set_ 0 _).set_ 1 _
            have hO4 := (Go.RowKit.ownsRow_setCell_below (Go.RowKit.ownsRow_setCell_below H3.out.1 (a := ⟨w.heap.size + 1 + 1 + 1, 0, none⟩) (by show w.heap.size + 1 + 1 + 1 < w.heap.size + 1 + 1 + 1 + 1; omega) (.slice X' N ca')) (a := ⟨w.heap.size + 1 + 1 + 1, 1, none⟩) (by show w.heap.size + 1 + 1 + 1 < w.heap.size + 1 + 1 + 1 + 1; omega) (.int .i64 (N : Int)))
            have hB4 := (((H2.out.2.2.2.1.drew.grown H3.out.2.1 (by have := H2.out.2.2.2.1.size; simpa using this) (fun j hj => by simp [Value.ownBlock] at hj)).setCell (p := ⟨w.heap.size + 1 + 1 + 1, 0, none⟩) (by show w.heap.size ≤ w.heap.size + 1 + 1 + 1; omega) (.slice X' N ca')).setCell (p := ⟨w.heap.size + 1 + 1 + 1, 1, none⟩) (by show w.heap.size ≤ w.heap.size + 1 + 1 + 1; omega) (.int .i64 (N : Int)))
            have hA4 := (((H2.out.2.1.drew.grown H3.out.2.1 (by simp [Value.ownBlock])).far (p := ⟨w.heap.size + 1 + 1 + 1, 0, none⟩) (by simp <;> omega) (.slice X' N ca')).far (p := ⟨w.heap.size + 1 + 1 + 1, 1, none⟩) (by simp <;> omega) (.int .i64 (N : Int)))
            have hP4 := (((H2.out.2.2.2.2.1.drew.grown H3.out.2.1 (by simp [Value.ownBlock])).far (p := ⟨w.heap.size + 1 + 1 + 1, 0, none⟩) (by simp <;> omega) (.slice X' N ca')).far (p := ⟨w.heap.size + 1 + 1 + 1, 1, none⟩) (by simp <;> omega) (.int .i64 (N : Int)))
            have hZ4 := (((H2.out.2.2.1.drew.grown H3.out.2.1 (by simp [Value.ownBlock])).far (p := ⟨w.heap.size + 1 + 1 + 1, 0, none⟩) (by simp <;> omega) (.slice X' N ca')).far (p := ⟨w.heap.size + 1 + 1 + 1, 1, none⟩) (by simp <;> omega) (.int .i64 (N : Int)))
            exact ⟨1, by omega, rfl, .inr (.inl ⟨rfl, X', ca', hO4, hK4⟩), hB4, hA4, hP4, hZ4⟩
    · have HO := Lib.hid hO
      clear hO
      have HK := Lib.hid hK
      have p0 : wr.cell? ⟨w.heap.size, 2, none⟩ = some (.slice Y u.length cb) := hA.out.cell 2
      have p1 : wr.cell? ⟨w.heap.size, 3, none⟩ = some (.int .i64 (q : Int)) := hA.out.cell 3
      have hs3 : w.heap.size + 1 + 1 + 1 < wr.heap.size := HK.out.lt
      have hs4 : w.heap.size < wr.heap.size := hA.out.lt
      clear hR hK
      go_upto_region 6 with fail
      have hK1 := HK.out.alloc (.cells #[.slice Y u.length cb, .int .i64 (q : Int)] 67)
      have hA1 := hA.out.alloc (.cells #[.slice Y u.length cb, .int .i64 (q : Int)] 67)
      have hP1 := hKP.out.alloc (.cells #[.slice Y u.length cb, .int .i64 (q : Int)] 67)
      have hZ1 := hZ.out.alloc (.cells #[.slice Y u.length cb, .int .i64 (q : Int)] 67)
      have hB1 := below_alloc (o := .cells #[.slice Y u.length cb, .int .i64 (q : Int)] 67) hB.out
      have hC1 := Blk.new wr 67 #[.slice Y u.length cb, .int .i64 (q : Int)]
      have t1 := (TAt.up (HX.out.2.up hB.out) (below_alloc (o := .cells #[.slice Y u.length cb, .int .i64 (q : Int)] 67) (Below.refl _ _))).take M
      have hw1 : (wr.alloc (.cells #[.slice Y u.length cb, .int .i64 (q : Int)] 67)).heap.size = wr.heap.size + 1 := by simp
      have hO1 := HO.out.alloc (.cells #[.slice Y u.length cb, .int .i64 (q : Int)] 67)
      clear hB hA hZ HK hKP p0 p1
      generalize wr.alloc (.cells #[.slice Y u.length cb, .int .i64 (q : Int)] 67) = w1 at *
      have p0 : w1.cell? ⟨wr.heap.size, 0, none⟩ = some (.slice Y u.length cb) := hC1.cell 0
      have p1 : w1.cell? ⟨wr.heap.size, 1, none⟩ = some (.int .i64 (q : Int)) := hC1.cell 1
      have p2 : w1.cell? ⟨w.heap.size + 1, 1, none⟩ = some (.int .i64 n) := hP1.cell 1
      have q0 : w1.cell? ⟨w.heap.size + 1 + 1 + 1, 2, none⟩ = some (.slice none 0 0) := hK1.cell 2
      have fz0 := hK1.frozen 2
      have H2 := Lib.hid (And.intro hK1 (And.intro hA1 (And.intro hZ1 (And.intro hB1 (And.intro hP1 hC1)))))
      have T1 := Lib.hid t1
      clear hK1 hA1 hZ1 hB1 hP1 hC1 t1
      go_wp2_with fail
      go_loop [8, 9] (fun a b => ∃ i j : Nat, a = .int .i64 i ∧ b = .int .i64 j ∧ Hid (i = q + j ∧ ((j : Int) ≤ n ∨ j = 0) ∧ i ≤ u.length))
        (fun a b => u.length - (intOf a).toNat)
      case atStart => exact ⟨q, 0, rfl, rfl, by omega, .inr rfl, by omega⟩
      case round =>
        obtain ⟨i, j, rfl, rfl, hij⟩ := hrel
        have hi' := hij.out.2.2
        have hj' : (j : Int) ≤ 262144 := by have := hij.out; omega
        by_cases h1 : (j : Int) < n
        · by_cases h2 : (i : Int) < (u.length : Int)
          · clear p1 q0 fz0
            go_wp2_with fail
            go_round
            case rel => exact ⟨i + 1, j + 1, by go_num, by go_num, by have := hij.out; omega, by omega, by omega⟩
            case measure => simp [intOf]; omega
          · have e : M = i := by have := hij.out; have := HD.out; omega
            clear hij
            subst e
            have hc9 : M ≤ cb := by omega
            have tr := T1.out.reads
            rw [HE.out.2] at tr
            have TR := Lib.hid tr
            have HO1 := Lib.hid hO1
            clear hO1
            clear tr hi' hj'
            go_wp2_with fail
            go_region_law (refine step_append_any _ rfl (.tmp 41) (.tmp 45) _ rfl (w.heap.size + 1 + 1 + 1 + 1) 5 i0 (.int .u8 0) 1 1 Try.underlying37 HI.out.1 HI.out.2.1 HI.out.2.2.1 HI.out.2.2.2 rfl (by decide) (.slice none 0 0) 0 [] (by simp [Act.eval, Act.put]) (World.ownsRow_nil _ _ _ _) w1.heap.size Y M cb ((u.take M).map (Value.int .u8)) (by simp [Act.eval, Act.put]) (Reads.drew TR.out) (one_cells _) (by simp only [maxLen]; omega) (by omega) (by show _ ≤ w1.heap.size; omega) ?_; intro v3 w3 hown hg hat; rw [Nat.zero_add, List.nil_append] at hown; obtain ⟨Y', cb', rfl⟩ := own_slice hown; have hK3 := H2.out.1.drew.grown hg (by simp [Value.ownBlock]); have q3 : w3.cell? ⟨w.heap.size + 1 + 1 + 1, 2, none⟩ = some (.slice none 0 0) := hK3.cell 2; have q4 : w3.cell? ⟨w.heap.size + 1 + 1 + 1, 3, none⟩ = some (.int .i64 0) := hK3.cell 3; have f3 := hK3.frozen 2; have f4 := hK3.frozen 3; have H3 := Lib.hid (And.intro hown (And.intro hg hK3)); clear hown hg hat hK3 q0 fz0)
            all_goals
              go_wp2_with fail
              go_roundw
              case measure => simp [intOf]
              have hK4 : Blk ((w3.setCell ⟨w.heap.size + 1 + 1 + 1, 2, none⟩ (.slice Y' M cb')).setCell ⟨w.heap.size + 1 + 1 + 1, 3, none⟩ (.int .i64 (M : Int))) (w.heap.size + 1 + 1 + 1) 70 #[.slice X' N ca', .int .i64 (N : Int), .slice Y' M cb', .int .i64 (M : Int)] := (H3.out.2.2.set_ 2 _).set_ 3 _
              have hO4 := (Go.RowKit.ownsRow_setCell_below (Go.RowKit.ownsRow_setCell_below H3.out.1 (a := ⟨w.heap.size + 1 + 1 + 1, 2, none⟩) (by show w.heap.size + 1 + 1 + 1 < w.heap.size + 1 + 1 + 1 + 1; omega) (.slice Y' M cb')) (a := ⟨w.heap.size + 1 + 1 + 1, 3, none⟩) (by show w.heap.size + 1 + 1 + 1 < w.heap.size + 1 + 1 + 1 + 1; omega) (.int .i64 (M : Int)))
              have hB4 := (((H2.out.2.2.2.1.drew.grown H3.out.2.1 (by have := H2.out.2.2.2.1.size; simpa using this) (fun j hj => by simp [Value.ownBlock] at hj)).setCell (p := ⟨w.heap.size + 1 + 1 + 1, 2, none⟩) (by show w.heap.size ≤ w.heap.size + 1 + 1 + 1; omega) (.slice Y' M cb')).setCell (p := ⟨w.heap.size + 1 + 1 + 1, 3, none⟩) (by show w.heap.size ≤ w.heap.size + 1 + 1 + 1; omega) (.int .i64 (M : Int)))
              have hA4 := (((H2.out.2.1.drew.grown H3.out.2.1 (by simp [Value.ownBlock])).far (p := ⟨w.heap.size + 1 + 1 + 1, 2, none⟩) (by simp <;> omega) (.slice Y' M cb')).far (p := ⟨w.heap.size + 1 + 1 + 1, 3, none⟩) (by simp <;> omega) (.int .i64 (M : Int)))
              have hP4 := (((H2.out.2.2.2.2.1.drew.grown H3.out.2.1 (by simp [Value.ownBlock])).far (p := ⟨w.heap.size + 1 + 1 + 1, 2, none⟩) (by simp <;> omega) (.slice Y' M cb')).far (p := ⟨w.heap.size + 1 + 1 + 1, 3, none⟩) (by simp <;> omega) (.int .i64 (M : Int)))
              have hZ4 := (((H2.out.2.2.1.drew.grown H3.out.2.1 (by simp [Value.ownBlock])).far (p := ⟨w.heap.size + 1 + 1 + 1, 2, none⟩) (by simp <;> omega) (.slice Y' M cb')).far (p := ⟨w.heap.size + 1 + 1 + 1, 3, none⟩) (by simp <;> omega) (.int .i64 (M : Int)))
              have hQ4 := (Go.RowKit.ownsRow_setCell_below (Go.RowKit.ownsRow_setCell_below (World.ownsRow.kept (w' := w3) HO1.out.drew H3.out.2.1 (by rcases h : (Value.slice X' N ca').ownBlock with _ | b; exact .inl rfl; exact .inr (by simp [Value.ownBlock]))) (a := ⟨w.heap.size + 1 + 1 + 1, 2, none⟩) (by show w.heap.size + 1 + 1 + 1 < w.heap.size + 1 + 1 + 1 + 1; omega) (.slice Y' M cb')) (a := ⟨w.heap.size + 1 + 1 + 1, 3, none⟩) (by show w.heap.size + 1 + 1 + 1 < w.heap.size + 1 + 1 + 1 + 1; omega) (.int .i64 (M : Int)))
              exact ⟨2, by omega, rfl, .inr (.inr ⟨rfl, X', ca', Y', cb', hQ4, hO4, hK4⟩), hB4, hA4, hP4, hZ4⟩
        · have e : M = i := by have := hij.out; have := HD.out; omega
          clear hij
          subst e
          have hc9 : M ≤ cb := by omega
          have tr := T1.out.reads
          rw [HE.out.2] at tr
          have TR := Lib.hid tr
          have HO1 := Lib.hid hO1
          clear hO1
          clear tr hi' hj'
          go_wp2_with fail
          go_region_law (refine step_append_any _ rfl (.tmp 41) (.tmp 45) _ rfl (w.heap.size + 1 + 1 + 1 + 1) 5 i0 (.int .u8 0) 1 1 Try.underlying37 HI.out.1 HI.out.2.1 HI.out.2.2.1 HI.out.2.2.2 rfl (by decide) (.slice none 0 0) 0 [] (by simp [Act.eval, Act.put]) (World.ownsRow_nil _ _ _ _) w1.heap.size Y M cb ((u.take M).map (Value.int .u8)) (by simp [Act.eval, Act.put]) (Reads.drew TR.out) (one_cells _) (by simp only [maxLen]; omega) (by omega) (by show _ ≤ w1.heap.size; omega) ?_; intro v3 w3 hown hg hat; rw [Nat.zero_add, List.nil_append] at hown; obtain ⟨Y', cb', rfl⟩ := own_slice hown; have hK3 := H2.out.1.drew.grown hg (by simp [Value.ownBlock]); have q3 : w3.cell? ⟨w.heap.size + 1 + 1 + 1, 2, none⟩ = some (.slice none 0 0) := hK3.cell 2; have q4 : w3.cell? ⟨w.heap.size + 1 + 1 + 1, 3, none⟩ = some (.int .i64 0) := hK3.cell 3; have f3 := hK3.frozen 2; have f4 := hK3.frozen 3; have H3 := Lib.hid (And.intro hown (And.intro hg hK3)); clear hown hg hat hK3 q0 fz0)
          all_goals
            go_wp2_with fail
            go_roundw
            case measure => simp [intOf]
            have hK4 : Blk ((w3.setCell ⟨w.heap.size + 1 + 1 + 1, 2, none⟩ (.slice Y' M cb')).setCell ⟨w.heap.size + 1 + 1 + 1, 3, none⟩ (.int .i64 (M : Int))) (w.heap.size + 1 + 1 + 1) 70 #[.slice X' N ca', .int .i64 (N : Int), .slice Y' M cb', .int .i64 (M : Int)] := (H3.out.2.2.set_ 2 _).set_ 3 _
            have hO4 := (Go.RowKit.ownsRow_setCell_below (Go.RowKit.ownsRow_setCell_below H3.out.1 (a := ⟨w.heap.size + 1 + 1 + 1, 2, none⟩) (by show w.heap.size + 1 + 1 + 1 < w.heap.size + 1 + 1 + 1 + 1; omega) (.slice Y' M cb')) (a := ⟨w.heap.size + 1 + 1 + 1, 3, none⟩) (by show w.heap.size + 1 + 1 + 1 < w.heap.size + 1 + 1 + 1 + 1; omega) (.int .i64 (M : Int)))
            have hB4 := (((H2.out.2.2.2.1.drew.grown H3.out.2.1 (by have := H2.out.2.2.2.1.size; simpa using this) (fun j hj => by simp [Value.ownBlock] at hj)).setCell (p := ⟨w.heap.size + 1 + 1 + 1, 2, none⟩) (by show w.heap.size ≤ w.heap.size + 1 + 1 + 1; omega) (.slice Y' M cb')).setCell (p := ⟨w.heap.size + 1 + 1 + 1, 3, none⟩) (by show w.heap.size ≤ w.heap.size + 1 + 1 + 1; omega) (.int .i64 (M : Int)))
            have hA4 := (((H2.out.2.1.drew.grown H3.out.2.1 (by simp [Value.ownBlock])).far (p := ⟨w.heap.size + 1 + 1 + 1, 2, none⟩) (by simp <;> omega) (.slice Y' M cb')).far (p := ⟨w.heap.size + 1 + 1 + 1, 3, none⟩) (by simp <;> omega) (.int .i64 (M : Int)))
            have hP4 := (((H2.out.2.2.2.2.1.drew.grown H3.out.2.1 (by simp [Value.ownBlock])).far (p := ⟨w.heap.size + 1 + 1 + 1, 2, none⟩) (by simp <;> omega) (.slice Y' M cb')).far (p := ⟨w.heap.size + 1 + 1 + 1, 3, none⟩) (by simp <;> omega) (.int .i64 (M : Int)))
            have hZ4 := (((H2.out.2.2.1.drew.grown H3.out.2.1 (by simp [Value.ownBlock])).far (p := ⟨w.heap.size + 1 + 1 + 1, 2, none⟩) (by simp <;> omega) (.slice Y' M cb')).far (p := ⟨w.heap.size + 1 + 1 + 1, 3, none⟩) (by simp <;> omega) (.int .i64 (M : Int)))
            have hQ4 := (Go.RowKit.ownsRow_setCell_below (Go.RowKit.ownsRow_setCell_below (World.ownsRow.kept (w' := w3) HO1.out.drew H3.out.2.1 (by rcases h : (Value.slice X' N ca').ownBlock with _ | b; exact .inl rfl; exact .inr (by simp [Value.ownBlock]))) (a := ⟨w.heap.size + 1 + 1 + 1, 2, none⟩) (by show w.heap.size + 1 + 1 + 1 < w.heap.size + 1 + 1 + 1 + 1; omega) (.slice Y' M cb')) (a := ⟨w.heap.size + 1 + 1 + 1, 3, none⟩) (by show w.heap.size + 1 + 1 + 1 < w.heap.size + 1 + 1 + 1 + 1; omega) (.int .i64 (M : Int)))
            exact ⟨2, by omega, rfl, .inr (.inr ⟨rfl, X', ca', Y', cb', hQ4, hO4, hK4⟩), hB4, hA4, hP4, hZ4⟩
    · have HK := Lib.hid hK
      have HO := Lib.hid (And.intro hO hO2)
      have y0 : wr.cell? ⟨w.heap.size + 1 + 1 + 1, 0, none⟩ = some (.slice X' N ca') := HK.out.cell 0
      have y1 : wr.cell? ⟨w.heap.size + 1 + 1 + 1, 1, none⟩ = some (.int .i64 (N : Int)) := HK.out.cell 1
      have y2 : wr.cell? ⟨w.heap.size + 1 + 1 + 1, 2, none⟩ = some (.slice Y' M cb') := HK.out.cell 2
      have y3 : wr.cell? ⟨w.heap.size + 1 + 1 + 1, 3, none⟩ = some (.int .i64 (M : Int)) := HK.out.cell 3
      have z0 : wr.cell? ⟨w.heap.size + 1 + 1, 0, none⟩ = some (.slice none 0 0) := hZ.out.cell 0
      have z1 : wr.cell? ⟨w.heap.size + 1 + 1, 1, none⟩ = some (.int .i64 0) := hZ.out.cell 1
      have z2 : wr.cell? ⟨w.heap.size + 1 + 1, 2, none⟩ = some (.slice none 0 0) := hZ.out.cell 2
      have z3 : wr.cell? ⟨w.heap.size + 1 + 1, 3, none⟩ = some (.int .i64 0) := hZ.out.cell 3
      have zf0 := hZ.out.frozen 0
      have zf1 := hZ.out.frozen 1
      have zf2 := hZ.out.frozen 2
      have zf3 := hZ.out.frozen 3
      have hs0 : w.heap.size + 1 + 1 + 1 < wr.heap.size := cell_lt y0
      clear hK hR hO hO2
      go_wp2_with fail
      have hK4 := W4.blk hZ.out (.slice X' N ca') (.int .i64 (N : Int)) (.slice Y' M cb') (.int .i64 (M : Int))
      have hB4 := W4.below (g := w.heap.size + 1 + 1) hB.out (by omega) (.slice X' N ca') (.int .i64 (N : Int)) (.slice Y' M cb') (.int .i64 (M : Int))
      have hO4 := W4.own (g := w.heap.size + 1 + 1) HO.out.1 (own_ne HO.out.1 (by omega)) (.slice X' N ca') (.int .i64 (N : Int)) (.slice Y' M cb') (.int .i64 (M : Int))
      have hP4 := W4.own (g := w.heap.size + 1 + 1) HO.out.2 (own_ne HO.out.2 (by omega)) (.slice X' N ca') (.int .i64 (N : Int)) (.slice Y' M cb') (.int .i64 (M : Int))
      rw [show ((((wr.setCell ⟨w.heap.size + 1 + 1, 0, none⟩ (.slice X' N ca')).setCell ⟨w.heap.size + 1 + 1, 1, none⟩ (.int .i64 (N : Int))).setCell ⟨w.heap.size + 1 + 1, 2, none⟩ (.slice Y' M cb')).setCell ⟨w.heap.size + 1 + 1, 3, none⟩ (.int .i64 (M : Int))) = W4 wr (w.heap.size + 1 + 1) (.slice X' N ca') (.int .i64 (N : Int)) (.slice Y' M cb') (.int .i64 (M : Int)) from rfl]
      generalize W4 wr (w.heap.size + 1 + 1) (.slice X' N ca') (.int .i64 (N : Int)) (.slice Y' M cb') (.int .i64 (M : Int)) = w4 at *
      clear hZ hB HX hA hKP HK HO z0 z1 z2 z3 zf0 zf1 zf2 zf3 y0 y1 y2 y3
      have c0 := hK4.cell 0
      have c1 := hK4.cell 1
      have c2 := hK4.cell 2
      have c3 := hK4.cell 3
      simp only [List.getElem?_toArray, List.getElem?_cons_zero, List.getElem?_cons_succ] at c0 c1 c2 c3
      refine bodyPost_ret (v := .agg #[.slice X' N ca', .int .i64 (N : Int), .slice Y' M cb', .int .i64 (M : Int)]) (by simp [results, Try.results63, go_sem, c0, c1, c2, c3]) rfl ⟨_, rfl, ?_, hB4⟩
      have eN := HE.out.1
      have eM := HE.out.2
      rw [show #[Value.slice X' N ca', Value.int .i64 (N : Int), Value.slice Y' M cb', Value.int .i64 (M : Int)] = #[Value.slice X' (t.take N).length ca', Value.int .i64 (N : Int), Value.slice Y' (u.take M).length cb', Value.int .i64 (M : Int)] from by rw [eN, eM]]
      exact RetL.of_own (m := ⟨⟨t.take N, (N : Int)⟩, ⟨u.take M, (M : Int)⟩⟩) (by show World.ownsRow _ _ _ _ (.slice X' (t.take N).length ca') (t.take N).length _; rw [eN]; exact ownsRow_less hO4 (by omega)) (by show World.ownsRow _ _ _ _ (.slice Y' (u.take M).length cb') (u.take M).length _; rw [eM]; exact ownsRow_less hP4 (by omega))
end Go.Proofs.Ytfdldbfjeamlcaa.LogLeft
/-! Crash: the program's and the reference's. -/
namespace Go.Proofs.Ytfdldbfjeamlcaa.LogCrash
open Go.RowKit Mem LogMath LogProg LogRef1 LogRef2 LogLeft Round
open Go.Sort (grow)
set_option linter.unusedVariables false
set_option linter.unusedSimpArgs false

theorem crash_bad {l : LV} {m n : Int} (h : mayL l = false) : checkL l = 8 ∧ crashL l m n = LV.z := ⟨by unfold checkL; rw [h]; rfl, by unfold crashL; rw [h]; rfl⟩
theorem crash_ok {l : LV} {m n : Int} (h : mayL l = true) : checkL l = 0 ∧ crashL l m n = leftL l m n := ⟨by unfold checkL; rw [h]; rfl, by unfold crashL; rw [h]; rfl⟩
theorem own_cap {w : World} {B n c : Nat} {X : Option Addr} {xs : List Value} (h : w.ownsRow B 5 1 (.slice X n c) n xs) : n ≤ c := by
  rcases h.2 with ⟨e, e0⟩ | ⟨g, cap, cur, e, _, _, hc, _⟩
  · simp only [Value.slice.injEq] at e; omega
  · simp only [Value.slice.injEq] at e; omega
set_option maxRecDepth 100000 in
set_option maxHeartbeats 4000000 in
theorem rCrashBad (x y : AV) (X : Option Addr) (ca : Nat) (Y : Option Addr) (cb : Nat) (m n : Int) (h : mayL ⟨x, y⟩ = false) (w : World) :
    Calls Try.prog 31 #[.agg #[.slice X x.t.length ca, .int .i64 x.k, .slice Y y.t.length cb, .int .i64 y.k], .agg #[.int .i64 m, .int .i64 n]] w fun e w' => ∃ v, e = .returned (.tuple #[v, .int .i64 (checkL ⟨x, y⟩)]) ∧ RetL w' w.heap.size (crashL ⟨x, y⟩ m n) v ∧ Below w.heap.size w w' := by
  obtain ⟨E1, E2⟩ := crash_bad (m := m) (n := n) h
  rw [E1, E2]
  clear E1 E2
  go_enter Try.func31, Try.ntmps31
  go_wp2_with fail
  refine (rMay x y X ca Y cb _).mono ?_
  rintro e w1 ⟨rfl, hB1⟩
  rw [h]
  have hL := ((Blk.new w 70 #[.slice X x.t.length ca, .int .i64 x.k, .slice Y y.t.length cb, .int .i64 y.k]).alloc (.cells #[.int .i64 m, .int .i64 n] 73)).alloc (.cells #[.slice none 0 0, .int .i64 0, .slice none 0 0, .int .i64 0] 70) |>.below hB1 (by simp; omega)
  have hA := (blk1 w 73 #[.int .i64 m, .int .i64 n] (o := .cells #[.slice X x.t.length ca, .int .i64 x.k, .slice Y y.t.length cb, .int .i64 y.k] 70)).alloc (.cells #[.slice none 0 0, .int .i64 0, .slice none 0 0, .int .i64 0] 70) |>.below hB1 (by simp)
  have hZ := (blk2 w 70 #[.slice none 0 0, .int .i64 0, .slice none 0 0, .int .i64 0] (o := .cells #[.slice X x.t.length ca, .int .i64 x.k, .slice Y y.t.length cb, .int .i64 y.k] 70) (o' := .cells #[.int .i64 m, .int .i64 n] 73)).below hB1 (by simp)
  have hB := below_up (below_alloc (below_alloc (below_alloc (Below.refl _ _)))) hB1
  clear hB1
  have z0 : w1.cell? ⟨w.heap.size + 1 + 1, 0, none⟩ = some (.slice none 0 0) := hZ.cell 0
  have z1 : w1.cell? ⟨w.heap.size + 1 + 1, 1, none⟩ = some (.int .i64 0) := hZ.cell 1
  have z2 : w1.cell? ⟨w.heap.size + 1 + 1, 2, none⟩ = some (.slice none 0 0) := hZ.cell 2
  have z3 : w1.cell? ⟨w.heap.size + 1 + 1, 3, none⟩ = some (.int .i64 0) := hZ.cell 3
  have zf0 := hZ.frozen 0
  have zf1 := hZ.frozen 1
  have zf2 := hZ.frozen 2
  have zf3 := hZ.frozen 3
  have HH := Lib.hid (And.intro hZ hB)
  clear hL hA hZ hB
  go_wp2_with fail
  have hK4 := W4.blk HH.out.1 (.slice none 0 0) (.int .i64 0) (.slice none 0 0) (.int .i64 0)
  have hB4 := W4.below (g := w.heap.size + 1 + 1) HH.out.2 (by omega) (.slice none 0 0) (.int .i64 0) (.slice none 0 0) (.int .i64 0)
  rw [show ((((w1.setCell ⟨w.heap.size + 1 + 1, 0, none⟩ (.slice none 0 0)).setCell ⟨w.heap.size + 1 + 1, 1, none⟩ (.int .i64 0)).setCell ⟨w.heap.size + 1 + 1, 2, none⟩ (.slice none 0 0)).setCell ⟨w.heap.size + 1 + 1, 3, none⟩ (.int .i64 0)) = W4 w1 (w.heap.size + 1 + 1) (.slice none 0 0) (.int .i64 0) (.slice none 0 0) (.int .i64 0) from rfl]
  generalize W4 w1 (w.heap.size + 1 + 1) (.slice none 0 0) (.int .i64 0) (.slice none 0 0) (.int .i64 0) = w99 at *
  clear z0 z1 z2 z3 zf0 zf1 zf2 zf3
  have c0 := hK4.cell 0
  have c1 := hK4.cell 1
  have c2 := hK4.cell 2
  have c3 := hK4.cell 3
  simp only [List.getElem?_toArray, List.getElem?_cons_zero, List.getElem?_cons_succ] at c0 c1 c2 c3
  exact bodyPost_ret (v := .tuple #[.agg #[.slice none 0 0, .int .i64 0, .slice none 0 0, .int .i64 0], .int .i64 8]) (by simp [results, Try.results31, go_sem, c0, c1, c2, c3]) rfl ⟨_, rfl, RetL.zero, hB4⟩
set_option maxRecDepth 100000 in
set_option maxHeartbeats 4000000 in
theorem rCrashOk (t u : List Int) (p q : Nat) (X : Option Addr) (ca : Nat) (Y : Option Addr) (cb : Nat) (m n : Int) (ht : t.length ≤ 262144) (hu : u.length ≤ 262144) (hp : p ≤ t.length) (hq : q ≤ u.length) (hca : t.length ≤ ca) (hcb : u.length ≤ cb) (h : mayL ⟨⟨t, (p : Int)⟩, ⟨u, (q : Int)⟩⟩ = true) (w : World) (hX : TAt w X t) (hY : TAt w Y u) :
    Calls Try.prog 31 #[.agg #[.slice X t.length ca, .int .i64 (p : Int), .slice Y u.length cb, .int .i64 (q : Int)], .agg #[.int .i64 m, .int .i64 n]] w fun e w' => ∃ v, e = .returned (.tuple #[v, .int .i64 (checkL ⟨⟨t, (p : Int)⟩, ⟨u, (q : Int)⟩⟩)]) ∧ RetL w' w.heap.size (crashL ⟨⟨t, (p : Int)⟩, ⟨u, (q : Int)⟩⟩ m n) v ∧ Below w.heap.size w w' := by
  obtain ⟨E1, E2⟩ := crash_ok (m := m) (n := n) h
  rw [E1, E2]
  clear E1 E2
  have HX := Lib.hid (And.intro hX hY)
  clear hX hY
  go_enter Try.func31, Try.ntmps31
  go_wp2_with fail
  refine (rMay ⟨t, (p : Int)⟩ ⟨u, (q : Int)⟩ X ca Y cb _).mono ?_
  rintro e w1 ⟨rfl, hB1⟩
  rw [h]
  have hL := ((Blk.new w 70 #[.slice X t.length ca, .int .i64 (p : Int), .slice Y u.length cb, .int .i64 (q : Int)]).alloc (.cells #[.int .i64 m, .int .i64 n] 73)).alloc (.cells #[.slice none 0 0, .int .i64 0, .slice none 0 0, .int .i64 0] 70) |>.below hB1 (by simp; omega)
  have hA := (blk1 w 73 #[.int .i64 m, .int .i64 n] (o := .cells #[.slice X t.length ca, .int .i64 (p : Int), .slice Y u.length cb, .int .i64 (q : Int)] 70)).alloc (.cells #[.slice none 0 0, .int .i64 0, .slice none 0 0, .int .i64 0] 70) |>.below hB1 (by simp)
  have hZ := (blk2 w 70 #[.slice none 0 0, .int .i64 0, .slice none 0 0, .int .i64 0] (o := .cells #[.slice X t.length ca, .int .i64 (p : Int), .slice Y u.length cb, .int .i64 (q : Int)] 70) (o' := .cells #[.int .i64 m, .int .i64 n] 73)).below hB1 (by simp)
  have hB := below_up (below_alloc (below_alloc (below_alloc (Below.refl _ _)))) hB1
  clear hB1
  have l0 : w1.cell? ⟨w.heap.size, 0, none⟩ = some (.slice X t.length ca) := hL.cell 0
  have l1 : w1.cell? ⟨w.heap.size, 1, none⟩ = some (.int .i64 (p : Int)) := hL.cell 1
  have l2 : w1.cell? ⟨w.heap.size, 2, none⟩ = some (.slice Y u.length cb) := hL.cell 2
  have l3 : w1.cell? ⟨w.heap.size, 3, none⟩ = some (.int .i64 (q : Int)) := hL.cell 3
  have b0 : w1.cell? ⟨w.heap.size + 1, 0, none⟩ = some (.int .i64 m) := hA.cell 0
  have b1 : w1.cell? ⟨w.heap.size + 1, 1, none⟩ = some (.int .i64 n) := hA.cell 1
  have H3 := Lib.hid (And.intro hZ hB)
  clear hL hA hZ hB
  go_wp2_with fail
  refine (rLeft t u p q X ca Y cb m n ht hu hp hq hca hcb _ (HX.out.1.up H3.out.2) (HX.out.2.up H3.out.2)).mono ?_
  rintro e w4 ⟨v, rfl, hR, hB4⟩
  have hZ4 := H3.out.1.below hB4 H3.out.1.lt
  have hB5 := below_up H3.out.2 hB4
  obtain ⟨X7, n7, c7, k7, Y8, n8, c8, k8, rfl⟩ := hR.four
  have hs : w.heap.size + 1 + 1 < w1.heap.size := H3.out.1.lt
  have z0 : w4.cell? ⟨w.heap.size + 1 + 1, 0, none⟩ = some (.slice none 0 0) := hZ4.cell 0
  have z1 : w4.cell? ⟨w.heap.size + 1 + 1, 1, none⟩ = some (.int .i64 0) := hZ4.cell 1
  have z2 : w4.cell? ⟨w.heap.size + 1 + 1, 2, none⟩ = some (.slice none 0 0) := hZ4.cell 2
  have z3 : w4.cell? ⟨w.heap.size + 1 + 1, 3, none⟩ = some (.int .i64 0) := hZ4.cell 3
  have zf0 := hZ4.frozen 0
  have zf1 := hZ4.frozen 1
  have zf2 := hZ4.frozen 2
  have zf3 := hZ4.frozen 3
  have HH := Lib.hid (And.intro hZ4 (And.intro hB5 hR))
  have hs9 := H3.out.2.size
  clear hR hB4 hZ4 hB5 H3 l0 l1 l2 l3 b0 b1
  go_wp2_with fail
  have hK4 := W4.blk HH.out.1 (.slice X7 n7 c7) (.int .i64 k7) (.slice Y8 n8 c8) (.int .i64 k8)
  have hB4 := W4.below (g := w.heap.size + 1 + 1) HH.out.2.1 (by omega) (.slice X7 n7 c7) (.int .i64 k7) (.slice Y8 n8 c8) (.int .i64 k8)
  have hR4 := RetL.w4 (g := w.heap.size + 1 + 1) HH.out.2.2 hs (.slice X7 n7 c7) (.int .i64 k7) (.slice Y8 n8 c8) (.int .i64 k8)
  clear HH z0 z1 z2 z3 zf0 zf1 zf2 zf3
  rw [show ((((w4.setCell ⟨w.heap.size + 1 + 1, 0, none⟩ (.slice X7 n7 c7)).setCell ⟨w.heap.size + 1 + 1, 1, none⟩ (.int .i64 k7)).setCell ⟨w.heap.size + 1 + 1, 2, none⟩ (.slice Y8 n8 c8)).setCell ⟨w.heap.size + 1 + 1, 3, none⟩ (.int .i64 k8)) = W4 w4 (w.heap.size + 1 + 1) (.slice X7 n7 c7) (.int .i64 k7) (.slice Y8 n8 c8) (.int .i64 k8) from rfl]
  generalize W4 w4 (w.heap.size + 1 + 1) (.slice X7 n7 c7) (.int .i64 k7) (.slice Y8 n8 c8) (.int .i64 k8) = w9 at *
  have c0 := hK4.cell 0
  have c1 := hK4.cell 1
  have c2 := hK4.cell 2
  have c3 := hK4.cell 3
  simp only [List.getElem?_toArray, List.getElem?_cons_zero, List.getElem?_cons_succ] at c0 c1 c2 c3
  exact bodyPost_ret (v := .tuple #[.agg #[.slice X7 n7 c7, .int .i64 k7, .slice Y8 n8 c8, .int .i64 k8], .int .i64 0]) (by simp [results, Try.results31, go_sem, c0, c1, c2, c3]) rfl ⟨_, rfl, hR4.less hs9, hB4⟩
set_option maxRecDepth 100000 in
set_option maxHeartbeats 4000000 in
theorem lCrashBad (x y : AV) (X : Option Addr) (ca : Nat) (Y : Option Addr) (cb : Nat) (m n : Int) (h : mayL ⟨x, y⟩ = false) (w : World) :
    Calls Try.prog 30 #[.agg #[.slice X x.t.length ca, .int .i64 x.k, .slice Y y.t.length cb, .int .i64 y.k], .agg #[.int .i64 m, .int .i64 n]] w fun e w' => ∃ v, e = .returned (.tuple #[v, .int .i64 (checkL ⟨x, y⟩)]) ∧ RetL w' w.heap.size (crashL ⟨x, y⟩ m n) v ∧ Below w.heap.size w w' := by
  obtain ⟨E1, E2⟩ := crash_bad (m := m) (n := n) h
  rw [E1, E2]
  have EE := Lib.hid E1
  clear E1 E2
  go_enter Try.func30, Try.ntmps30
  go_wp2_with fail
  refine (lCheck x y X ca Y cb _).mono ?_
  rintro e w1 ⟨rfl, hB1⟩
  rw [EE.out]
  have hL := ((Blk.new w 70 #[.slice X x.t.length ca, .int .i64 x.k, .slice Y y.t.length cb, .int .i64 y.k]).alloc (.cells #[.int .i64 m, .int .i64 n] 73)).alloc (.cells #[.slice none 0 0, .int .i64 0, .slice none 0 0, .int .i64 0] 70) |>.below hB1 (by simp; omega)
  have hA := (blk1 w 73 #[.int .i64 m, .int .i64 n] (o := .cells #[.slice X x.t.length ca, .int .i64 x.k, .slice Y y.t.length cb, .int .i64 y.k] 70)).alloc (.cells #[.slice none 0 0, .int .i64 0, .slice none 0 0, .int .i64 0] 70) |>.below hB1 (by simp)
  have hZ := (blk2 w 70 #[.slice none 0 0, .int .i64 0, .slice none 0 0, .int .i64 0] (o := .cells #[.slice X x.t.length ca, .int .i64 x.k, .slice Y y.t.length cb, .int .i64 y.k] 70) (o' := .cells #[.int .i64 m, .int .i64 n] 73)).below hB1 (by simp)
  have hB := below_up (below_alloc (below_alloc (below_alloc (Below.refl _ _)))) hB1
  clear hB1
  have z0 : w1.cell? ⟨w.heap.size + 1 + 1, 0, none⟩ = some (.slice none 0 0) := hZ.cell 0
  have z1 : w1.cell? ⟨w.heap.size + 1 + 1, 1, none⟩ = some (.int .i64 0) := hZ.cell 1
  have z2 : w1.cell? ⟨w.heap.size + 1 + 1, 2, none⟩ = some (.slice none 0 0) := hZ.cell 2
  have z3 : w1.cell? ⟨w.heap.size + 1 + 1, 3, none⟩ = some (.int .i64 0) := hZ.cell 3
  have zf0 := hZ.frozen 0
  have zf1 := hZ.frozen 1
  have zf2 := hZ.frozen 2
  have zf3 := hZ.frozen 3
  have HH := Lib.hid (And.intro hZ hB)
  clear hL hA hZ hB
  go_wp2_with fail
  have hK4 := W4.blk HH.out.1 (.slice none 0 0) (.int .i64 0) (.slice none 0 0) (.int .i64 0)
  have hB4 := W4.below (g := w.heap.size + 1 + 1) HH.out.2 (by omega) (.slice none 0 0) (.int .i64 0) (.slice none 0 0) (.int .i64 0)
  rw [show ((((w1.setCell ⟨w.heap.size + 1 + 1, 0, none⟩ (.slice none 0 0)).setCell ⟨w.heap.size + 1 + 1, 1, none⟩ (.int .i64 0)).setCell ⟨w.heap.size + 1 + 1, 2, none⟩ (.slice none 0 0)).setCell ⟨w.heap.size + 1 + 1, 3, none⟩ (.int .i64 0)) = W4 w1 (w.heap.size + 1 + 1) (.slice none 0 0) (.int .i64 0) (.slice none 0 0) (.int .i64 0) from rfl]
  generalize W4 w1 (w.heap.size + 1 + 1) (.slice none 0 0) (.int .i64 0) (.slice none 0 0) (.int .i64 0) = w99 at *
  clear z0 z1 z2 z3 zf0 zf1 zf2 zf3
  have c0 := hK4.cell 0
  have c1 := hK4.cell 1
  have c2 := hK4.cell 2
  have c3 := hK4.cell 3
  simp only [List.getElem?_toArray, List.getElem?_cons_zero, List.getElem?_cons_succ] at c0 c1 c2 c3
  exact bodyPost_ret (v := .tuple #[.agg #[.slice none 0 0, .int .i64 0, .slice none 0 0, .int .i64 0], .int .i64 8]) (by simp [results, Try.results30, go_sem, c0, c1, c2, c3]) rfl ⟨_, rfl, RetL.zero, hB4⟩
/-- What Crash's box holds before its round k. -/
def CrRel (t u : List Int) (p q N M : Nat) (X' : Option Addr) (ca' : Nat) (Y' : Option Addr) (cb' : Nat) (g k : Nat) (w : World) : Prop :=
  (k = 0 ∧ Blk w g 70 #[.slice X' t.length ca', .int .i64 (p : Int), .slice Y' u.length cb', .int .i64 (q : Int)]) ∨ (k = 1 ∧ Blk w g 70 #[.slice X' N ca', .int .i64 (N : Int), .slice Y' u.length cb', .int .i64 (q : Int)]) ∨ (k = 2 ∧ Blk w g 70 #[.slice X' N ca', .int .i64 (N : Int), .slice Y' M cb', .int .i64 (M : Int)])
/-- The two rows. -/
def Rows2 (t u : List Int) (X' Y' : Option Addr) (B : Nat) (w : World) : Prop := TAt w X' t ∧ TAt w Y' u ∧ TFree w B X' t.length ∧ TFree w B Y' u.length
theorem Rows2.far {t u : List Int} {X' Y' : Option Addr} {B : Nat} {w : World} (h : Rows2 t u X' Y' B w) {p : Addr} (hp : p.block < B) (v : Value) : Rows2 t u X' Y' B (w.setCell p v) :=
  ⟨h.1.far h.2.2.1 hp v, h.2.1.far h.2.2.2 hp v, h.2.2.1.far hp v, h.2.2.2.far hp v⟩
theorem Rows2.drew {t u : List Int} {X' Y' : Option Addr} {B : Nat} {w : World} (h : Rows2 t u X' Y' B w) : Rows2 t u X' Y' B w.drew := h
set_option maxRecDepth 100000 in
set_option maxHeartbeats 4000000 in
theorem lCrashOk (t u : List Int) (p q : Nat) (X : Option Addr) (ca : Nat) (Y : Option Addr) (cb : Nat) (m n : Int) (ht : t.length ≤ 262144) (hu : u.length ≤ 262144) (hp : p ≤ t.length) (hq : q ≤ u.length) (hca : t.length ≤ ca) (hcb : u.length ≤ cb) (h : mayL ⟨⟨t, (p : Int)⟩, ⟨u, (q : Int)⟩⟩ = true) (w : World) (hX : TAt w X t) (hY : TAt w Y u) :
    Calls Try.prog 30 #[.agg #[.slice X t.length ca, .int .i64 (p : Int), .slice Y u.length cb, .int .i64 (q : Int)], .agg #[.int .i64 m, .int .i64 n]] w fun e w' => ∃ v, e = .returned (.tuple #[v, .int .i64 (checkL ⟨⟨t, (p : Int)⟩, ⟨u, (q : Int)⟩⟩)]) ∧ RetL w' w.heap.size (crashL ⟨⟨t, (p : Int)⟩, ⟨u, (q : Int)⟩⟩ m n) v ∧ Below w.heap.size w w' := by
  obtain ⟨E1, E2⟩ := crash_ok (m := m) (n := n) h
  rw [E1, E2]
  have EE := Lib.hid E1
  clear E1 E2
  have HX := Lib.hid (And.intro hX hY)
  clear hX hY
  show Calls Try.prog 30 #[.agg #[.slice X t.length ca, .int .i64 (p : Int), .slice Y u.length cb, .int .i64 (q : Int)], .agg #[.int .i64 m, .int .i64 n]] w fun e w' => ∃ v, e = .returned (.tuple #[v, .int .i64 0]) ∧ RetL w' w.heap.size ⟨leftA ⟨t, (p : Int)⟩ m, leftA ⟨u, (q : Int)⟩ n⟩ v ∧ Below w.heap.size w w'
  have hx1 := leftA_eq m hp
  have hy1 := leftA_eq n hq
  have hN := leftN_le m hp
  have hM := leftN_le n hq
  have f1 : IntKind.i64.wrap ((t.length : Int) - (p : Int)) = (t.length : Int) - (p : Int) := IntWalk.i64_in _ (by omega)
  have f2 : IntKind.i64.wrap ((p : Int) + min (max m 0) ((t.length : Int) - (p : Int))) = (leftN p t.length m : Int) := (IntWalk.i64_in _ (by omega)).trans (by unfold leftN; omega)
  have f3 : IntKind.i64.wrap ((u.length : Int) - (q : Int)) = (u.length : Int) - (q : Int) := IntWalk.i64_in _ (by omega)
  have f4 : IntKind.i64.wrap ((q : Int) + min (max n 0) ((u.length : Int) - (q : Int))) = (leftN q u.length n : Int) := (IntWalk.i64_in _ (by omega)).trans (by unfold leftN; omega)
  generalize leftA ⟨t, (p : Int)⟩ m = x' at *
  generalize leftA ⟨u, (q : Int)⟩ n = y' at *
  generalize leftN p t.length m = N at *
  generalize leftN q u.length n = M at *
  subst hx1 hy1
  have HF := Lib.hid (And.intro (And.intro f1 f2) (And.intro (And.intro f3 f4) trivial))
  have eN : (t.take N).length = N := by rw [List.length_take]; omega
  have eM : (u.take M).length = M := by rw [List.length_take]; omega
  have HE := Lib.hid (And.intro eN eM)
  clear eN eM f1 f2 f3 f4
  go_enter Try.func30, Try.ntmps30
  go_wp2_with fail
  refine (lCheck ⟨t, (p : Int)⟩ ⟨u, (q : Int)⟩ X ca Y cb _).mono ?_
  rintro e w1 ⟨rfl, hB1⟩
  rw [EE.out]
  have hL := ((Blk.new w 70 #[.slice X t.length ca, .int .i64 (p : Int), .slice Y u.length cb, .int .i64 (q : Int)]).alloc (.cells #[.int .i64 m, .int .i64 n] 73)).alloc (.cells #[.slice none 0 0, .int .i64 0, .slice none 0 0, .int .i64 0] 70) |>.below hB1 (by simp; omega)
  have hA := (blk1 w 73 #[.int .i64 m, .int .i64 n] (o := .cells #[.slice X t.length ca, .int .i64 (p : Int), .slice Y u.length cb, .int .i64 (q : Int)] 70)).alloc (.cells #[.slice none 0 0, .int .i64 0, .slice none 0 0, .int .i64 0] 70) |>.below hB1 (by simp)
  have hZ := (blk2 w 70 #[.slice none 0 0, .int .i64 0, .slice none 0 0, .int .i64 0] (o := .cells #[.slice X t.length ca, .int .i64 (p : Int), .slice Y u.length cb, .int .i64 (q : Int)] 70) (o' := .cells #[.int .i64 m, .int .i64 n] 73)).below hB1 (by simp)
  have hB := below_up (below_alloc (below_alloc (below_alloc (Below.refl _ _)))) hB1
  clear hB1
  have l0 : w1.cell? ⟨w.heap.size, 0, none⟩ = some (.slice X t.length ca) := hL.cell 0
  have l1 : w1.cell? ⟨w.heap.size, 1, none⟩ = some (.int .i64 (p : Int)) := hL.cell 1
  have l2 : w1.cell? ⟨w.heap.size, 2, none⟩ = some (.slice Y u.length cb) := hL.cell 2
  have l3 : w1.cell? ⟨w.heap.size, 3, none⟩ = some (.int .i64 (q : Int)) := hL.cell 3
  have b0 : w1.cell? ⟨w.heap.size + 1, 0, none⟩ = some (.int .i64 m) := hA.cell 0
  have b1 : w1.cell? ⟨w.heap.size + 1, 1, none⟩ = some (.int .i64 n) := hA.cell 1
  have H3 := Lib.hid (And.intro hZ (And.intro hB (And.intro hA hL)))
  clear hL hA hZ hB
  go_wp2_with fail
  refine (lTwin ⟨t, (p : Int)⟩ ⟨u, (q : Int)⟩ X ca Y cb (by show t.length ≤ _; omega) (by show u.length ≤ _; omega) _ (HX.out.1.up H3.out.2.1) (HX.out.2.up H3.out.2.1)).mono ?_
  rintro e w4 ⟨X', ca', Y', cb', rfl, hO, hP, _, hB4⟩
  have hZ4 := H3.out.1.below hB4 H3.out.1.lt
  have hA4 := H3.out.2.2.1.below hB4 H3.out.2.2.1.lt
  have hL4 := H3.out.2.2.2.below hB4 H3.out.2.2.2.lt
  have hB5 := below_up H3.out.2.1 hB4
  have hcx : t.length ≤ ca' := own_cap hO
  have hcy : u.length ≤ cb' := own_cap hP
  have hRows : Rows2 t u X' Y' w1.heap.size w4 := ⟨TOwn.at_ hO, TOwn.at_ hP, TOwn.free hO, TOwn.free hP⟩
  have hs : w.heap.size + 1 + 1 < w1.heap.size := H3.out.1.lt
  have hs9 := H3.out.2.1.size
  have m0 : w4.cell? ⟨w.heap.size, 0, none⟩ = some (.slice X t.length ca) := hL4.cell 0
  have m1 : w4.cell? ⟨w.heap.size, 1, none⟩ = some (.int .i64 (p : Int)) := hL4.cell 1
  have m2 : w4.cell? ⟨w.heap.size, 2, none⟩ = some (.slice Y u.length cb) := hL4.cell 2
  have m3 : w4.cell? ⟨w.heap.size, 3, none⟩ = some (.int .i64 (q : Int)) := hL4.cell 3
  have mf0 := hL4.frozen 0
  have mf1 := hL4.frozen 1
  have mf2 := hL4.frozen 2
  have mf3 := hL4.frozen 3
  have H4 := Lib.hid (And.intro hZ4 (And.intro hA4 (And.intro hL4 (And.intro hB5 hRows))))
  clear hO hP hB4 hZ4 hA4 hL4 hB5 hRows H3 l0 l1 l2 l3 b0 b1
  go_upto_region 5 with fail
  have hK5 := W4.blk H4.out.2.2.1 (.slice X' t.length ca') (.int .i64 (p : Int)) (.slice Y' u.length cb') (.int .i64 (q : Int))
  have hB5 := W4.below (g := w.heap.size) H4.out.2.2.2.1 (Nat.le_refl _) (.slice X' t.length ca') (.int .i64 (p : Int)) (.slice Y' u.length cb') (.int .i64 (q : Int))
  have hA5 := W4.far (g := w.heap.size) H4.out.2.1 (by omega) (.slice X' t.length ca') (.int .i64 (p : Int)) (.slice Y' u.length cb') (.int .i64 (q : Int))
  have hZ5 := W4.far (g := w.heap.size) H4.out.1 (by omega) (.slice X' t.length ca') (.int .i64 (p : Int)) (.slice Y' u.length cb') (.int .i64 (q : Int))
  have hR5 := (((H4.out.2.2.2.2.far (p := ⟨w.heap.size, 0, none⟩) (by show w.heap.size < _; omega) (.slice X' t.length ca')).far (p := ⟨w.heap.size, 1, none⟩) (by show w.heap.size < _; omega) (.int .i64 (p : Int))).far (p := ⟨w.heap.size, 2, none⟩) (by show w.heap.size < _; omega) (.slice Y' u.length cb')).far (p := ⟨w.heap.size, 3, none⟩) (by show w.heap.size < _; omega) (.int .i64 (q : Int))
  change Rows2 t u X' Y' w1.heap.size (W4 w4 w.heap.size (.slice X' t.length ca') (.int .i64 (p : Int)) (.slice Y' u.length cb') (.int .i64 (q : Int))) at hR5
  clear m0 m1 m2 m3 mf0 mf1 mf2 mf3
  rw [show ((((w4.setCell ⟨w.heap.size, 0, none⟩ (.slice X' t.length ca')).setCell ⟨w.heap.size, 1, none⟩ (.int .i64 (p : Int))).setCell ⟨w.heap.size, 2, none⟩ (.slice Y' u.length cb')).setCell ⟨w.heap.size, 3, none⟩ (.int .i64 (q : Int))) = W4 w4 (w.heap.size) (.slice X' t.length ca') (.int .i64 (p : Int)) (.slice Y' u.length cb') (.int .i64 (q : Int)) from rfl]
  generalize W4 w4 (w.heap.size) (.slice X' t.length ca') (.int .i64 (p : Int)) (.slice Y' u.length cb') (.int .i64 (q : Int)) = w5 at *
  clear H4
  go_wp2_with fail
  go_loopw [7, 8, 17] (fun _ _ i wr => ∃ k : Nat, k ≤ 2 ∧ i = .int .i64 k ∧ Hid (CrRel t u p q N M X' ca' Y' cb' w.heap.size k wr) ∧ Hid (Below w.heap.size w wr) ∧ Hid (Blk wr (w.heap.size + 1) 73 #[.int .i64 m, .int .i64 n]) ∧ Hid (Blk wr (w.heap.size + 1 + 1) 70 #[.slice none 0 0, .int .i64 0, .slice none 0 0, .int .i64 0]) ∧ Hid (Rows2 t u X' Y' w1.heap.size wr))
    (fun _ _ i _ => 2 - (intOf i).toNat)
  case atStart => exact ⟨0, by omega, rfl, .inl ⟨rfl, hK5⟩, hB5, hA5, hZ5, hR5⟩
  case round =>
    obtain ⟨k, hk, rfl, hR, hB, hA, hZ, hRR⟩ := hrel
    clear hK5 hB5 hA5 hZ5 hR5
    rcases hR.out with ⟨rfl, hK⟩ | ⟨rfl, hK⟩ | ⟨rfl, hK⟩
    · have HK := Lib.hid hK
      have k0 : wr.cell? ⟨w.heap.size, 0, none⟩ = some (.slice X' t.length ca') := HK.out.cell 0
      have k1 : wr.cell? ⟨w.heap.size, 1, none⟩ = some (.int .i64 (p : Int)) := HK.out.cell 1
      have k2 : wr.cell? ⟨w.heap.size, 2, none⟩ = some (.slice Y' u.length cb') := HK.out.cell 2
      have k3 : wr.cell? ⟨w.heap.size, 3, none⟩ = some (.int .i64 (q : Int)) := HK.out.cell 3
      have kf := HK.out.frozen 0
      have kg := HK.out.frozen 1
      have kp : wr.cell? ⟨w.heap.size + 1, 0, none⟩ = some (.int .i64 m) := hA.out.cell 0
      have hs3 : w.heap.size < wr.heap.size := HK.out.lt
      have g1 := HF.out.1.1
      have g2 := HF.out.1.2
      have g4 : (if m < 0 then (0 : Int) else m) = max m 0 := by rw [Int.max_def]; split <;> split <;> omega
      have g5 : (if (t.length : Int) - (p : Int) < max m 0 then (t.length : Int) - (p : Int) else max m 0) = min (max m 0) ((t.length : Int) - (p : Int)) := by rw [Int.min_def]; split <;> split <;> omega
      have g3 : N ≤ ca' := by omega
      clear hR hK
      go_wp2_with fail
      refine still_tail 28 (by kernel_rfl) (by kernel_rfl) ?_
      simp only [List.take_succ_cons, List.take_zero, List.drop_succ_cons, List.drop_zero]
      repeat still_step
      refine wpStill_nil ?_
      clear g1 g2 g4 g5
      go_wp2_with fail
      go_roundw
      case measure => simp [intOf]
      have hK4 : Blk ((wr.setCell ⟨w.heap.size, 0, none⟩ (.slice X' N ca')).setCell ⟨w.heap.size, 1, none⟩ (.int .i64 (N : Int))) w.heap.size 70 #[.slice X' N ca', .int .i64 (N : Int), .slice Y' u.length cb', .int .i64 (q : Int)] := (HK.out.set_ 0 _).set_ 1 _
      have hB4 := ((hB.out.setCell (p := ⟨w.heap.size, 0, none⟩) (Nat.le_refl _) (.slice X' N ca')).setCell (p := ⟨w.heap.size, 1, none⟩) (Nat.le_refl _) (.int .i64 (N : Int)))
      have hA4 := ((hA.out.far (p := ⟨w.heap.size, 0, none⟩) (by simp) (.slice X' N ca')).far (p := ⟨w.heap.size, 1, none⟩) (by simp) (.int .i64 (N : Int)))
      have hZ4 := ((hZ.out.far (p := ⟨w.heap.size, 0, none⟩) (by simp <;> omega) (.slice X' N ca')).far (p := ⟨w.heap.size, 1, none⟩) (by simp <;> omega) (.int .i64 (N : Int)))
      have hR4 := ((hRR.out.far (p := ⟨w.heap.size, 0, none⟩) (by show w.heap.size < _; omega) (.slice X' N ca')).far (p := ⟨w.heap.size, 1, none⟩) (by show w.heap.size < _; omega) (.int .i64 (N : Int)))
      exact ⟨1, by omega, rfl, .inr (.inl ⟨rfl, hK4.drew⟩), hB4.drew, hA4.drew, hZ4.drew, hR4.drew⟩
    · have HK := Lib.hid hK
      have k0 : wr.cell? ⟨w.heap.size, 0, none⟩ = some (.slice X' N ca') := HK.out.cell 0
      have k1 : wr.cell? ⟨w.heap.size, 1, none⟩ = some (.int .i64 (N : Int)) := HK.out.cell 1
      have k2 : wr.cell? ⟨w.heap.size, 2, none⟩ = some (.slice Y' u.length cb') := HK.out.cell 2
      have k3 : wr.cell? ⟨w.heap.size, 3, none⟩ = some (.int .i64 (q : Int)) := HK.out.cell 3
      have kf := HK.out.frozen 2
      have kg := HK.out.frozen 3
      have kp : wr.cell? ⟨w.heap.size + 1, 1, none⟩ = some (.int .i64 n) := hA.out.cell 1
      have hs3 : w.heap.size < wr.heap.size := HK.out.lt
      have g1 := HF.out.2.1.1
      have g2 := HF.out.2.1.2
      have g4 : (if n < 0 then (0 : Int) else n) = max n 0 := by rw [Int.max_def]; split <;> split <;> omega
      have g5 : (if (u.length : Int) - (q : Int) < max n 0 then (u.length : Int) - (q : Int) else max n 0) = min (max n 0) ((u.length : Int) - (q : Int)) := by rw [Int.min_def]; split <;> split <;> omega
      have g3 : M ≤ cb' := by omega
      clear hR hK
      go_wp2_with fail
      refine still_tail 28 (by kernel_rfl) (by kernel_rfl) ?_
      simp only [List.take_succ_cons, List.take_zero, List.drop_succ_cons, List.drop_zero]
      repeat still_step
      refine wpStill_nil ?_
      clear g1 g2 g4 g5
      go_wp2_with fail
      go_roundw
      case measure => simp [intOf]
      have hK4 : Blk ((wr.setCell ⟨w.heap.size, 2, none⟩ (.slice Y' M cb')).setCell ⟨w.heap.size, 3, none⟩ (.int .i64 (M : Int))) w.heap.size 70 #[.slice X' N ca', .int .i64 (N : Int), .slice Y' M cb', .int .i64 (M : Int)] := (HK.out.set_ 2 _).set_ 3 _
      have hB4 := ((hB.out.setCell (p := ⟨w.heap.size, 2, none⟩) (Nat.le_refl _) (.slice Y' M cb')).setCell (p := ⟨w.heap.size, 3, none⟩) (Nat.le_refl _) (.int .i64 (M : Int)))
      have hA4 := ((hA.out.far (p := ⟨w.heap.size, 2, none⟩) (by simp) (.slice Y' M cb')).far (p := ⟨w.heap.size, 3, none⟩) (by simp) (.int .i64 (M : Int)))
      have hZ4 := ((hZ.out.far (p := ⟨w.heap.size, 2, none⟩) (by simp <;> omega) (.slice Y' M cb')).far (p := ⟨w.heap.size, 3, none⟩) (by simp <;> omega) (.int .i64 (M : Int)))
      have hR4 := ((hRR.out.far (p := ⟨w.heap.size, 2, none⟩) (by show w.heap.size < _; omega) (.slice Y' M cb')).far (p := ⟨w.heap.size, 3, none⟩) (by show w.heap.size < _; omega) (.int .i64 (M : Int)))
      exact ⟨2, by omega, rfl, .inr (.inr ⟨rfl, hK4.drew⟩), hB4.drew, hA4.drew, hZ4.drew, hR4.drew⟩
    · have HK := Lib.hid hK
      have y0 : wr.cell? ⟨w.heap.size, 0, none⟩ = some (.slice X' N ca') := HK.out.cell 0
      have y1 : wr.cell? ⟨w.heap.size, 1, none⟩ = some (.int .i64 (N : Int)) := HK.out.cell 1
      have y2 : wr.cell? ⟨w.heap.size, 2, none⟩ = some (.slice Y' M cb') := HK.out.cell 2
      have y3 : wr.cell? ⟨w.heap.size, 3, none⟩ = some (.int .i64 (M : Int)) := HK.out.cell 3
      have z0 : wr.cell? ⟨w.heap.size + 1 + 1, 0, none⟩ = some (.slice none 0 0) := hZ.out.cell 0
      have z1 : wr.cell? ⟨w.heap.size + 1 + 1, 1, none⟩ = some (.int .i64 0) := hZ.out.cell 1
      have z2 : wr.cell? ⟨w.heap.size + 1 + 1, 2, none⟩ = some (.slice none 0 0) := hZ.out.cell 2
      have z3 : wr.cell? ⟨w.heap.size + 1 + 1, 3, none⟩ = some (.int .i64 0) := hZ.out.cell 3
      have zf0 := hZ.out.frozen 0
      have zf1 := hZ.out.frozen 1
      have zf2 := hZ.out.frozen 2
      have zf3 := hZ.out.frozen 3
      have hs0 : w.heap.size + 1 + 1 < wr.heap.size := hZ.out.lt
      clear hR hK
      go_wp2_with fail
      have hK4 := W4.blk hZ.out (.slice X' N ca') (.int .i64 (N : Int)) (.slice Y' M cb') (.int .i64 (M : Int))
      have hB4 := W4.below (g := w.heap.size + 1 + 1) hB.out (by omega) (.slice X' N ca') (.int .i64 (N : Int)) (.slice Y' M cb') (.int .i64 (M : Int))
      have hR4 := (((hRR.out.far (p := ⟨w.heap.size + 1 + 1, 0, none⟩) hs (.slice X' N ca')).far (p := ⟨w.heap.size + 1 + 1, 1, none⟩) hs (.int .i64 (N : Int))).far (p := ⟨w.heap.size + 1 + 1, 2, none⟩) hs (.slice Y' M cb')).far (p := ⟨w.heap.size + 1 + 1, 3, none⟩) hs (.int .i64 (M : Int))
      change Rows2 t u X' Y' w1.heap.size (W4 wr (w.heap.size + 1 + 1) (.slice X' N ca') (.int .i64 (N : Int)) (.slice Y' M cb') (.int .i64 (M : Int))) at hR4
      rw [show ((((wr.setCell ⟨w.heap.size + 1 + 1, 0, none⟩ (.slice X' N ca')).setCell ⟨w.heap.size + 1 + 1, 1, none⟩ (.int .i64 (N : Int))).setCell ⟨w.heap.size + 1 + 1, 2, none⟩ (.slice Y' M cb')).setCell ⟨w.heap.size + 1 + 1, 3, none⟩ (.int .i64 (M : Int))) = W4 wr (w.heap.size + 1 + 1) (.slice X' N ca') (.int .i64 (N : Int)) (.slice Y' M cb') (.int .i64 (M : Int)) from rfl]
      generalize W4 wr (w.heap.size + 1 + 1) (.slice X' N ca') (.int .i64 (N : Int)) (.slice Y' M cb') (.int .i64 (M : Int)) = w9 at *
      clear hZ hB hRR hA HK HX z0 z1 z2 z3 zf0 zf1 zf2 zf3 y0 y1 y2 y3
      have c0 := hK4.cell 0
      have c1 := hK4.cell 1
      have c2 := hK4.cell 2
      have c3 := hK4.cell 3
      simp only [List.getElem?_toArray, List.getElem?_cons_zero, List.getElem?_cons_succ] at c0 c1 c2 c3
      refine bodyPost_ret (v := .tuple #[.agg #[.slice X' N ca', .int .i64 (N : Int), .slice Y' M cb', .int .i64 (M : Int)], .int .i64 0]) (by simp [results, Try.results30, go_sem, c0, c1, c2, c3]) rfl ⟨_, rfl, ?_, hB4⟩
      have eN := HE.out.1
      have eM := HE.out.2
      refine ⟨X', ca', Y', cb', ?_, hR4.1.take N, hR4.2.1.take M, (hR4.2.2.1.less hs9).take ?_, (hR4.2.2.2.less hs9).take ?_⟩
      · show _ = Value.agg #[Value.slice X' (t.take N).length ca', Value.int .i64 (N : Int), Value.slice Y' (u.take M).length cb', Value.int .i64 (M : Int)]
        rw [eN, eM]
      · show (t.take N).length ≤ t.length
        omega
      · show (u.take M).length ≤ u.length
        omega
end Go.Proofs.Ytfdldbfjeamlcaa.LogCrash
