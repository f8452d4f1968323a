/- Several texts joined: The walk of LogNames. No conditions but those named. -/
import Derived.BigQuiet
import Derived.Deep.QuietTactic
import Derived.Deep.DeepCutAuto
import Derived.Lib.SlBytesConst
import Derived.Test.YtfdldbfjeamlcaaH18
import Derived.Test.YtfdldbfjeamlcaaH17
import Derived.Test.YtfdldbfjeamlcaaH19
/-! The walk of LogNames. No conditions but those named. -/
namespace Go.Proofs.Ytfdldbfjeamlcaa.LogNamesW
open Go.RowKit MarkMath Mem RecMem RecByte RecNum RecEach RecMath RecCod RecVal RecSame RecWr0 RecRecC RecRead RecAll LogFour LogJoin LogWrap LogFrm LogAllV LogPlain LogAlive LogMath LogProg LogLeft LogCrash RecAlive2
set_option linter.unusedVariables false
set_option linter.unusedSimpArgs false

theorem fr_x : fr [1, 0, 1, 0, 0, 0, 0, 0] 9 0 = [(-1, RV.z)] := fr_big (by decide) (by decide +kernel)
theorem fr_y : fr [0, 0, 1, 0, 0, 0, 0, 0] 9 0 = [] := fr_cut (by decide) (by decide +kernel) (by decide +kernel)
theorem txt_8 (w : World) (t : Bs) (cs : Array Value) (ht : t.map (Value.int .u8) = cs.toList) (fr : Nat × Nat := (0, 0)) : TxtAt (w.alloc (.cells cs 5 fr)) (some ⟨w.heap.size, 0, none⟩) t := fun i x hi => by
  refine ⟨w.heap.size, 0, rfl, by simp, ?_⟩
  rw [Nat.zero_add, cell_of_row _ w.heap.size i cs 5 fr (heap_alloc_new w _)]
  have : (t.map (Value.int .u8))[i]? = some (.int .u8 x) := by rw [List.getElem?_map, hi]; rfl
  rw [ht] at this
  simpa using this
theorem all_x (w : World) : Calls Try.prog 39 #[.slice (some ⟨w.heap.size, 0, none⟩) 8 8] (w.alloc (.cells #[.int .u8 1, .int .u8 0, .int .u8 1, .int .u8 0, .int .u8 0, .int .u8 0, .int .u8 0, .int .u8 0] 5)) fun e w' => e = .returned (.tuple #[.slice none 0 0, .int .i64 0, .int .i64 290]) ∧ Below w.heap.size w w' := by
  have h := all_any (some ⟨w.heap.size, 0, none⟩) 8 [1, 0, 1, 0, 0, 0, 0, 0] (by unfold Oct; decide) (by decide) (by decide) (by decide) _ (txt_8 w [1, 0, 1, 0, 0, 0, 0, 0] #[.int .u8 1, .int .u8 0, .int .u8 1, .int .u8 0, .int .u8 0, .int .u8 0, .int .u8 0, .int .u8 0] rfl)
  unfold AllPost at h
  rw [show ([1, 0, 1, 0, 0, 0, 0, 0] : Bs).length = 8 from rfl, fr_x] at h
  refine h.mono ?_
  rintro e w' ⟨⟨hn, _⟩ | ⟨_, rfl⟩, hB⟩
  · exact absurd (by decide) (hn (-1, RV.z) (by simp))
  · exact ⟨rfl, (below_alloc (Below.refl _ w)).trans (hB.mono (by simp))⟩
theorem all_y (w : World) : Calls Try.prog 39 #[.slice (some ⟨w.heap.size, 0, none⟩) 8 8] (w.alloc (.cells #[.int .u8 0, .int .u8 0, .int .u8 1, .int .u8 0, .int .u8 0, .int .u8 0, .int .u8 0, .int .u8 0] 5)) fun e w' => (∃ V c, e = .returned (.tuple #[.slice V 0 c, .int .i64 0, .int .i64 0])) ∧ Below w.heap.size w w' := by
  have h := all_any (some ⟨w.heap.size, 0, none⟩) 8 [0, 0, 1, 0, 0, 0, 0, 0] (by unfold Oct; decide) (by decide) (by decide) (by decide) _ (txt_8 w [0, 0, 1, 0, 0, 0, 0, 0] #[.int .u8 0, .int .u8 0, .int .u8 1, .int .u8 0, .int .u8 0, .int .u8 0, .int .u8 0, .int .u8 0] rfl)
  unfold AllPost at h
  rw [show ([0, 0, 1, 0, 0, 0, 0, 0] : Bs).length = 8 from rfl, fr_y] at h
  refine h.mono ?_
  rintro e w' ⟨⟨_, V, c, rfl, _⟩ | ⟨⟨p, hp, _⟩, _⟩, hB⟩
  · exact ⟨⟨V, c, rfl⟩, (below_alloc (Below.refl _ w)).trans (hB.mono (by simp))⟩
  · simp at hp
theorem mayL_len {x y : AV} (h : mayL ⟨x, y⟩ = true) : x.t.length ≤ 262144 ∧ y.t.length ≤ 262144 ∧ 0 ≤ x.k ∧ x.k ≤ (x.t.length : Int) ∧ 0 ≤ y.k ∧ y.k ≤ (y.t.length : Int) := by
  simp [mayL, mayA] at h
  omega
theorem lCrash (x y : AV) (X : Option Addr) (ca : Nat) (Y : Option Addr) (cb : Nat) (m n : Int) (hca : x.t.length ≤ ca) (hcb : y.t.length ≤ cb) (w : World) (hX : TAt w X x.t) (hY : TAt w Y y.t) :
    Calls Try.prog 30 #[.agg #[.slice X x.t.length ca, .int .i64 x.k, .slice Y y.t.length cb, .int .i64 y.k], .agg #[.int .i64 m, .int .i64 n]] w fun e w' => ∃ v, e = .returned (.tuple #[v, .int .i64 (checkL ⟨x, y⟩)]) ∧ RetL w' w.heap.size (crashL ⟨x, y⟩ m n) v ∧ Below w.heap.size w w' := by
  cases h : mayL ⟨x, y⟩
  · exact lCrashBad x y X ca Y cb m n h w
  · obtain ⟨l1, l2, l3, l4, l5, l6⟩ := mayL_len h
    obtain ⟨t, k⟩ := x
    obtain ⟨u, q⟩ := y
    obtain ⟨p, rfl⟩ := Int.eq_ofNat_of_zero_le l3
    obtain ⟨q, rfl⟩ := Int.eq_ofNat_of_zero_le l5
    exact lCrashOk t u p q X ca Y cb m n l1 l2 (by simpa using l4) (by simpa using l6) hca hcb h w hX hY
abbrev lN : LV := ⟨⟨[], 0⟩, ⟨[97, 98, 99, 100], 1⟩⟩
theorem crash_of (Y : Option Addr) (n : Int) (t : Bs) (k : Int) (hk : crashL lN 0 n = ⟨⟨[], 0⟩, ⟨t, k⟩⟩) (w : World) (hY : TAt w Y [97, 98, 99, 100]) :
    Calls Try.prog 30 #[.agg #[.slice none 0 0, .int .i64 0, .slice Y 4 4, .int .i64 1], .agg #[.int .i64 0, .int .i64 n]] w fun e w' => (∃ X ca Z cb, e = .returned (.tuple #[.agg #[.slice X 0 ca, .int .i64 0, .slice Z t.length cb, .int .i64 k], .int .i64 0]) ∧ TAt w' Z t) ∧ Below w.heap.size w w' := by
  refine (lCrash ⟨[], 0⟩ ⟨[97, 98, 99, 100], 1⟩ none 0 Y 4 0 n (Nat.le_refl _) (Nat.le_refl _) w TAt.nil hY).mono ?_
  rw [hk]
  rintro e w' ⟨v, rfl, ⟨X, ca, Z, cb, rfl, _, h2, _⟩, hB⟩
  exact ⟨⟨X, ca, Z, cb, rfl, h2⟩, hB⟩
theorem crash_2 : crashL lN 0 2 = ⟨⟨[], 0⟩, ⟨[97, 98, 99], 3⟩⟩ := by kernel_rfl
theorem crash_9 : crashL lN 0 9 = ⟨⟨[], 0⟩, ⟨[97, 98, 99, 100], 4⟩⟩ := by kernel_rfl
set_option maxRecDepth 100000 in
set_option maxHeartbeats 4000000 in
theorem names29 (w : World) : Calls Try.prog 13 #[] w fun e w' => e = .returned (.bool true) ∧ Below w.heap.size w w' := by
  have hcv := Lib.run_convert_bytes_const (P := Try.prog) (w.alloc (.cells #[.slice none 0 0, .int .i64 0, .slice none 0 0, .int .i64 0] 70)) 37 5 #[.int .u8 97, .int .u8 98, .int .u8 99, .int .u8 100] 4 4 Try.underlying37 Try.underlying5
  rw [World.size_alloc] at hcv
  go_enter Try.func13, Try.ntmps13
  go_wp2_with fail
  clear hcv
  have K0 := Lib.hid (show Blk ((w.alloc (.cells #[.slice none 0 0, .int .i64 0, .slice (some ⟨w.heap.size + 1, 0, none⟩) 4 4, .int .i64 1] 70)).alloc (.cells #[.int .u8 97, .int .u8 98, .int .u8 99, .int .u8 100] 5 (4, 5))) w.heap.size 70 #[.slice none 0 0, .int .i64 0, .slice (some ⟨w.heap.size + 1, 0, none⟩) 4 4, .int .i64 1] from (Blk.new w _ _).alloc _)
  have T0 := Lib.hid (show TAt ((w.alloc (.cells #[.slice none 0 0, .int .i64 0, .slice (some ⟨w.heap.size + 1, 0, none⟩) 4 4, .int .i64 1] 70)).alloc (.cells #[.int .u8 97, .int .u8 98, .int .u8 99, .int .u8 100] 5 (4, 5))) (some ⟨w.heap.size + 1, 0, none⟩) [97, 98, 99, 100] from by
    have h := txt_8 (w.alloc (.cells #[.slice none 0 0, .int .i64 0, .slice (some ⟨w.heap.size + 1, 0, none⟩) 4 4, .int .i64 1] 70)) [97, 98, 99, 100] #[.int .u8 97, .int .u8 98, .int .u8 99, .int .u8 100] rfl (4, 5)
    rw [World.size_alloc] at h
    exact h)
  have B0 := Lib.hid (below_alloc (o := .cells #[.int .u8 97, .int .u8 98, .int .u8 99, .int .u8 100] 5 (4, 5)) (below_alloc (o := .cells #[.slice none 0 0, .int .i64 0, .slice (some ⟨w.heap.size + 1, 0, none⟩) 4 4, .int .i64 1] 70) (Below.refl w.heap.size w)))
  generalize (w.alloc (.cells #[.slice none 0 0, .int .i64 0, .slice (some ⟨w.heap.size + 1, 0, none⟩) 4 4, .int .i64 1] 70)).alloc (.cells #[.int .u8 97, .int .u8 98, .int .u8 99, .int .u8 100] 5 (4, 5)) = W0 at *
  refine (crash_of (some ⟨w.heap.size + 1, 0, none⟩) 2 _ _ crash_2 W0 T0.out).mono ?_
  rintro e w1 ⟨⟨X1, ca1, Z1, cb1, rfl, hT1⟩, hB1⟩
  have K1 := K0.out.below hB1 K0.out.lt
  have T1 := Lib.hid (And.intro (T0.out.up hB1) (And.intro hT1 (below_up B0.out hB1)))
  have a0 : w1.cell? ⟨w.heap.size, 0, none⟩ = some (.slice none 0 0) := K1.cell 0
  have a1 : w1.cell? ⟨w.heap.size, 1, none⟩ = some (.int .i64 0) := K1.cell 1
  have a2 : w1.cell? ⟨w.heap.size, 2, none⟩ = some (.slice (some ⟨w.heap.size + 1, 0, none⟩) 4 4) := K1.cell 2
  have a3 : w1.cell? ⟨w.heap.size, 3, none⟩ = some (.int .i64 1) := K1.cell 3
  have hl1 := K1.lt
  clear K0 T0 B0 K1 hT1 hB1
  go_wp2_with fail
  have b1 : Below w1.heap.size w1 (w1.alloc (.cells #[.slice X1 0 ca1, .int .i64 0, .slice Z1 3 cb1, .int .i64 3] 70)) := below_alloc (Below.refl _ w1)
  have k1 : Blk (w1.alloc (.cells #[.slice X1 0 ca1, .int .i64 0, .slice Z1 3 cb1, .int .i64 3] 70)) w1.heap.size 70 #[.slice X1 0 ca1, .int .i64 0, .slice Z1 3 cb1, .int .i64 3] := Blk.new w1 _ _
  generalize w1.alloc (.cells #[.slice X1 0 ca1, .int .i64 0, .slice Z1 3 cb1, .int .i64 3] 70) = V1 at *
  have B1 := Lib.hid (And.intro (T1.out.1.up b1) (And.intro (T1.out.2.1.up b1) (And.intro (below_up T1.out.2.2 b1) k1)))
  clear b1 k1 T1 a0 a1 a2 a3
  obtain ⟨g1, hg1⟩ : ∃ n, n = w1.heap.size := ⟨_, rfl⟩
  rw [← hg1] at B1 ⊢
  clear hg1
  refine (crash_of (some ⟨w.heap.size + 1, 0, none⟩) 9 _ _ crash_9 V1 B1.out.1).mono ?_
  rintro e w2 ⟨⟨X2, ca2, Z2, cb2, rfl, hT2⟩, hB2⟩
  have T2 := Lib.hid (And.intro (B1.out.2.1.up hB2) (And.intro hT2 (And.intro (below_up B1.out.2.2.1 hB2) (B1.out.2.2.2.below hB2 B1.out.2.2.2.lt))))
  clear hT2 hB2 B1
  go_wp2_with fail
  have b2 : Below w2.heap.size w2 (w2.alloc (.cells #[.slice X2 0 ca2, .int .i64 0, .slice Z2 4 cb2, .int .i64 4] 70)) := below_alloc (Below.refl _ w2)
  have k2 : Blk (w2.alloc (.cells #[.slice X2 0 ca2, .int .i64 0, .slice Z2 4 cb2, .int .i64 4] 70)) w2.heap.size 70 #[.slice X2 0 ca2, .int .i64 0, .slice Z2 4 cb2, .int .i64 4] := Blk.new w2 _ _
  have s2 : (w2.alloc (.cells #[.slice X2 0 ca2, .int .i64 0, .slice Z2 4 cb2, .int .i64 4] 70)).heap.size = w2.heap.size + 1 := World.size_alloc _ _
  rw [← s2]
  clear s2
  generalize w2.alloc (.cells #[.slice X2 0 ca2, .int .i64 0, .slice Z2 4 cb2, .int .i64 4] 70) = V2 at *
  have B2 := Lib.hid (And.intro (T2.out.1.up b2) (And.intro (T2.out.2.1.up b2) (And.intro (below_up T2.out.2.2.1 b2) (And.intro (T2.out.2.2.2.below b2 T2.out.2.2.2.lt) k2))))
  clear b2 k2 T2
  obtain ⟨g2, hg2⟩ : ∃ n, n = w2.heap.size := ⟨_, rfl⟩
  rw [← hg2] at B2 ⊢
  clear hg2
  refine (all_x V2).mono ?_
  rintro e w3 ⟨rfl, hB3⟩
  have T3 := Lib.hid (And.intro (B2.out.1.up hB3) (And.intro (B2.out.2.1.up hB3) (And.intro (below_up B2.out.2.2.1 hB3) (And.intro (B2.out.2.2.2.1.below hB3 B2.out.2.2.2.1.lt) (B2.out.2.2.2.2.below hB3 B2.out.2.2.2.2.lt)))))
  clear hB3 B2
  go_wp2_with fail
  refine (all_y w3).mono ?_
  rintro e w4 ⟨⟨V4, c4, rfl⟩, hB4⟩
  have T4 := Lib.hid (And.intro (T3.out.1.up hB4) (And.intro (T3.out.2.1.up hB4) (And.intro (below_up T3.out.2.2.1 hB4) (And.intro (T3.out.2.2.2.1.below hB4 T3.out.2.2.2.1.lt) (T3.out.2.2.2.2.below hB4 T3.out.2.2.2.2.lt)))))
  clear hB4 T3
  go_wp2_with fail
  refine (alive29 w4).mono ?_
  rintro e w5 ⟨rfl, hB5⟩
  have T5 := Lib.hid (And.intro (T4.out.1.up hB5) (And.intro (T4.out.2.1.up hB5) (And.intro (below_up T4.out.2.2.1 hB5) (And.intro (T4.out.2.2.2.1.below hB5 T4.out.2.2.2.1.lt) (T4.out.2.2.2.2.below hB5 T4.out.2.2.2.2.lt)))))
  clear hB5 T4
  have q1 : w5.cell? ⟨g1, 2, none⟩ = some (.slice Z1 3 cb1) := T5.out.2.2.2.1.cell 2
  have q2 : w5.cell? ⟨g2, 2, none⟩ = some (.slice Z2 4 cb2) := T5.out.2.2.2.2.cell 2
  have kv1 := run_strOf (n := 3) (c := cb1) T5.out.1.reads
  have kv2 := run_strOf (n := 4) (c := cb2) T5.out.2.1.reads
  rw [show strOf [97, 98, 99] = ⟨#[97, 98, 99]⟩ from rfl] at kv1
  rw [show strOf [97, 98, 99, 100] = ⟨#[97, 98, 99, 100]⟩ from rfl] at kv2
  go_wp2_with fail
  go_ret
  exact ⟨rfl, T5.out.2.2.1⟩
end Go.Proofs.Ytfdldbfjeamlcaa.LogNamesW
