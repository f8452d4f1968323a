/- log.Do: the three deeds; where it answers with an error. -/
import Derived.BigQuiet
import Derived.Deep.QuietTactic
import Derived.Deep.RegionHeld3
import Derived.Deep.RegionWith
import Derived.Deep.DeepCutAuto
import Derived.Lib.SliceRun
import Derived.Lib.QuietBelow
import Derived.IntWalk
import Derived.ProofKit
import Derived.Test.YtfdldbfjeamlcaaRound
import Derived.Test.YtfdldbfjeamlcaaLogRDo
import Derived.Test.YtfdldbfjeamlcaaLogDeeds
namespace Go.Proofs.Ytfdldbfjeamlcaa.LogDo
open Go.RowKit Mem LogMath LogProg LogRef1 LogRef2 LogRDo LogDeeds
open Go.Sort (grow)
set_option linter.unusedVariables false
set_option linter.unusedSimpArgs false

set_option maxHeartbeats 2000000 in
theorem deed1_0 (g : Nat) (v0 v1 : Value) (T : Option Addr) (n ct : Nat) (w : World) (c0 : w.cell? ⟨g, 0, none⟩ = some v0) (c1 : w.cell? ⟨g, 1, none⟩ = some v1) (f0 : w.frozen? ⟨g, 0, none⟩ = false) (f1 : w.frozen? ⟨g, 1, none⟩ = false) :
    Calls Try.prog 92 #[.pointer (some ⟨g, 0, none⟩), .slice T n ct] w fun e w' => (∃ v, e = .returned v) ∧ w' = (w.setCell ⟨g, 0, none⟩ (.slice none 0 0)).setCell ⟨g, 1, none⟩ (.int .i64 0) := by
  go_enter Try.func92, Try.ntmps92
  go_wp2_with fail
  go_end0
  exact ⟨⟨_, rfl⟩, rfl⟩
set_option maxHeartbeats 2000000 in
theorem deed3_0 (g : Nat) (X : Option Addr) (m c : Nat) (v1 : Value) (T : Option Addr) (n ct : Nat) (w : World) (c0 : w.cell? ⟨g, 0, none⟩ = some (.slice X m c)) (c1 : w.cell? ⟨g, 1, none⟩ = some v1) (f1 : w.frozen? ⟨g, 1, none⟩ = false) :
    Calls Try.prog 94 #[.pointer (some ⟨g, 0, none⟩), .slice T n ct] w fun e w' => (∃ v, e = .returned v) ∧ w' = w.setCell ⟨g, 1, none⟩ (.int .i64 (m : Int)) := by
  go_enter Try.func94, Try.ntmps94
  go_wp2_with fail
  go_end0
  exact ⟨⟨_, rfl⟩, rfl⟩
set_option maxHeartbeats 2000000 in
theorem deed2_0 (g B : Nat) (X : Option Addr) (c : Nat) (t : List Int) (T : Option Addr) (tx : List Int) (ct : Nat) (hl : t.length + tx.length ≤ 262144) (w : World) (hg : g < B) (hBw : B ≤ w.heap.size) (hO : w.ownsRow B 5 1 (.slice X t.length c) t.length (t.map (Value.int .u8))) (hT : TAt w T tx) (cs : Array Value) (bt : TypeId) (hK : Blk w g bt cs) (hc : cs[0]? = some (.slice X t.length c)) :
    Calls Try.prog 93 #[.pointer (some ⟨g, 0, none⟩), .slice T tx.length ct] w fun e w' => (∃ v, e = .returned v) ∧ ∃ w2 X2 cz, w' = w2.setCell ⟨g, 0, none⟩ (.slice X2 (t.length + tx.length) cz) ∧ w.grownBy w2 (Value.slice X t.length c).ownBlock ∧ w2.ownsRow B 5 1 (.slice X2 (t.length + tx.length) cz) (t.length + tx.length) ((t ++ tx).map (Value.int .u8)) := by
  obtain ⟨i0, hi0, hz0, hz1, hz2⟩ := info_parts byte_info
  have HI := Lib.hid (And.intro hi0 (And.intro hz0 (And.intro hz1 hz2)))
  have HR := Lib.hid hT.reads
  have HO := Lib.hid (And.intro hO hK)
  have c0 : w.cell? ⟨g, 0, none⟩ = some (.slice X t.length c) := (hK.cell 0).trans hc
  clear hi0 hz0 hz1 hz2 hT hO hK
  go_enter Try.func93, Try.ntmps93
  go_wp2_with (at_builtin; refine wpList_append_any _ rfl (.tmp 8) (.tmp 9) _ rfl B 5 i0 (.int .u8 0) 1 1 Try.underlying37 HI.out.1 HI.out.2.1 HI.out.2.2.1 HI.out.2.2.2 rfl (by decide) (.slice X t.length c) t.length (t.map (Value.int .u8)) rfl HO.out.1 w.heap.size T tx.length ct (tx.map (Value.int .u8)) rfl HR.out (one_cells tx) (by simp only [maxLen]; omega) (by omega) hBw ?_; intro v1 w1 hown hg1 hat; rw [← List.map_append] at hown; obtain ⟨X2, cz, rfl⟩ := own_slice hown; have hK1 := HO.out.2.grown hg1 (fun e => own_ne HO.out.1 hg e.symm); have q0 : w1.cell? ⟨g, 0, none⟩ = some (.slice X t.length c) := (hK1.cell 0).trans hc; have f0 := hK1.frozen 0; have HH := Lib.hid (And.intro hown hg1); clear hown hg1 hat hK1)
  go_end0
  exact ⟨⟨_, rfl⟩, w1, X2, cz, rfl, HH.out.2, HH.out.1⟩
set_option maxHeartbeats 2000000 in
theorem deed1_2 (g : Nat) (v0 v1 : Value) (T : Option Addr) (n ct : Nat) (w : World) (c0 : w.cell? ⟨g, 2, none⟩ = some v0) (c1 : w.cell? ⟨g, 3, none⟩ = some v1) (f0 : w.frozen? ⟨g, 2, none⟩ = false) (f1 : w.frozen? ⟨g, 3, none⟩ = false) :
    Calls Try.prog 92 #[.pointer (some ⟨g, 2, none⟩), .slice T n ct] w fun e w' => (∃ v, e = .returned v) ∧ w' = (w.setCell ⟨g, 2, none⟩ (.slice none 0 0)).setCell ⟨g, 3, none⟩ (.int .i64 0) := by
  go_enter Try.func92, Try.ntmps92
  go_wp2_with fail
  go_end0
  exact ⟨⟨_, rfl⟩, rfl⟩
set_option maxHeartbeats 2000000 in
theorem deed3_2 (g : Nat) (X : Option Addr) (m c : Nat) (v1 : Value) (T : Option Addr) (n ct : Nat) (w : World) (c0 : w.cell? ⟨g, 2, none⟩ = some (.slice X m c)) (c1 : w.cell? ⟨g, 3, none⟩ = some v1) (f1 : w.frozen? ⟨g, 3, none⟩ = false) :
    Calls Try.prog 94 #[.pointer (some ⟨g, 2, none⟩), .slice T n ct] w fun e w' => (∃ v, e = .returned v) ∧ w' = w.setCell ⟨g, 3, none⟩ (.int .i64 (m : Int)) := by
  go_enter Try.func94, Try.ntmps94
  go_wp2_with fail
  go_end0
  exact ⟨⟨_, rfl⟩, rfl⟩
set_option maxHeartbeats 2000000 in
theorem deed2_2 (g B : Nat) (X : Option Addr) (c : Nat) (t : List Int) (T : Option Addr) (tx : List Int) (ct : Nat) (hl : t.length + tx.length ≤ 262144) (w : World) (hg : g < B) (hBw : B ≤ w.heap.size) (hO : w.ownsRow B 5 1 (.slice X t.length c) t.length (t.map (Value.int .u8))) (hT : TAt w T tx) (cs : Array Value) (bt : TypeId) (hK : Blk w g bt cs) (hc : cs[2]? = some (.slice X t.length c)) :
    Calls Try.prog 93 #[.pointer (some ⟨g, 2, none⟩), .slice T tx.length ct] w fun e w' => (∃ v, e = .returned v) ∧ ∃ w2 X2 cz, w' = w2.setCell ⟨g, 2, none⟩ (.slice X2 (t.length + tx.length) cz) ∧ w.grownBy w2 (Value.slice X t.length c).ownBlock ∧ w2.ownsRow B 5 1 (.slice X2 (t.length + tx.length) cz) (t.length + tx.length) ((t ++ tx).map (Value.int .u8)) := by
  obtain ⟨i0, hi0, hz0, hz1, hz2⟩ := info_parts byte_info
  have HI := Lib.hid (And.intro hi0 (And.intro hz0 (And.intro hz1 hz2)))
  have HR := Lib.hid hT.reads
  have HO := Lib.hid (And.intro hO hK)
  have c0 : w.cell? ⟨g, 2, none⟩ = some (.slice X t.length c) := (hK.cell 2).trans hc
  clear hi0 hz0 hz1 hz2 hT hO hK
  go_enter Try.func93, Try.ntmps93
  go_wp2_with (at_builtin; refine wpList_append_any _ rfl (.tmp 8) (.tmp 9) _ rfl B 5 i0 (.int .u8 0) 1 1 Try.underlying37 HI.out.1 HI.out.2.1 HI.out.2.2.1 HI.out.2.2.2 rfl (by decide) (.slice X t.length c) t.length (t.map (Value.int .u8)) rfl HO.out.1 w.heap.size T tx.length ct (tx.map (Value.int .u8)) rfl HR.out (one_cells tx) (by simp only [maxLen]; omega) (by omega) hBw ?_; intro v1 w1 hown hg1 hat; rw [← List.map_append] at hown; obtain ⟨X2, cz, rfl⟩ := own_slice hown; have hK1 := HO.out.2.grown hg1 (fun e => own_ne HO.out.1 hg e.symm); have q0 : w1.cell? ⟨g, 2, none⟩ = some (.slice X t.length c) := (hK1.cell 2).trans hc; have f0 := hK1.frozen 2; have HH := Lib.hid (And.intro hown hg1); clear hown hg1 hat hK1)
  go_end0
  exact ⟨⟨_, rfl⟩, w1, X2, cz, rfl, HH.out.2, HH.out.1⟩
set_option maxRecDepth 100000 in
set_option maxHeartbeats 4000000 in
theorem lDoBad (x y : AV) (X : Option Addr) (ca : Nat) (Y : Option Addr) (cb : Nat) (kd ar : Int) (T : Option Addr) (ct : Nat) (tx : List Int) (h : mayL ⟨x, y⟩ = false) (w : World) :
    Calls Try.prog 28 #[.agg #[.slice X x.t.length ca, .int .i64 x.k, .slice Y y.t.length cb, .int .i64 y.k], .agg #[.int .u8 kd, .int .i64 ar, .slice T tx.length ct]] w fun e w' => ∃ v, e = .returned (.tuple #[v, .int .i64 (doE ⟨x, y⟩ kd ar tx)]) ∧ RetL w' w.heap.size (doL ⟨x, y⟩ kd ar tx) v ∧ Below w.heap.size w w' := by
  obtain ⟨E1, E2⟩ := doE_bad (kd := kd) (ar := ar) (tx := tx) h
  rw [E1, E2]
  have EE := Lib.hid (check_bad h)
  clear E1 E2
  go_enter Try.func28, Try.ntmps28
  go_wp2_with fail
  refine (lCheck x y X ca Y cb _).mono ?_
  rintro e w1 ⟨rfl, hB1⟩
  rw [EE.out]
  have hL := ((Blk.new w 70 #[.slice X x.t.length ca, .int .i64 x.k, .slice Y y.t.length cb, .int .i64 y.k]).alloc (.cells #[.int .u8 kd, .int .i64 ar, .slice T tx.length ct] 72)).alloc (.cells #[.slice none 0 0, .int .i64 0, .slice none 0 0, .int .i64 0] 70) |>.below hB1 (by simp; omega)
  have hA := (blk1 w 72 #[.int .u8 kd, .int .i64 ar, .slice T tx.length ct] (o := .cells #[.slice X x.t.length ca, .int .i64 x.k, .slice Y y.t.length cb, .int .i64 y.k] 70)).alloc (.cells #[.slice none 0 0, .int .i64 0, .slice none 0 0, .int .i64 0] 70) |>.below hB1 (by simp)
  have hZ := (blk2 w 70 #[.slice none 0 0, .int .i64 0, .slice none 0 0, .int .i64 0] (o := .cells #[.slice X x.t.length ca, .int .i64 x.k, .slice Y y.t.length cb, .int .i64 y.k] 70) (o' := .cells #[.int .u8 kd, .int .i64 ar, .slice T tx.length ct] 72)).below hB1 (by simp)
  have hB := below_up (below_alloc (below_alloc (below_alloc (Below.refl _ _)))) hB1
  clear hB1
  have z0 : w1.cell? ⟨w.heap.size + 1 + 1, 0, none⟩ = some (.slice none 0 0) := hZ.cell 0
  have z1 : w1.cell? ⟨w.heap.size + 1 + 1, 1, none⟩ = some (.int .i64 0) := hZ.cell 1
  have z2 : w1.cell? ⟨w.heap.size + 1 + 1, 2, none⟩ = some (.slice none 0 0) := hZ.cell 2
  have z3 : w1.cell? ⟨w.heap.size + 1 + 1, 3, none⟩ = some (.int .i64 0) := hZ.cell 3
  have zf0 := hZ.frozen 0
  have zf1 := hZ.frozen 1
  have zf2 := hZ.frozen 2
  have zf3 := hZ.frozen 3
  have HH := Lib.hid (And.intro hZ hB)
  clear hL hA hZ hB
  go_wp2_with fail
  have hK4 := W4.blk HH.out.1 (.slice none 0 0) (.int .i64 0) (.slice none 0 0) (.int .i64 0)
  have hB4 := W4.below (g := w.heap.size + 1 + 1) HH.out.2 (by omega) (.slice none 0 0) (.int .i64 0) (.slice none 0 0) (.int .i64 0)
  rw [show ((((w1.setCell ⟨w.heap.size + 1 + 1, 0, none⟩ (.slice none 0 0)).setCell ⟨w.heap.size + 1 + 1, 1, none⟩ (.int .i64 0)).setCell ⟨w.heap.size + 1 + 1, 2, none⟩ (.slice none 0 0)).setCell ⟨w.heap.size + 1 + 1, 3, none⟩ (.int .i64 0)) = W4 w1 (w.heap.size + 1 + 1) (.slice none 0 0) (.int .i64 0) (.slice none 0 0) (.int .i64 0) from rfl]
  generalize W4 w1 (w.heap.size + 1 + 1) (.slice none 0 0) (.int .i64 0) (.slice none 0 0) (.int .i64 0) = w99 at *
  clear z0 z1 z2 z3 zf0 zf1 zf2 zf3
  have c0 := hK4.cell 0
  have c1 := hK4.cell 1
  have c2 := hK4.cell 2
  have c3 := hK4.cell 3
  simp only [List.getElem?_toArray, List.getElem?_cons_zero, List.getElem?_cons_succ] at c0 c1 c2 c3
  exact bodyPost_ret (v := .tuple #[.agg #[.slice none 0 0, .int .i64 0, .slice none 0 0, .int .i64 0], .int .i64 8]) (by simp [results, Try.results28, go_sem, c0, c1, c2, c3]) rfl ⟨_, rfl, RetL.zero, hB4⟩
set_option maxRecDepth 100000 in
set_option maxHeartbeats 4000000 in
theorem lDoArgA (x y : AV) (X : Option Addr) (ca : Nat) (Y : Option Addr) (cb : Nat) (kd ar : Int) (T : Option Addr) (ct : Nat) (tx : List Int) (h : mayL ⟨x, y⟩ = true) (hb : deedB kd = false) (w : World) :
    Calls Try.prog 28 #[.agg #[.slice X x.t.length ca, .int .i64 x.k, .slice Y y.t.length cb, .int .i64 y.k], .agg #[.int .u8 kd, .int .i64 ar, .slice T tx.length ct]] w fun e w' => ∃ v, e = .returned (.tuple #[v, .int .i64 2]) ∧ RetL w' w.heap.size LV.z v ∧ Below w.heap.size w w' := by
  have EE := Lib.hid (check_ok h)
  go_enter Try.func28, Try.ntmps28
  go_wp2_with fail
  refine (lCheck x y X ca Y cb _).mono ?_
  rintro e w1 ⟨rfl, hB1⟩
  rw [EE.out]
  have hL := ((Blk.new w 70 #[.slice X x.t.length ca, .int .i64 x.k, .slice Y y.t.length cb, .int .i64 y.k]).alloc (.cells #[.int .u8 kd, .int .i64 ar, .slice T tx.length ct] 72)).alloc (.cells #[.slice none 0 0, .int .i64 0, .slice none 0 0, .int .i64 0] 70) |>.below hB1 (by simp; omega)
  have hA := (blk1 w 72 #[.int .u8 kd, .int .i64 ar, .slice T tx.length ct] (o := .cells #[.slice X x.t.length ca, .int .i64 x.k, .slice Y y.t.length cb, .int .i64 y.k] 70)).alloc (.cells #[.slice none 0 0, .int .i64 0, .slice none 0 0, .int .i64 0] 70) |>.below hB1 (by simp)
  have hZ := (blk2 w 70 #[.slice none 0 0, .int .i64 0, .slice none 0 0, .int .i64 0] (o := .cells #[.slice X x.t.length ca, .int .i64 x.k, .slice Y y.t.length cb, .int .i64 y.k] 70) (o' := .cells #[.int .u8 kd, .int .i64 ar, .slice T tx.length ct] 72)).below hB1 (by simp)
  have hB := below_up (below_alloc (below_alloc (below_alloc (Below.refl _ _)))) hB1
  clear hB1
  have q0 : w1.cell? ⟨w.heap.size + 1, 0, none⟩ = some (.int .u8 kd) := hA.cell 0
  have q1 : w1.cell? ⟨w.heap.size + 1, 1, none⟩ = some (.int .i64 ar) := hA.cell 1
  have q2 : w1.cell? ⟨w.heap.size + 1, 2, none⟩ = some (.slice T tx.length ct) := hA.cell 2
  have H1 := Lib.hid (And.intro hL (And.intro hA (And.intro hZ hB)))
  have K0 : KeptL w1 [(⟨w.heap.size + 1, 0, none⟩, .int .u8 kd)] w1.drew := KeptL.drew ⟨Below.refl _ _, q0⟩
  clear hL hA hZ hB
  go_upto_region 4 with fail
  go_region_held3 (fun W => Below w1.heap.size w1 W ∧ W.cell? ⟨w.heap.size + 1, 0, none⟩ = some (.int .u8 kd)) (first | exact K0 | exact KeptL.alloc (fs := [(⟨w.heap.size + 1, 0, none⟩, .int .u8 kd)]) (by assumption) _ | exact KeptL.up (fs := [(⟨w.heap.size + 1, 0, none⟩, .int .u8 kd)]) (by assumption) (by assumption) | assumption) (first | (go_at_call 59; refine (deeds_any _).mono ?_; rintro e w2 ⟨bm, rfl, hDM, hB2⟩; have hlk := run_look hDM kd))
  have hBq : Below w1.heap.size w1 w2 := And.left (by assumption)
  have hL := H1.out.1.below hBq H1.out.1.lt
  have hA := H1.out.2.1.below hBq H1.out.2.1.lt
  have hZ := H1.out.2.2.1.below hBq H1.out.2.2.1.lt
  have hB := below_up H1.out.2.2.2 hBq
  clear H1 K0 q0 q1 q2 hBq
  skip
  have a0 : w2.cell? ⟨w.heap.size + 1, 0, none⟩ = some (.int .u8 kd) := hA.cell 0
  have a1 : w2.cell? ⟨w.heap.size + 1, 1, none⟩ = some (.int .i64 ar) := hA.cell 1
  have a2 : w2.cell? ⟨w.heap.size + 1, 2, none⟩ = some (.slice T tx.length ct) := hA.cell 2
  have z0 : w2.cell? ⟨w.heap.size + 1 + 1, 0, none⟩ = some (.slice none 0 0) := hZ.cell 0
  have z1 : w2.cell? ⟨w.heap.size + 1 + 1, 1, none⟩ = some (.int .i64 0) := hZ.cell 1
  have z2 : w2.cell? ⟨w.heap.size + 1 + 1, 2, none⟩ = some (.slice none 0 0) := hZ.cell 2
  have z3 : w2.cell? ⟨w.heap.size + 1 + 1, 3, none⟩ = some (.int .i64 0) := hZ.cell 3
  have zf0 := hZ.frozen 0
  have zf1 := hZ.frozen 1
  have zf2 := hZ.frozen 2
  have zf3 := hZ.frozen 3
  have HH := Lib.hid (And.intro hZ hB)
  clear hL hA hZ hB
  go_wp2_with fail
  have hK4 := W4.blk HH.out.1 (.slice none 0 0) (.int .i64 0) (.slice none 0 0) (.int .i64 0)
  have hB4 := W4.below (g := w.heap.size + 1 + 1) HH.out.2 (by omega) (.slice none 0 0) (.int .i64 0) (.slice none 0 0) (.int .i64 0)
  rw [show ((((w2.setCell ⟨w.heap.size + 1 + 1, 0, none⟩ (.slice none 0 0)).setCell ⟨w.heap.size + 1 + 1, 1, none⟩ (.int .i64 0)).setCell ⟨w.heap.size + 1 + 1, 2, none⟩ (.slice none 0 0)).setCell ⟨w.heap.size + 1 + 1, 3, none⟩ (.int .i64 0)) = W4 w2 (w.heap.size + 1 + 1) (.slice none 0 0) (.int .i64 0) (.slice none 0 0) (.int .i64 0) from rfl]
  generalize W4 w2 (w.heap.size + 1 + 1) (.slice none 0 0) (.int .i64 0) (.slice none 0 0) (.int .i64 0) = w99 at *
  clear z0 z1 z2 z3 zf0 zf1 zf2 zf3
  have c0 := hK4.cell 0
  have c1 := hK4.cell 1
  have c2 := hK4.cell 2
  have c3 := hK4.cell 3
  simp only [List.getElem?_toArray, List.getElem?_cons_zero, List.getElem?_cons_succ] at c0 c1 c2 c3
  exact bodyPost_ret (v := .tuple #[.agg #[.slice none 0 0, .int .i64 0, .slice none 0 0, .int .i64 0], .int .i64 2]) (by simp [results, Try.results28, go_sem, c0, c1, c2, c3]) rfl ⟨_, rfl, RetL.zero, hB4⟩
set_option maxRecDepth 100000 in
set_option maxHeartbeats 4000000 in
theorem lDoArgB (x y : AV) (X : Option Addr) (ca : Nat) (Y : Option Addr) (cb : Nat) (kd ar : Int) (T : Option Addr) (ct : Nat) (tx : List Int) (h : mayL ⟨x, y⟩ = true) (hb : deedB kd = true) (ha : ar < 0) (w : World) :
    Calls Try.prog 28 #[.agg #[.slice X x.t.length ca, .int .i64 x.k, .slice Y y.t.length cb, .int .i64 y.k], .agg #[.int .u8 kd, .int .i64 ar, .slice T tx.length ct]] w fun e w' => ∃ v, e = .returned (.tuple #[v, .int .i64 2]) ∧ RetL w' w.heap.size LV.z v ∧ Below w.heap.size w w' := by
  have EE := Lib.hid (check_ok h)
  go_enter Try.func28, Try.ntmps28
  go_wp2_with fail
  refine (lCheck x y X ca Y cb _).mono ?_
  rintro e w1 ⟨rfl, hB1⟩
  rw [EE.out]
  have hL := ((Blk.new w 70 #[.slice X x.t.length ca, .int .i64 x.k, .slice Y y.t.length cb, .int .i64 y.k]).alloc (.cells #[.int .u8 kd, .int .i64 ar, .slice T tx.length ct] 72)).alloc (.cells #[.slice none 0 0, .int .i64 0, .slice none 0 0, .int .i64 0] 70) |>.below hB1 (by simp; omega)
  have hA := (blk1 w 72 #[.int .u8 kd, .int .i64 ar, .slice T tx.length ct] (o := .cells #[.slice X x.t.length ca, .int .i64 x.k, .slice Y y.t.length cb, .int .i64 y.k] 70)).alloc (.cells #[.slice none 0 0, .int .i64 0, .slice none 0 0, .int .i64 0] 70) |>.below hB1 (by simp)
  have hZ := (blk2 w 70 #[.slice none 0 0, .int .i64 0, .slice none 0 0, .int .i64 0] (o := .cells #[.slice X x.t.length ca, .int .i64 x.k, .slice Y y.t.length cb, .int .i64 y.k] 70) (o' := .cells #[.int .u8 kd, .int .i64 ar, .slice T tx.length ct] 72)).below hB1 (by simp)
  have hB := below_up (below_alloc (below_alloc (below_alloc (Below.refl _ _)))) hB1
  clear hB1
  have q0 : w1.cell? ⟨w.heap.size + 1, 0, none⟩ = some (.int .u8 kd) := hA.cell 0
  have q1 : w1.cell? ⟨w.heap.size + 1, 1, none⟩ = some (.int .i64 ar) := hA.cell 1
  have q2 : w1.cell? ⟨w.heap.size + 1, 2, none⟩ = some (.slice T tx.length ct) := hA.cell 2
  have H1 := Lib.hid (And.intro hL (And.intro hA (And.intro hZ hB)))
  have K0 : KeptL w1 [(⟨w.heap.size + 1, 0, none⟩, .int .u8 kd)] w1.drew := KeptL.drew ⟨Below.refl _ _, q0⟩
  clear hL hA hZ hB
  go_upto_region 4 with fail
  go_region_held3 (fun W => Below w1.heap.size w1 W ∧ W.cell? ⟨w.heap.size + 1, 0, none⟩ = some (.int .u8 kd)) (first | exact K0 | exact KeptL.alloc (fs := [(⟨w.heap.size + 1, 0, none⟩, .int .u8 kd)]) (by assumption) _ | exact KeptL.up (fs := [(⟨w.heap.size + 1, 0, none⟩, .int .u8 kd)]) (by assumption) (by assumption) | assumption) (first | (go_at_call 59; refine (deeds_any _).mono ?_; rintro e w2 ⟨bm, rfl, hDM, hB2⟩; have hlk := run_look hDM kd))
  have hBq : Below w1.heap.size w1 w2 := And.left (by assumption)
  have hL := H1.out.1.below hBq H1.out.1.lt
  have hA := H1.out.2.1.below hBq H1.out.2.1.lt
  have hZ := H1.out.2.2.1.below hBq H1.out.2.2.1.lt
  have hB := below_up H1.out.2.2.2 hBq
  clear H1 K0 q0 q1 q2 hBq
  skip
  have a0 : w2.cell? ⟨w.heap.size + 1, 0, none⟩ = some (.int .u8 kd) := hA.cell 0
  have a1 : w2.cell? ⟨w.heap.size + 1, 1, none⟩ = some (.int .i64 ar) := hA.cell 1
  have a2 : w2.cell? ⟨w.heap.size + 1, 2, none⟩ = some (.slice T tx.length ct) := hA.cell 2
  have z0 : w2.cell? ⟨w.heap.size + 1 + 1, 0, none⟩ = some (.slice none 0 0) := hZ.cell 0
  have z1 : w2.cell? ⟨w.heap.size + 1 + 1, 1, none⟩ = some (.int .i64 0) := hZ.cell 1
  have z2 : w2.cell? ⟨w.heap.size + 1 + 1, 2, none⟩ = some (.slice none 0 0) := hZ.cell 2
  have z3 : w2.cell? ⟨w.heap.size + 1 + 1, 3, none⟩ = some (.int .i64 0) := hZ.cell 3
  have zf0 := hZ.frozen 0
  have zf1 := hZ.frozen 1
  have zf2 := hZ.frozen 2
  have zf3 := hZ.frozen 3
  have HH := Lib.hid (And.intro hZ hB)
  clear hL hA hZ hB
  go_wp2_with fail
  have hK4 := W4.blk HH.out.1 (.slice none 0 0) (.int .i64 0) (.slice none 0 0) (.int .i64 0)
  have hB4 := W4.below (g := w.heap.size + 1 + 1) HH.out.2 (by omega) (.slice none 0 0) (.int .i64 0) (.slice none 0 0) (.int .i64 0)
  rw [show ((((w2.setCell ⟨w.heap.size + 1 + 1, 0, none⟩ (.slice none 0 0)).setCell ⟨w.heap.size + 1 + 1, 1, none⟩ (.int .i64 0)).setCell ⟨w.heap.size + 1 + 1, 2, none⟩ (.slice none 0 0)).setCell ⟨w.heap.size + 1 + 1, 3, none⟩ (.int .i64 0)) = W4 w2 (w.heap.size + 1 + 1) (.slice none 0 0) (.int .i64 0) (.slice none 0 0) (.int .i64 0) from rfl]
  generalize W4 w2 (w.heap.size + 1 + 1) (.slice none 0 0) (.int .i64 0) (.slice none 0 0) (.int .i64 0) = w99 at *
  clear z0 z1 z2 z3 zf0 zf1 zf2 zf3
  have c0 := hK4.cell 0
  have c1 := hK4.cell 1
  have c2 := hK4.cell 2
  have c3 := hK4.cell 3
  simp only [List.getElem?_toArray, List.getElem?_cons_zero, List.getElem?_cons_succ] at c0 c1 c2 c3
  exact bodyPost_ret (v := .tuple #[.agg #[.slice none 0 0, .int .i64 0, .slice none 0 0, .int .i64 0], .int .i64 2]) (by simp [results, Try.results28, go_sem, c0, c1, c2, c3]) rfl ⟨_, rfl, RetL.zero, hB4⟩
set_option maxRecDepth 100000 in
set_option maxHeartbeats 4000000 in
theorem lDoArgC (x y : AV) (X : Option Addr) (ca : Nat) (Y : Option Addr) (cb : Nat) (kd ar : Int) (T : Option Addr) (ct : Nat) (tx : List Int) (h : mayL ⟨x, y⟩ = true) (hb : deedB kd = true) (ha : ¬ ar < 0) (ha2 : 1 < ar) (w : World) :
    Calls Try.prog 28 #[.agg #[.slice X x.t.length ca, .int .i64 x.k, .slice Y y.t.length cb, .int .i64 y.k], .agg #[.int .u8 kd, .int .i64 ar, .slice T tx.length ct]] w fun e w' => ∃ v, e = .returned (.tuple #[v, .int .i64 2]) ∧ RetL w' w.heap.size LV.z v ∧ Below w.heap.size w w' := by
  have EE := Lib.hid (check_ok h)
  go_enter Try.func28, Try.ntmps28
  go_wp2_with fail
  refine (lCheck x y X ca Y cb _).mono ?_
  rintro e w1 ⟨rfl, hB1⟩
  rw [EE.out]
  have hL := ((Blk.new w 70 #[.slice X x.t.length ca, .int .i64 x.k, .slice Y y.t.length cb, .int .i64 y.k]).alloc (.cells #[.int .u8 kd, .int .i64 ar, .slice T tx.length ct] 72)).alloc (.cells #[.slice none 0 0, .int .i64 0, .slice none 0 0, .int .i64 0] 70) |>.below hB1 (by simp; omega)
  have hA := (blk1 w 72 #[.int .u8 kd, .int .i64 ar, .slice T tx.length ct] (o := .cells #[.slice X x.t.length ca, .int .i64 x.k, .slice Y y.t.length cb, .int .i64 y.k] 70)).alloc (.cells #[.slice none 0 0, .int .i64 0, .slice none 0 0, .int .i64 0] 70) |>.below hB1 (by simp)
  have hZ := (blk2 w 70 #[.slice none 0 0, .int .i64 0, .slice none 0 0, .int .i64 0] (o := .cells #[.slice X x.t.length ca, .int .i64 x.k, .slice Y y.t.length cb, .int .i64 y.k] 70) (o' := .cells #[.int .u8 kd, .int .i64 ar, .slice T tx.length ct] 72)).below hB1 (by simp)
  have hB := below_up (below_alloc (below_alloc (below_alloc (Below.refl _ _)))) hB1
  clear hB1
  have q0 : w1.cell? ⟨w.heap.size + 1, 0, none⟩ = some (.int .u8 kd) := hA.cell 0
  have q1 : w1.cell? ⟨w.heap.size + 1, 1, none⟩ = some (.int .i64 ar) := hA.cell 1
  have q2 : w1.cell? ⟨w.heap.size + 1, 2, none⟩ = some (.slice T tx.length ct) := hA.cell 2
  have H1 := Lib.hid (And.intro hL (And.intro hA (And.intro hZ hB)))
  have K0 : KeptL w1 [(⟨w.heap.size + 1, 0, none⟩, .int .u8 kd)] w1.drew := KeptL.drew ⟨Below.refl _ _, q0⟩
  clear hL hA hZ hB
  go_upto_region 4 with fail
  go_region_held3 (fun W => Below w1.heap.size w1 W ∧ W.cell? ⟨w.heap.size + 1, 0, none⟩ = some (.int .u8 kd)) (first | exact K0 | exact KeptL.alloc (fs := [(⟨w.heap.size + 1, 0, none⟩, .int .u8 kd)]) (by assumption) _ | exact KeptL.up (fs := [(⟨w.heap.size + 1, 0, none⟩, .int .u8 kd)]) (by assumption) (by assumption) | assumption) (first | (go_at_call 59; refine (deeds_any _).mono ?_; rintro e w2 ⟨bm, rfl, hDM, hB2⟩; have hlk := run_look hDM kd))
  have hBq : Below w1.heap.size w1 w2 := And.left (by assumption)
  have hL := H1.out.1.below hBq H1.out.1.lt
  have hA := H1.out.2.1.below hBq H1.out.2.1.lt
  have hZ := H1.out.2.2.1.below hBq H1.out.2.2.1.lt
  have hB := below_up H1.out.2.2.2 hBq
  clear H1 K0 q0 q1 q2 hBq
  skip
  have a0 : w2.cell? ⟨w.heap.size + 1, 0, none⟩ = some (.int .u8 kd) := hA.cell 0
  have a1 : w2.cell? ⟨w.heap.size + 1, 1, none⟩ = some (.int .i64 ar) := hA.cell 1
  have a2 : w2.cell? ⟨w.heap.size + 1, 2, none⟩ = some (.slice T tx.length ct) := hA.cell 2
  have z0 : w2.cell? ⟨w.heap.size + 1 + 1, 0, none⟩ = some (.slice none 0 0) := hZ.cell 0
  have z1 : w2.cell? ⟨w.heap.size + 1 + 1, 1, none⟩ = some (.int .i64 0) := hZ.cell 1
  have z2 : w2.cell? ⟨w.heap.size + 1 + 1, 2, none⟩ = some (.slice none 0 0) := hZ.cell 2
  have z3 : w2.cell? ⟨w.heap.size + 1 + 1, 3, none⟩ = some (.int .i64 0) := hZ.cell 3
  have zf0 := hZ.frozen 0
  have zf1 := hZ.frozen 1
  have zf2 := hZ.frozen 2
  have zf3 := hZ.frozen 3
  have HH := Lib.hid (And.intro hZ hB)
  clear hL hA hZ hB
  go_wp2_with fail
  have hK4 := W4.blk HH.out.1 (.slice none 0 0) (.int .i64 0) (.slice none 0 0) (.int .i64 0)
  have hB4 := W4.below (g := w.heap.size + 1 + 1) HH.out.2 (by omega) (.slice none 0 0) (.int .i64 0) (.slice none 0 0) (.int .i64 0)
  rw [show ((((w2.setCell ⟨w.heap.size + 1 + 1, 0, none⟩ (.slice none 0 0)).setCell ⟨w.heap.size + 1 + 1, 1, none⟩ (.int .i64 0)).setCell ⟨w.heap.size + 1 + 1, 2, none⟩ (.slice none 0 0)).setCell ⟨w.heap.size + 1 + 1, 3, none⟩ (.int .i64 0)) = W4 w2 (w.heap.size + 1 + 1) (.slice none 0 0) (.int .i64 0) (.slice none 0 0) (.int .i64 0) from rfl]
  generalize W4 w2 (w.heap.size + 1 + 1) (.slice none 0 0) (.int .i64 0) (.slice none 0 0) (.int .i64 0) = w99 at *
  clear z0 z1 z2 z3 zf0 zf1 zf2 zf3
  have c0 := hK4.cell 0
  have c1 := hK4.cell 1
  have c2 := hK4.cell 2
  have c3 := hK4.cell 3
  simp only [List.getElem?_toArray, List.getElem?_cons_zero, List.getElem?_cons_succ] at c0 c1 c2 c3
  exact bodyPost_ret (v := .tuple #[.agg #[.slice none 0 0, .int .i64 0, .slice none 0 0, .int .i64 0], .int .i64 2]) (by simp [results, Try.results28, go_sem, c0, c1, c2, c3]) rfl ⟨_, rfl, RetL.zero, hB4⟩
set_option maxRecDepth 100000 in
set_option maxHeartbeats 4000000 in
theorem lDoArgD (x y : AV) (X : Option Addr) (ca : Nat) (Y : Option Addr) (cb : Nat) (kd ar : Int) (T : Option Addr) (ct : Nat) (tx : List Int) (h : mayL ⟨x, y⟩ = true) (hb : deedB kd = true) (ha : ¬ ar < 0) (ha2 : ¬ 1 < ar) (hl : (0 : Int) < tx.length) (hk : (kd != 2) = true) (w : World) :
    Calls Try.prog 28 #[.agg #[.slice X x.t.length ca, .int .i64 x.k, .slice Y y.t.length cb, .int .i64 y.k], .agg #[.int .u8 kd, .int .i64 ar, .slice T tx.length ct]] w fun e w' => ∃ v, e = .returned (.tuple #[v, .int .i64 2]) ∧ RetL w' w.heap.size LV.z v ∧ Below w.heap.size w w' := by
  have EE := Lib.hid (check_ok h)
  go_enter Try.func28, Try.ntmps28
  go_wp2_with fail
  refine (lCheck x y X ca Y cb _).mono ?_
  rintro e w1 ⟨rfl, hB1⟩
  rw [EE.out]
  have hL := ((Blk.new w 70 #[.slice X x.t.length ca, .int .i64 x.k, .slice Y y.t.length cb, .int .i64 y.k]).alloc (.cells #[.int .u8 kd, .int .i64 ar, .slice T tx.length ct] 72)).alloc (.cells #[.slice none 0 0, .int .i64 0, .slice none 0 0, .int .i64 0] 70) |>.below hB1 (by simp; omega)
  have hA := (blk1 w 72 #[.int .u8 kd, .int .i64 ar, .slice T tx.length ct] (o := .cells #[.slice X x.t.length ca, .int .i64 x.k, .slice Y y.t.length cb, .int .i64 y.k] 70)).alloc (.cells #[.slice none 0 0, .int .i64 0, .slice none 0 0, .int .i64 0] 70) |>.below hB1 (by simp)
  have hZ := (blk2 w 70 #[.slice none 0 0, .int .i64 0, .slice none 0 0, .int .i64 0] (o := .cells #[.slice X x.t.length ca, .int .i64 x.k, .slice Y y.t.length cb, .int .i64 y.k] 70) (o' := .cells #[.int .u8 kd, .int .i64 ar, .slice T tx.length ct] 72)).below hB1 (by simp)
  have hB := below_up (below_alloc (below_alloc (below_alloc (Below.refl _ _)))) hB1
  clear hB1
  have q0 : w1.cell? ⟨w.heap.size + 1, 0, none⟩ = some (.int .u8 kd) := hA.cell 0
  have q1 : w1.cell? ⟨w.heap.size + 1, 1, none⟩ = some (.int .i64 ar) := hA.cell 1
  have q2 : w1.cell? ⟨w.heap.size + 1, 2, none⟩ = some (.slice T tx.length ct) := hA.cell 2
  have H1 := Lib.hid (And.intro hL (And.intro hA (And.intro hZ hB)))
  have K0 : KeptL w1 [(⟨w.heap.size + 1, 0, none⟩, .int .u8 kd)] w1.drew := KeptL.drew ⟨Below.refl _ _, q0⟩
  clear hL hA hZ hB
  go_upto_region 4 with fail
  go_region_held3 (fun W => Below w1.heap.size w1 W ∧ W.cell? ⟨w.heap.size + 1, 0, none⟩ = some (.int .u8 kd)) (first | exact K0 | exact KeptL.alloc (fs := [(⟨w.heap.size + 1, 0, none⟩, .int .u8 kd)]) (by assumption) _ | exact KeptL.up (fs := [(⟨w.heap.size + 1, 0, none⟩, .int .u8 kd)]) (by assumption) (by assumption) | assumption) (first | (go_at_call 59; refine (deeds_any _).mono ?_; rintro e w2 ⟨bm, rfl, hDM, hB2⟩; have hlk := run_look hDM kd))
  have hBq : Below w1.heap.size w1 w2 := And.left (by assumption)
  have hL := H1.out.1.below hBq H1.out.1.lt
  have hA := H1.out.2.1.below hBq H1.out.2.1.lt
  have hZ := H1.out.2.2.1.below hBq H1.out.2.2.1.lt
  have hB := below_up H1.out.2.2.2 hBq
  clear H1 K0 q0 q1 q2 hBq
  skip
  have a0 : w2.cell? ⟨w.heap.size + 1, 0, none⟩ = some (.int .u8 kd) := hA.cell 0
  have a1 : w2.cell? ⟨w.heap.size + 1, 1, none⟩ = some (.int .i64 ar) := hA.cell 1
  have a2 : w2.cell? ⟨w.heap.size + 1, 2, none⟩ = some (.slice T tx.length ct) := hA.cell 2
  have z0 : w2.cell? ⟨w.heap.size + 1 + 1, 0, none⟩ = some (.slice none 0 0) := hZ.cell 0
  have z1 : w2.cell? ⟨w.heap.size + 1 + 1, 1, none⟩ = some (.int .i64 0) := hZ.cell 1
  have z2 : w2.cell? ⟨w.heap.size + 1 + 1, 2, none⟩ = some (.slice none 0 0) := hZ.cell 2
  have z3 : w2.cell? ⟨w.heap.size + 1 + 1, 3, none⟩ = some (.int .i64 0) := hZ.cell 3
  have zf0 := hZ.frozen 0
  have zf1 := hZ.frozen 1
  have zf2 := hZ.frozen 2
  have zf3 := hZ.frozen 3
  have HH := Lib.hid (And.intro hZ hB)
  clear hL hA hZ hB
  go_wp2_with fail
  have hK4 := W4.blk HH.out.1 (.slice none 0 0) (.int .i64 0) (.slice none 0 0) (.int .i64 0)
  have hB4 := W4.below (g := w.heap.size + 1 + 1) HH.out.2 (by omega) (.slice none 0 0) (.int .i64 0) (.slice none 0 0) (.int .i64 0)
  rw [show ((((w2.setCell ⟨w.heap.size + 1 + 1, 0, none⟩ (.slice none 0 0)).setCell ⟨w.heap.size + 1 + 1, 1, none⟩ (.int .i64 0)).setCell ⟨w.heap.size + 1 + 1, 2, none⟩ (.slice none 0 0)).setCell ⟨w.heap.size + 1 + 1, 3, none⟩ (.int .i64 0)) = W4 w2 (w.heap.size + 1 + 1) (.slice none 0 0) (.int .i64 0) (.slice none 0 0) (.int .i64 0) from rfl]
  generalize W4 w2 (w.heap.size + 1 + 1) (.slice none 0 0) (.int .i64 0) (.slice none 0 0) (.int .i64 0) = w99 at *
  clear z0 z1 z2 z3 zf0 zf1 zf2 zf3
  have c0 := hK4.cell 0
  have c1 := hK4.cell 1
  have c2 := hK4.cell 2
  have c3 := hK4.cell 3
  simp only [List.getElem?_toArray, List.getElem?_cons_zero, List.getElem?_cons_succ] at c0 c1 c2 c3
  exact bodyPost_ret (v := .tuple #[.agg #[.slice none 0 0, .int .i64 0, .slice none 0 0, .int .i64 0], .int .i64 2]) (by simp [results, Try.results28, go_sem, c0, c1, c2, c3]) rfl ⟨_, rfl, RetL.zero, hB4⟩
theorem deedB_iff {kd : Int} : deedB kd = true ↔ kd = 1 ∨ kd = 2 ∨ kd = 3 := by
  simp [deedB]
theorem lDoArg (x y : AV) (X : Option Addr) (ca : Nat) (Y : Option Addr) (cb : Nat) (kd ar : Int) (T : Option Addr) (ct : Nat) (tx : List Int) (h : mayL ⟨x, y⟩ = true) (h2 : mayAct kd ar tx = false) (w : World) :
    Calls Try.prog 28 #[.agg #[.slice X x.t.length ca, .int .i64 x.k, .slice Y y.t.length cb, .int .i64 y.k], .agg #[.int .u8 kd, .int .i64 ar, .slice T tx.length ct]] w fun e w' => ∃ v, e = .returned (.tuple #[v, .int .i64 (doE ⟨x, y⟩ kd ar tx)]) ∧ RetL w' w.heap.size (doL ⟨x, y⟩ kd ar tx) v ∧ Below w.heap.size w w' := by
  obtain ⟨E1, E2⟩ := doE_arg h h2
  rw [E1, E2]
  cases hb : deedB kd
  · exact lDoArgA x y X ca Y cb kd ar T ct tx h hb w
  · by_cases ha : ar < 0
    · exact lDoArgB x y X ca Y cb kd ar T ct tx h hb ha w
    · by_cases ha2 : 1 < ar
      · exact lDoArgC x y X ca Y cb kd ar T ct tx h hb ha ha2 w
      · refine lDoArgD x y X ca Y cb kd ar T ct tx h hb ha ha2 ?_ ?_ w
        all_goals
          have ha3 : ar = 0 ∨ ar = 1 := by omega
          have hk := deedB_iff.1 hb
          by_cases h0 : 0 < tx.length
          · first
            | omega
            | (by_cases k2 : kd = 2
               · exfalso
                 subst k2
                 have : mayAct 2 ar tx = true := by simp [mayAct, ha3]
                 rw [this] at h2
                 cases h2
               · simpa using k2)
          · exfalso
            have e0 : tx.length = 0 := by omega
            have : mayAct kd ar tx = true := by
              simp only [mayAct, e0]
              rcases ha3 with rfl | rfl <;> rcases hk with rfl | rfl | rfl <;> rfl
            rw [this] at h2
            cases h2
set_option maxRecDepth 100000 in
set_option maxHeartbeats 4000000 in
theorem lDoFullK0 (x y : AV) (X : Option Addr) (ca : Nat) (Y : Option Addr) (cb : Nat) (kd : Int) (T : Option Addr) (ct : Nat) (tx : List Int) (h : mayL ⟨x, y⟩ = true) (hb : deedB kd = true) (hl : (0 : Int) < tx.length) (hk : (kd != 2) = false) (h3 : (262144 : Int) < (x.t.length : Int) + (tx.length : Int)) (hl1 : x.t.length ≤ 262144) (htx : tx.length ≤ 300000) (w : World) :
    Calls Try.prog 28 #[.agg #[.slice X x.t.length ca, .int .i64 x.k, .slice Y y.t.length cb, .int .i64 y.k], .agg #[.int .u8 kd, .int .i64 0, .slice T tx.length ct]] w fun e w' => ∃ v, e = .returned (.tuple #[v, .int .i64 9]) ∧ RetL w' w.heap.size LV.z v ∧ Below w.heap.size w w' := by
  have EE := Lib.hid (check_ok h)
  have f1 : IntKind.i64.wrap (262144 - (x.t.length : Int)) = 262144 - (x.t.length : Int) := IntWalk.i64_in _ (by omega)
  have g1 : 262144 - (x.t.length : Int) < (tx.length : Int) := by omega
  go_enter Try.func28, Try.ntmps28
  go_wp2_with fail
  refine (lCheck x y X ca Y cb _).mono ?_
  rintro e w1 ⟨rfl, hB1⟩
  rw [EE.out]
  have hL := ((Blk.new w 70 #[.slice X x.t.length ca, .int .i64 x.k, .slice Y y.t.length cb, .int .i64 y.k]).alloc (.cells #[.int .u8 kd, .int .i64 0, .slice T tx.length ct] 72)).alloc (.cells #[.slice none 0 0, .int .i64 0, .slice none 0 0, .int .i64 0] 70) |>.below hB1 (by simp; omega)
  have hA := (blk1 w 72 #[.int .u8 kd, .int .i64 0, .slice T tx.length ct] (o := .cells #[.slice X x.t.length ca, .int .i64 x.k, .slice Y y.t.length cb, .int .i64 y.k] 70)).alloc (.cells #[.slice none 0 0, .int .i64 0, .slice none 0 0, .int .i64 0] 70) |>.below hB1 (by simp)
  have hZ := (blk2 w 70 #[.slice none 0 0, .int .i64 0, .slice none 0 0, .int .i64 0] (o := .cells #[.slice X x.t.length ca, .int .i64 x.k, .slice Y y.t.length cb, .int .i64 y.k] 70) (o' := .cells #[.int .u8 kd, .int .i64 0, .slice T tx.length ct] 72)).below hB1 (by simp)
  have hB := below_up (below_alloc (below_alloc (below_alloc (Below.refl _ _)))) hB1
  clear hB1
  have q0 : w1.cell? ⟨w.heap.size + 1, 0, none⟩ = some (.int .u8 kd) := hA.cell 0
  have q1 : w1.cell? ⟨w.heap.size + 1, 1, none⟩ = some (.int .i64 0) := hA.cell 1
  have q2 : w1.cell? ⟨w.heap.size + 1, 2, none⟩ = some (.slice T tx.length ct) := hA.cell 2
  have H1 := Lib.hid (And.intro hL (And.intro hA (And.intro hZ hB)))
  have K0 : KeptL w1 [(⟨w.heap.size + 1, 0, none⟩, .int .u8 kd)] w1.drew := KeptL.drew ⟨Below.refl _ _, q0⟩
  clear hL hA hZ hB
  go_upto_region 4 with fail
  go_region_held3 (fun W => Below w1.heap.size w1 W ∧ W.cell? ⟨w.heap.size + 1, 0, none⟩ = some (.int .u8 kd)) (first | exact K0 | exact KeptL.alloc (fs := [(⟨w.heap.size + 1, 0, none⟩, .int .u8 kd)]) (by assumption) _ | exact KeptL.up (fs := [(⟨w.heap.size + 1, 0, none⟩, .int .u8 kd)]) (by assumption) (by assumption) | assumption) (first | (go_at_call 59; refine (deeds_any _).mono ?_; rintro e w2 ⟨bm, rfl, hDM, hB2⟩; have hlk := run_look hDM kd))
  have hBq : Below w1.heap.size w1 w2 := And.left (by assumption)
  have hL := H1.out.1.below hBq H1.out.1.lt
  have hA := H1.out.2.1.below hBq H1.out.2.1.lt
  have hZ := H1.out.2.2.1.below hBq H1.out.2.2.1.lt
  have hB := below_up H1.out.2.2.2 hBq
  clear H1 K0 q0 q1 q2 hBq
  have a0 : w2.cell? ⟨w.heap.size + 1, 0, none⟩ = some (.int .u8 kd) := hA.cell 0
  have a1 : w2.cell? ⟨w.heap.size + 1, 1, none⟩ = some (.int .i64 0) := hA.cell 1
  have a2 : w2.cell? ⟨w.heap.size + 1, 2, none⟩ = some (.slice T tx.length ct) := hA.cell 2
  have p : w2.cell? ⟨w.heap.size, 0, none⟩ = some (.slice X x.t.length ca) := hL.cell 0
  
  go_wp2_with fail
  have kq0 := cell_regrown p
  have kq1 := cell_regrown a1
  have kq2 := cell_regrown a2
  refine wp_region_quiet_below (by kernel_rfl) (by kernel_rfl) ?_
  repeat (go_big_quiet_step (first | fail))
  refine wpQuiet_nil ?_
  intro _ hw'
  obtain ⟨⟨dq, osq⟩, hw''⟩ := hw'
  subst hw''
  have hBq := below_regrown w2 dq osq
  clear kq0 kq1 kq2
  generalize grow (redrawn w2 dq) osq = w3 at *
  have hZ3 := hZ.below hBq hZ.lt
  have hB3 := below_up hB hBq
  clear hBq hL hA hZ hB p a0 a1 a2
  have z0 : w3.cell? ⟨w.heap.size + 1 + 1, 0, none⟩ = some (.slice none 0 0) := hZ3.cell 0
  have z1 : w3.cell? ⟨w.heap.size + 1 + 1, 1, none⟩ = some (.int .i64 0) := hZ3.cell 1
  have z2 : w3.cell? ⟨w.heap.size + 1 + 1, 2, none⟩ = some (.slice none 0 0) := hZ3.cell 2
  have z3 : w3.cell? ⟨w.heap.size + 1 + 1, 3, none⟩ = some (.int .i64 0) := hZ3.cell 3
  have zf0 := hZ3.frozen 0
  have zf1 := hZ3.frozen 1
  have zf2 := hZ3.frozen 2
  have zf3 := hZ3.frozen 3
  have HH := Lib.hid (And.intro hZ3 hB3)
  clear hZ3 hB3
  go_wp2_with fail
  have hK4 := W4.blk HH.out.1 (.slice none 0 0) (.int .i64 0) (.slice none 0 0) (.int .i64 0)
  have hB4 := W4.below (g := w.heap.size + 1 + 1) HH.out.2 (by omega) (.slice none 0 0) (.int .i64 0) (.slice none 0 0) (.int .i64 0)
  rw [show ((((w3.setCell ⟨w.heap.size + 1 + 1, 0, none⟩ (.slice none 0 0)).setCell ⟨w.heap.size + 1 + 1, 1, none⟩ (.int .i64 0)).setCell ⟨w.heap.size + 1 + 1, 2, none⟩ (.slice none 0 0)).setCell ⟨w.heap.size + 1 + 1, 3, none⟩ (.int .i64 0)) = W4 w3 (w.heap.size + 1 + 1) (.slice none 0 0) (.int .i64 0) (.slice none 0 0) (.int .i64 0) from rfl]
  generalize W4 w3 (w.heap.size + 1 + 1) (.slice none 0 0) (.int .i64 0) (.slice none 0 0) (.int .i64 0) = w99 at *
  clear z0 z1 z2 z3 zf0 zf1 zf2 zf3
  have c0 := hK4.cell 0
  have c1 := hK4.cell 1
  have c2 := hK4.cell 2
  have c3 := hK4.cell 3
  simp only [List.getElem?_toArray, List.getElem?_cons_zero, List.getElem?_cons_succ] at c0 c1 c2 c3
  exact bodyPost_ret (v := .tuple #[.agg #[.slice none 0 0, .int .i64 0, .slice none 0 0, .int .i64 0], .int .i64 9]) (by simp [results, Try.results28, go_sem, c0, c1, c2, c3]) rfl ⟨_, rfl, RetL.zero, hB4⟩
set_option maxRecDepth 100000 in
set_option maxHeartbeats 4000000 in
theorem lDoFullK1 (x y : AV) (X : Option Addr) (ca : Nat) (Y : Option Addr) (cb : Nat) (kd : Int) (T : Option Addr) (ct : Nat) (tx : List Int) (h : mayL ⟨x, y⟩ = true) (hb : deedB kd = true) (hl : (0 : Int) < tx.length) (hk : (kd != 2) = false) (h3 : (262144 : Int) < (y.t.length : Int) + (tx.length : Int)) (hl1 : y.t.length ≤ 262144) (htx : tx.length ≤ 300000) (w : World) :
    Calls Try.prog 28 #[.agg #[.slice X x.t.length ca, .int .i64 x.k, .slice Y y.t.length cb, .int .i64 y.k], .agg #[.int .u8 kd, .int .i64 1, .slice T tx.length ct]] w fun e w' => ∃ v, e = .returned (.tuple #[v, .int .i64 9]) ∧ RetL w' w.heap.size LV.z v ∧ Below w.heap.size w w' := by
  have EE := Lib.hid (check_ok h)
  have f1 : IntKind.i64.wrap (262144 - (y.t.length : Int)) = 262144 - (y.t.length : Int) := IntWalk.i64_in _ (by omega)
  have g1 : 262144 - (y.t.length : Int) < (tx.length : Int) := by omega
  go_enter Try.func28, Try.ntmps28
  go_wp2_with fail
  refine (lCheck x y X ca Y cb _).mono ?_
  rintro e w1 ⟨rfl, hB1⟩
  rw [EE.out]
  have hL := ((Blk.new w 70 #[.slice X x.t.length ca, .int .i64 x.k, .slice Y y.t.length cb, .int .i64 y.k]).alloc (.cells #[.int .u8 kd, .int .i64 1, .slice T tx.length ct] 72)).alloc (.cells #[.slice none 0 0, .int .i64 0, .slice none 0 0, .int .i64 0] 70) |>.below hB1 (by simp; omega)
  have hA := (blk1 w 72 #[.int .u8 kd, .int .i64 1, .slice T tx.length ct] (o := .cells #[.slice X x.t.length ca, .int .i64 x.k, .slice Y y.t.length cb, .int .i64 y.k] 70)).alloc (.cells #[.slice none 0 0, .int .i64 0, .slice none 0 0, .int .i64 0] 70) |>.below hB1 (by simp)
  have hZ := (blk2 w 70 #[.slice none 0 0, .int .i64 0, .slice none 0 0, .int .i64 0] (o := .cells #[.slice X x.t.length ca, .int .i64 x.k, .slice Y y.t.length cb, .int .i64 y.k] 70) (o' := .cells #[.int .u8 kd, .int .i64 1, .slice T tx.length ct] 72)).below hB1 (by simp)
  have hB := below_up (below_alloc (below_alloc (below_alloc (Below.refl _ _)))) hB1
  clear hB1
  have q0 : w1.cell? ⟨w.heap.size + 1, 0, none⟩ = some (.int .u8 kd) := hA.cell 0
  have q1 : w1.cell? ⟨w.heap.size + 1, 1, none⟩ = some (.int .i64 1) := hA.cell 1
  have q2 : w1.cell? ⟨w.heap.size + 1, 2, none⟩ = some (.slice T tx.length ct) := hA.cell 2
  have H1 := Lib.hid (And.intro hL (And.intro hA (And.intro hZ hB)))
  have K0 : KeptL w1 [(⟨w.heap.size + 1, 0, none⟩, .int .u8 kd)] w1.drew := KeptL.drew ⟨Below.refl _ _, q0⟩
  clear hL hA hZ hB
  go_upto_region 4 with fail
  go_region_held3 (fun W => Below w1.heap.size w1 W ∧ W.cell? ⟨w.heap.size + 1, 0, none⟩ = some (.int .u8 kd)) (first | exact K0 | exact KeptL.alloc (fs := [(⟨w.heap.size + 1, 0, none⟩, .int .u8 kd)]) (by assumption) _ | exact KeptL.up (fs := [(⟨w.heap.size + 1, 0, none⟩, .int .u8 kd)]) (by assumption) (by assumption) | assumption) (first | (go_at_call 59; refine (deeds_any _).mono ?_; rintro e w2 ⟨bm, rfl, hDM, hB2⟩; have hlk := run_look hDM kd))
  have hBq : Below w1.heap.size w1 w2 := And.left (by assumption)
  have hL := H1.out.1.below hBq H1.out.1.lt
  have hA := H1.out.2.1.below hBq H1.out.2.1.lt
  have hZ := H1.out.2.2.1.below hBq H1.out.2.2.1.lt
  have hB := below_up H1.out.2.2.2 hBq
  clear H1 K0 q0 q1 q2 hBq
  have a0 : w2.cell? ⟨w.heap.size + 1, 0, none⟩ = some (.int .u8 kd) := hA.cell 0
  have a1 : w2.cell? ⟨w.heap.size + 1, 1, none⟩ = some (.int .i64 1) := hA.cell 1
  have a2 : w2.cell? ⟨w.heap.size + 1, 2, none⟩ = some (.slice T tx.length ct) := hA.cell 2
  have p : w2.cell? ⟨w.heap.size, 2, none⟩ = some (.slice Y y.t.length cb) := hL.cell 2
  
  go_wp2_with fail
  have kq0 := cell_regrown p
  have kq1 := cell_regrown a1
  have kq2 := cell_regrown a2
  refine wp_region_quiet_below (by kernel_rfl) (by kernel_rfl) ?_
  repeat (go_big_quiet_step (first | fail))
  refine wpQuiet_nil ?_
  intro _ hw'
  obtain ⟨⟨dq, osq⟩, hw''⟩ := hw'
  subst hw''
  have hBq := below_regrown w2 dq osq
  clear kq0 kq1 kq2
  generalize grow (redrawn w2 dq) osq = w3 at *
  have hZ3 := hZ.below hBq hZ.lt
  have hB3 := below_up hB hBq
  clear hBq hL hA hZ hB p a0 a1 a2
  have z0 : w3.cell? ⟨w.heap.size + 1 + 1, 0, none⟩ = some (.slice none 0 0) := hZ3.cell 0
  have z1 : w3.cell? ⟨w.heap.size + 1 + 1, 1, none⟩ = some (.int .i64 0) := hZ3.cell 1
  have z2 : w3.cell? ⟨w.heap.size + 1 + 1, 2, none⟩ = some (.slice none 0 0) := hZ3.cell 2
  have z3 : w3.cell? ⟨w.heap.size + 1 + 1, 3, none⟩ = some (.int .i64 0) := hZ3.cell 3
  have zf0 := hZ3.frozen 0
  have zf1 := hZ3.frozen 1
  have zf2 := hZ3.frozen 2
  have zf3 := hZ3.frozen 3
  have HH := Lib.hid (And.intro hZ3 hB3)
  clear hZ3 hB3
  go_wp2_with fail
  have hK4 := W4.blk HH.out.1 (.slice none 0 0) (.int .i64 0) (.slice none 0 0) (.int .i64 0)
  have hB4 := W4.below (g := w.heap.size + 1 + 1) HH.out.2 (by omega) (.slice none 0 0) (.int .i64 0) (.slice none 0 0) (.int .i64 0)
  rw [show ((((w3.setCell ⟨w.heap.size + 1 + 1, 0, none⟩ (.slice none 0 0)).setCell ⟨w.heap.size + 1 + 1, 1, none⟩ (.int .i64 0)).setCell ⟨w.heap.size + 1 + 1, 2, none⟩ (.slice none 0 0)).setCell ⟨w.heap.size + 1 + 1, 3, none⟩ (.int .i64 0)) = W4 w3 (w.heap.size + 1 + 1) (.slice none 0 0) (.int .i64 0) (.slice none 0 0) (.int .i64 0) from rfl]
  generalize W4 w3 (w.heap.size + 1 + 1) (.slice none 0 0) (.int .i64 0) (.slice none 0 0) (.int .i64 0) = w99 at *
  clear z0 z1 z2 z3 zf0 zf1 zf2 zf3
  have c0 := hK4.cell 0
  have c1 := hK4.cell 1
  have c2 := hK4.cell 2
  have c3 := hK4.cell 3
  simp only [List.getElem?_toArray, List.getElem?_cons_zero, List.getElem?_cons_succ] at c0 c1 c2 c3
  exact bodyPost_ret (v := .tuple #[.agg #[.slice none 0 0, .int .i64 0, .slice none 0 0, .int .i64 0], .int .i64 9]) (by simp [results, Try.results28, go_sem, c0, c1, c2, c3]) rfl ⟨_, rfl, RetL.zero, hB4⟩
end Go.Proofs.Ytfdldbfjeamlcaa.LogDo
