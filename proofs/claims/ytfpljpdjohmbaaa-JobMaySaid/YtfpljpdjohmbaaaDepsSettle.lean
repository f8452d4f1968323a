/- deps.Settle: a table settled. -/
import Derived.Maps.Own
import Derived.Maps.OwnOps
import Derived.BigRegion
import Derived.BigQuiet
import Derived.StillTailTactics
import Derived.Deep.QuietTactic
import Derived.Deep.MidRow
import Derived.Deep.DeepCutAuto
import Derived.Test.YtfpljpdjohmbaaaRound
import Derived.Test.YtfpljpdjohmbaaaOpenJob
import Derived.Test.YtfpljpdjohmbaaaJobTable
import Derived.Test.YtfpljpdjohmbaaaJobTwin
import Derived.Test.YtfpljpdjohmbaaaDepsStates
namespace Go.Proofs.Ytfpljpdjohmbaaa.DepsSettle
open Go.Maps Go.RowKit Mem PosMath PartMath TurnMath TurnMap JobMath JobIndex JobMem JobTable JobTwin DepsStates Lay Round
set_option linter.unusedVariables false
set_option linter.unusedSimpArgs false

/-- A job is cancelled. -/
def cancel (j : JV) : JV := { j with st := 5, he := false }
def ill (f : Int → Int) (j : JV) : Bool := decide (j.st = 1) && j.af.any (fun v => decide (3 < f v))
/-- k jobs gone through: the table, and the states. -/
def stepS (l : List JV) : Nat → List JV × (Int → Int)
  | 0 => (l, stOf l)
  | k + 1 => if ill (stepS l k).2 ((stepS l k).1.getD k default) = true then ((stepS l k).1.set k (cancel ((stepS l k).1.getD k default)), stUpd (stepS l k).2 ((stepS l k).1.getD k default).id 5) else stepS l k
def settleV (l : List JV) : List JV := (stepS l l.length).1
theorem stepS_len (l : List JV) : ∀ k, (stepS l k).1.length = l.length
  | 0 => rfl
  | k + 1 => by
    unfold stepS
    split
    · simp [stepS_len l k]
    · exact stepS_len l k
/-- What is ahead stands as it did. -/
theorem stepS_at (l : List JV) : ∀ k i, k ≤ i → (stepS l k).1[i]? = l[i]?
  | 0, i, _ => rfl
  | k + 1, i, h => by
    unfold stepS
    split
    · simp only
      rw [List.getElem?_set_ne (by omega)]
      exact stepS_at l k i (by omega)
    · exact stepS_at l k i (by omega)
theorem stepS_yes {l : List JV} {k : Nat} {x : JV} (hx : l[k]? = some x) (h : ill (stepS l k).2 x = true) : stepS l (k + 1) = ((stepS l k).1.set k (cancel x), stUpd (stepS l k).2 x.id 5) := by
  have e : (stepS l k).1.getD k default = x := by
    rw [List.getD_eq_getElem?_getD, stepS_at l k k (Nat.le_refl _), hx]
    rfl
  show (if ill (stepS l k).2 ((stepS l k).1.getD k default) = true then _ else _) = _
  rw [e, if_pos h]
theorem stepS_no {l : List JV} {k : Nat} {x : JV} (hx : l[k]? = some x) (h : ill (stepS l k).2 x = false) : stepS l (k + 1) = stepS l k := by
  have e : (stepS l k).1.getD k default = x := by
    rw [List.getD_eq_getElem?_getD, stepS_at l k k (Nat.le_refl _), hx]
    rfl
  show (if ill (stepS l k).2 ((stepS l k).1.getD k default) = true then _ else _) = _
  rw [e, if_neg (by simp [h])]
theorem job_cancel {w : World} {b o : Nat} {j : JV} {Y : Option Addr} {c : Nat} (h : JobAt w b o j Y c) : JobAt ((w.setCell ⟨b, o + 14, none⟩ (.int .u8 5)).setCell ⟨b, o + 12, none⟩ (.bool false)) b o (cancel j) Y c := by
  obtain ⟨x0, x1, x2, x3, x4, x5, x6, x7, x8, x9, x10, x11, x12, x13, x14, x15⟩ := h
  exact ⟨cell_set_far (cell_set_far x0 (by simp)) (by simp), cell_set_far (cell_set_far x1 (by simp)) (by simp), cell_set_far (cell_set_far x2 (by simp)) (by simp), cell_set_far (cell_set_far x3 (by simp)) (by simp), cell_set_far (cell_set_far x4 (by simp)) (by simp), cell_set_far (cell_set_far x5 (by simp)) (by simp), cell_set_far (cell_set_far x6 (by simp)) (by simp), cell_set_far (cell_set_far x7 (by simp)) (by simp), cell_set_far (cell_set_far x8 (by simp)) (by simp), cell_set_far (cell_set_far x9 (by simp)) (by simp), cell_set_far (cell_set_far x10 (by simp)) (by simp), cell_set_far (cell_set_far x11 (by simp)) (by simp), World.cell?_setCell_same _ _ _ (cell_set_far x12 (by simp)), cell_set_far (cell_set_far x13 (by simp)) (by simp), cell_set_far (World.cell?_setCell_same _ _ _ x14) (by simp), cell_set_far (cell_set_far x15 (by simp)) (by simp)⟩
theorem JobsOwn.cancel {w : World} {B g k : Nat} {l : List JV} {x : JV} (h : JobsOwn w B (some ⟨g, 0, none⟩) l) (hk : l[k]? = some x) :
    JobsOwn ((w.setCell ⟨g, k * 16 + 14, none⟩ (.int .u8 5)).setCell ⟨g, k * 16 + 12, none⟩ (.bool false)) B (some ⟨g, 0, none⟩) (l.set k (cancel x)) := fun i j hi => by
  have hkl := (List.getElem?_eq_some_iff.1 hk).1
  have hil : i < l.length := by have := (List.getElem?_eq_some_iff.1 hi).1; simpa using this
  have hset : ∀ {q : JV} {Y c}, JobAt w g (i * 16) q Y c → i ≠ k → JobAt ((w.setCell ⟨g, k * 16 + 14, none⟩ (.int .u8 5)).setCell ⟨g, k * 16 + 12, none⟩ (.bool false)) g (i * 16) q Y c := fun hq hne =>
    JobAt.far (JobAt.far hq _ _ (fun t ht => by simp <;> omega)) _ _ (fun t ht => by simp <;> omega)
  by_cases hik : i = k
  · subst hik
    rw [List.getElem?_set_self hkl] at hi
    cases hi
    obtain ⟨g', Y, c, e, h1, hg, hx, f, a, _⟩ := h i x hk
    have e' : g' = g := by simp at e; exact e.symm
    subst e'
    exact ⟨g', Y, c, rfl, h1, by rw [World.size_setCell, World.size_setCell]; exact hg, job_cancel hx, (f.set_ _ _).set_ _ _, fun _ => ((a hkl).set_ _ _).set_ _ _, fun h => by simp at h; omega⟩
  · rw [List.getElem?_set_ne (fun e => hik e.symm)] at hi
    obtain ⟨g', Y, c, e, h1, hg, hx, f, a, _⟩ := h i j hi
    have e' : g' = g := by simp at e; exact e.symm
    subst e'
    exact ⟨g', Y, c, rfl, h1, by rw [World.size_setCell, World.size_setCell]; exact hg, hset hx hik, (f.set_ _ _).set_ _ _, fun _ => ((a hil).set_ _ _).set_ _ _, fun h => by simp at h; omega⟩
/-- What lies in cells lies in no map. -/
theorem cell_grown_map {w w' : World} {k : TypeId} {P : Program} {R : Value → Option (DataW Unit × List MemPlace)} {bm n : Nat} {D : DataW Unit} (hm : w.ownsMap P k R bm n D) (hg : w.grownBy w' (some bm)) {a : Addr} {v : Value} (h : w.cell? a = some v) : w'.cell? a = some v ∧ w'.frozen? a = w.frozen? a := by
  obtain ⟨es, clock, he, _⟩ := hm
  have hne : a.block ≠ bm := by
    intro e
    have h2 : w.cell? a = none := by unfold World.cell?; rw [e, he]
    rw [h2] at h
    cases h
  have hb := hg.block a.block (cell_lt h) (by simpa using hne)
  exact ⟨(World.cell?_of_block (w := w) hb).trans h, World.frozen?_of_block (w := w) hb⟩
theorem JobAt.lift {w w' : World} (hc : ∀ a v, w.cell? a = some v → w'.cell? a = some v) {b o : Nat} {j : JV} {Y : Option Addr} {c : Nat} (h : JobAt w b o j Y c) : JobAt w' b o j Y c := by
  obtain ⟨x0, x1, x2, x3, x4, x5, x6, x7, x8, x9, x10, x11, x12, x13, x14, x15⟩ := h
  exact ⟨hc _ _ x0, hc _ _ x1, hc _ _ x2, hc _ _ x3, hc _ _ x4, hc _ _ x5, hc _ _ x6, hc _ _ x7, hc _ _ x8, hc _ _ x9, hc _ _ x10, hc _ _ x11, hc _ _ x12, hc _ _ x13, hc _ _ x14, hc _ _ x15⟩
theorem JobsOwn.grown_map {w w' : World} {k : TypeId} {P : Program} {R : Value → Option (DataW Unit × List MemPlace)} {bm n : Nat} {D : DataW Unit} (hm : w.drew.ownsMap P k R bm n D) (hg : w.drew.grownBy w' (some bm)) {B : Nat} {X : Option Addr} {l : List JV} (h : JobsOwn w B X l) : JobsOwn w' B X l := fun i j hi => by
  obtain ⟨g, Y, c, e, h1, hgs, hx, f, a, _⟩ := h i j hi
  have hil := (List.getElem?_eq_some_iff.1 hi).1
  have hsz : w.heap.size ≤ w'.heap.size := hg.size
  refine ⟨g, Y, c, e, h1, Nat.lt_of_lt_of_le hgs hsz, JobAt.lift (fun a v h => (cell_grown_map hm hg (w := w.drew) h).1) hx, fun t ht => ?_, fun hik q z hq => ?_, fun h => by omega⟩
  · obtain ⟨u, hu, _⟩ := job_cell hx t ht
    rw [(cell_grown_map hm hg (w := w.drew) hu).2]
    exact f t ht
  · obtain ⟨b, o, e2, a1, a2, a3, a4, a5⟩ := a hil q z hq
    refine ⟨b, o, e2, a1, a2, Nat.lt_of_lt_of_le a3 hsz, (cell_grown_map hm hg (w := w.drew) a4).1, ?_⟩
    rw [(cell_grown_map hm hg (w := w.drew) a4).2]
    exact a5
theorem ill_any (gm b m : Nat) (f : Int → Int) (x : JV) (Y : Option Addr) (cj : Nat) (hx : x.af.length ≤ 4611686018427387904) (hw : ∀ v ∈ x.af, (Lit.int .i64 v).wf = true) (w : World) (cm : w.cell? ⟨gm, 0, none⟩ = some (.map (some b))) (hS : StAt w b f m) (hY : IntsAt w Y x.af) :
    Calls Try.prog 54 #[.slice Y x.af.length cj, .func (.func 75) #[] #[.pointer (some ⟨gm, 0, none⟩)]] w fun e w' => e = .returned (.bool (x.af.any (fun v => decide (3 < f v)))) ∧ Below w.heap.size w w' := by
  refine (iContainsFunc Y cj x.af (fun _ v => decide (3 < f v)) (fun _ w' => w' = w) 75 #[.pointer (some ⟨gm, 0, none⟩)] hx w rfl (fun k w' h => by rw [h]; exact hY) (enters_of Try.func75 (by kernel_rfl) rfl)
    (fun k v hk w' h => by
      rw [h]
      exact settle_step gm b f m v (hw v (List.mem_of_getElem? hk)) w cm hS)).mono ?_
  rintro e w1 ⟨r, rfl, hr, k, rfl⟩
  rw [hr.eq]
  exact ⟨rfl, Below.refl _ _⟩
set_option maxRecDepth 100000 in
set_option maxHeartbeats 8000000 in
theorem settle_bad (d0 d1 d2 bo fr tr ag : Int) (K : Option Addr) (kc : Nat) (ks : List Cls) (hlk : ks.length ≤ 4611686018427387904) (X : Option Addr) (cap : Nat) (l : List JV) (hl : l.length ≤ 1000) (hla : ∀ j ∈ l, j.af.length ≤ 1000) (hv : tableV d0 d1 d2 bo fr tr ag ks l ≠ 0) (w : World) (hk : ClsAt w w.heap.size K ks) (hX : JobsAt w X l) :
    Calls Try.prog 43 #[.agg #[.int .i64 d0, .int .i64 d1, .int .i64 d2, .int .i64 bo, .int .i64 fr, .int .i64 tr, .int .i64 ag, .slice K ks.length kc], .slice X l.length cap] w fun e w' => e = .returned (.tuple #[.slice none 0 0, .int .i64 (tableV d0 d1 d2 bo fr tr ag ks l)]) ∧ Below w.heap.size w w' := by
  have HT := Lib.hid (fun w hk hX => table_any d0 d1 d2 bo fr tr ag K kc ks hlk X cap l (by omega) (fun j hj => by have := hla j hj; omega) w hk hX)
  generalize tableV d0 d1 d2 bo fr tr ag ks l = V at *
  have HK := Lib.hid hk
  have HX := Lib.hid hX
  have hv' : (V != 0) = true := by simpa using hv
  clear hk hX hv hla
  go_enter Try.func43, Try.ntmps43
  go_upto_region 1 with fail
  have kc0 : Blk (w.alloc (.cells #[.int .i64 d0, .int .i64 d1, .int .i64 d2, .int .i64 bo, .int .i64 fr, .int .i64 tr, .int .i64 ag, .slice K ks.length kc] 26)) w.heap.size 26 #[.int .i64 d0, .int .i64 d1, .int .i64 d2, .int .i64 bo, .int .i64 fr, .int .i64 tr, .int .i64 ag, .slice K ks.length kc] := Blk.new w _ _
  have hb0 : Below w.heap.size w (w.alloc (.cells #[.int .i64 d0, .int .i64 d1, .int .i64 d2, .int .i64 bo, .int .i64 fr, .int .i64 tr, .int .i64 ag, .slice K ks.length kc] 26)) := below_alloc (Below.refl _ _)
  generalize (w.alloc (.cells #[.int .i64 d0, .int .i64 d1, .int .i64 d2, .int .i64 bo, .int .i64 fr, .int .i64 tr, .int .i64 ag, .slice K ks.length kc] 26)) = w0 at *
  have HB0 := Lib.hid hb0
  have KC0 := Lib.hid kc0
  clear hb0 kc0
  go_wp2_with (first | (refine wpList_load_row rfl 26 _ rfl _ rfl 26 #[.int .i64 d0, .int .i64 d1, .int .i64 d2, .int .i64 bo, .int .i64 fr, .int .i64 tr, .int .i64 ag, .slice K ks.length kc] (0, 0) _ KC0.out Try.underlying26 rfl (by kernel_rfl) ?_))
  refine (HT.out _ (HK.out.up HB0.out) (HX.out.up HB0.out)).mono ?_
  rintro e w1 ⟨rfl, hB1⟩
  have HB1 := Lib.hid (below_up HB0.out hB1)
  clear hB1 KC0 HB0 HT
  go_wp2_with fail
  go_ret2
  exact ⟨rfl, HB1.out⟩
set_option maxRecDepth 100000 in
set_option maxHeartbeats 8000000 in
theorem settle_okC (d0 d1 d2 bo fr tr ag : Int) (K : Option Addr) (kc : Nat) (ks : List Cls) (hlk : ks.length ≤ 4611686018427387904) (X : Option Addr) (cap : Nat) (l : List JV) (hl : l.length ≤ 1000) (hla : ∀ j ∈ l, j.af.length ≤ 1000) (hw : ∀ j ∈ l, JWf j) (hv : tableV d0 d1 d2 bo fr tr ag ks l = 0) (w : World) (hk : ClsAt w w.heap.size K ks) (hX : JobsAt w X l) :
    Calls Try.prog 43 #[.agg #[.int .i64 d0, .int .i64 d1, .int .i64 d2, .int .i64 bo, .int .i64 fr, .int .i64 tr, .int .i64 ag, .slice K ks.length kc], .slice X l.length cap] w fun e w' => ∃ X' c', e = .returned (.tuple #[.slice X' l.length c', .int .i64 0]) ∧ JobsOwn w' w.heap.size X' (settleV l) ∧ Below w.heap.size w w' ∧ l.length ≤ c' := by
  have HT := Lib.hid (fun w hk hX => table_any d0 d1 d2 bo fr tr ag K kc ks hlk X cap l (by omega) (fun j hj => by have := hla j hj; omega) w hk hX)
  generalize tableV d0 d1 d2 bo fr tr ag ks l = V at *
  have HK := Lib.hid hk
  have HX := Lib.hid hX
  subst hv
  have HTW := Lib.hid (fun w hX => twinC X cap l hl hla w hX)
  have HST := Lib.hid (fun w hX => states_any X cap l hl (fun j hj => ⟨(hw j hj).1, (hw j hj).2.2.2.2.2.2.1⟩) w hX)
  have HLA := Lib.hid hla
  have HW := Lib.hid hw
  clear hk hX hla hw
  go_enter Try.func43, Try.ntmps43
  go_upto_region 1 with fail
  have kc0 : Blk (w.alloc (.cells #[.int .i64 d0, .int .i64 d1, .int .i64 d2, .int .i64 bo, .int .i64 fr, .int .i64 tr, .int .i64 ag, .slice K ks.length kc] 26)) w.heap.size 26 #[.int .i64 d0, .int .i64 d1, .int .i64 d2, .int .i64 bo, .int .i64 fr, .int .i64 tr, .int .i64 ag, .slice K ks.length kc] := Blk.new w _ _
  have hb0 : Below w.heap.size w (w.alloc (.cells #[.int .i64 d0, .int .i64 d1, .int .i64 d2, .int .i64 bo, .int .i64 fr, .int .i64 tr, .int .i64 ag, .slice K ks.length kc] 26)) := below_alloc (Below.refl _ _)
  generalize (w.alloc (.cells #[.int .i64 d0, .int .i64 d1, .int .i64 d2, .int .i64 bo, .int .i64 fr, .int .i64 tr, .int .i64 ag, .slice K ks.length kc] 26)) = w0 at *
  have HB0 := Lib.hid hb0
  have KC0 := Lib.hid kc0
  clear hb0 kc0
  go_wp2_with (first | (refine wpList_load_row rfl 26 _ rfl _ rfl 26 #[.int .i64 d0, .int .i64 d1, .int .i64 d2, .int .i64 bo, .int .i64 fr, .int .i64 tr, .int .i64 ag, .slice K ks.length kc] (0, 0) _ KC0.out Try.underlying26 rfl (by kernel_rfl) ?_))
  refine (HT.out _ (HK.out.up HB0.out) (HX.out.up HB0.out)).mono ?_
  rintro e w1 ⟨rfl, hB1⟩
  have HB1 := Lib.hid (below_up HB0.out hB1)
  clear hB1 KC0 HB0 HT
  go_wp2_with fail
  refine (HTW.out _ (HX.out.up HB1.out)).mono ?_
  rintro e w2 ⟨X2, c2, rfl, hO, hB2, hc2⟩
  have HC2 := Lib.hid hc2
  clear hc2
  have HB2 := Lib.hid (below_up HB1.out hB2)
  have HO := Lib.hid (show JobsOwn w2 w.heap.size X2 l from fun i j hi => by
    obtain ⟨g, Y, c, e, h1, r⟩ := hO i j hi
    have hle := HB1.out.size
    exact ⟨g, Y, c, e, Nat.le_trans hle h1, r.1, r.2.1, r.2.2.1, fun h => ((r.2.2.2.1 h).less hle), fun h => by have := (List.getElem?_eq_some_iff.1 hi).1; omega⟩)
  clear hO hB2 HTW
  go_wp2_with fail
  refine (HST.out _ (HX.out.up HB2.out)).mono ?_
  rintro e w3 ⟨bm, rfl, hbm, hS, hB3⟩
  have HB3 := Lib.hid (below_up HB2.out hB3)
  have HO3 := Lib.hid (HO.out.up hB3)
  have HS := Lib.hid hS
  have HBM := Lib.hid (And.intro (Nat.le_trans HB2.out.size hbm) hS.lt)
  have hw2 := HO3
  clear hw2 hB3 hS hbm HO HST
  go_wp2_with fail
  have hgm : Blk (w3.alloc (.cells #[.map (some bm)] 94)) w3.heap.size 94 #[.map (some bm)] := Blk.new _ _ _
  have HGM := Lib.hid hgm
  clear hgm
  go_loopw [23] (fun i wr => ∃ k : Nat, k ≤ l.length ∧ i = .int .i64 k ∧ Hid (JobsOwn wr w.heap.size X2 (stepS l k).1) ∧ Hid (∃ n, n ≤ l.length + k ∧ StAt wr bm (stepS l k).2 n) ∧ Hid (Blk wr w3.heap.size 94 #[.map (some bm)]) ∧ Hid (Below w.heap.size w wr) ∧ Hid (∀ g, X2 = some ⟨g, 0, none⟩ → 0 < l.length → g < w3.heap.size))
    (fun i _ => l.length - (intOf i).toNat)
  case atStart => exact ⟨0, Nat.zero_le _, rfl, HO3.out.up (below_alloc (Below.refl _ _)), ⟨l.length, Nat.le_refl _, HS.out.up (below_alloc (Below.refl _ _))⟩, HGM.out, below_alloc HB3.out, fun g hg hl => by
    obtain ⟨g', _, _, e, _, h, _⟩ := HO3.out 0 _ (List.getElem?_eq_getElem hl)
    rw [hg] at e
    simp at e
    omega⟩
  case round =>
    obtain ⟨k, hk, rfl, hO, hS, hM, hB, hG⟩ := hrel
    clear HO3 HS HGM
    by_cases hlt : k < l.length
    · have hg : l[k]? = some l[k] := List.getElem?_eq_getElem hlt
      generalize l[k] = x at hg
      have hg2 : (stepS l k).1[k]? = some x := (stepS_at l k k (Nat.le_refl _)).trans hg
      have hki : (k : Int) < (l.length : Int) := by omega
      have hki0 : (0 : Int) ≤ (k : Int) := by omega
      obtain ⟨g, Y, c, rfl, hgB, hgs, hJ, hF, hI, _⟩ := hO.out k x hg2
      have y0 := hJ.1
      have y14 : wr.cell? ⟨g, k * 16 + 14, none⟩ = some (.int .u8 x.st) := hJ.2.2.2.2.2.2.2.2.2.2.2.2.2.2.1
      have y12 : wr.cell? ⟨g, k * 16 + 12, none⟩ = some (.bool x.he) := hJ.2.2.2.2.2.2.2.2.2.2.2.2.1
      have y13 : wr.cell? ⟨g, k * 16 + 13, none⟩ = some (.slice Y x.af.length c) := hJ.2.2.2.2.2.2.2.2.2.2.2.2.2.1
      have f14 : wr.frozen? ⟨g, k * 16 + 14, none⟩ = false := hF 14 (by omega)
      have f12 : wr.frozen? ⟨g, k * 16 + 12, none⟩ = false := hF 12 (by omega)
      have hlk := stepS_len l k
      have hints := (hI (by rw [hlk]; exact hlt)).ints
      obtain ⟨n, hn, hSt⟩ := hS.out
      have hmem := List.mem_of_getElem? hg
      have hIL := ill_any w3.heap.size bm n (stepS l k).2 x Y c (by have := HLA.out x hmem; omega) ((HW.out x hmem).2.2.2.2.2.2.2.2) wr (hM.out.cell 0) hSt hints
      have HIL := Lib.hid hIL
      have HSt := Lib.hid (And.intro hn hSt)
      have HG := Lib.hid (And.intro hg (And.intro hg2 (And.intro hgB (And.intro hgs ((HW.out x hmem).1)))))
      have hGm : g ≠ w3.heap.size := by have := hG.out g rfl (by omega); omega
      have hGb : bm ≠ g := by
        intro e
        subst e
        obtain ⟨es, clock, he, _⟩ := hSt.choose_spec.1
        have h2 : wr.cell? ⟨bm, k * 16, none⟩ = none := by simp [World.cell?, he]
        rw [h2] at y0
        cases y0
      have HNE := Lib.hid (And.intro hGm hGb)
      clear hg hg2 hJ hF hI hints hSt hn hmem hIL hGm hGb hlk hgB hgs
      by_cases h1 : x.st = 1
      · have e1 : (x.st == 1) = true := by simpa using h1
        have H1 := Lib.hid h1
        clear h1
        go_wp2_with fail
        refine HIL.out.mono ?_
        rintro e w4 ⟨rfl, hB4⟩
        have y0 := keep_cell y0 hB4
        have f14 := frozen_keep f14 (cell_lt y14) hB4
        have f12 := frozen_keep f12 (cell_lt y12) hB4
        have y14 := keep_cell y14 hB4
        have y12 := keep_cell y12 hB4
        have HO4 := Lib.hid (hO.out.up hB4)
        have HSt4 := Lib.hid (And.intro HSt.out.1 (HSt.out.2.up hB4))
        have HM4 := Lib.hid (hM.out.below hB4 hM.out.lt)
        have HB4 := Lib.hid (below_up hB.out hB4)
        clear hO hS hM hB hB4 HSt HIL y13
        cases hany : x.af.any (fun v => decide (3 < (stepS l k).2 v))
        · have hno : ill (stepS l k).2 x = false := by unfold ill; rw [hany, Bool.and_false]
          have HNO := Lib.hid (stepS_no HG.out.1 hno)
          clear hany hno
          go_wp2_with fail
          go_roundw
          case rel => exact ⟨k + 1, by omega, by go_num, by rw [HNO.out]; exact HO4.out, by rw [HNO.out]; exact ⟨_, by have := HSt4.out.1; omega, HSt4.out.2⟩, HM4.out, HB4.out, hG.out⟩
          case measure => simp [intOf]; omega
        · have hyes : ill (stepS l k).2 x = true := by unfold ill; rw [hany, H1.out]; rfl
          have HYES := Lib.hid (stepS_yes HG.out.1 hyes)
          clear hany hyes e1
          go_wp2_with fail
          have hO5 := JobsOwn.cancel HO4.out HG.out.2.1
          have hS5 := (HSt4.out.2.far (p := ⟨g, k * 16 + 14, none⟩) HNE.out.2 (.int .u8 5)).far (p := ⟨g, k * 16 + 12, none⟩) HNE.out.2 (.bool false)
          have hM5 := (HM4.out.far (p := ⟨g, k * 16 + 14, none⟩) HNE.out.1.symm (.int .u8 5)).far (p := ⟨g, k * 16 + 12, none⟩) HNE.out.1.symm (.bool false)
          have hB5 := (HB4.out.setCell (p := ⟨g, k * 16 + 14, none⟩) HG.out.2.2.1 (.int .u8 5)).setCell (p := ⟨g, k * 16 + 12, none⟩) HG.out.2.2.1 (.bool false)
          have y0 := cell_set_far (p := ⟨g, k * 16 + 12, none⟩) (v := .bool false) (cell_set_far (p := ⟨g, k * 16 + 14, none⟩) (v := .int .u8 5) y0 (by simp)) (by simp)
          have y14 := cell_set_far (p := ⟨g, k * 16 + 12, none⟩) (v := .bool false) (World.cell?_setCell_same _ _ (.int .u8 5) y14) (by simp)
          have xm := hM5.cell 0
          generalize (w4.setCell ⟨g, k * 16 + 14, none⟩ (.int .u8 5)).setCell ⟨g, k * 16 + 12, none⟩ (.bool false) = w5 at *
          clear f14 f12 y12
          obtain ⟨D, hown, hD, hat⟩ := hS5
          have H5 := Lib.hid (And.intro hO5 (And.intro hM5 (And.intro hB5 (And.intro hD hat))))
          have HOW := Lib.hid hown.drew
          have HN5 := Lib.hid HSt4.out.1
          have xm' : w5.cell? ⟨w3.heap.size, 0, none⟩ = some (.map (some bm)) := xm
          clear hO5 hM5 hB5 hD hat hown HO4 HSt4 HM4 HB4 xm
          refine still_tail 9 (by kernel_rfl) (by kernel_rfl) ?_
          simp only [List.take_succ_cons, List.take_zero, List.drop_succ_cons, List.drop_zero]
          repeat still_step
          refine wpStill_nil ?_
          go_wp2_with (at_mapUpdate; refine wpList_mapUpdate_own _ rfl _ _ _ 94 rfl 3 5 law Try.underlying94 _ bm n D rfl HOW.out (by have := HN5.out; unfold maxLen; omega) _ _ _ rfl rfl (keyOf_int_mk Try.underlying3 HG.out.2.2.2.2) _ [] (plainElem_int Try.underlying5 (by decide)) ?_; intro w6 hown6 hgrow6; have H6 := Lib.hid (And.intro hown6 hgrow6); clear hown6 hgrow6)
          go_roundw
          case rel => exact ⟨k + 1, by omega, by go_num, by rw [HYES.out]; exact JobsOwn.grown_map HOW.out H6.out.2 H5.out.1, by rw [HYES.out]; exact ⟨n + 1, by have := HN5.out; omega, StAt.put (w := w6) H5.out.2.2.2.1 H5.out.2.2.2.2 H6.out.1⟩, (H5.out.2.1).drew.grown H6.out.2 (by have := HBM.out.2; simp; omega), H5.out.2.2.1.drew.grown H6.out.2 (by have := H5.out.2.2.1.size; simpa using this) (fun j hj => by cases hj; exact HBM.out.1), hG.out⟩
          case measure => simp [intOf]; omega
      · have e1 : (x.st == 1) = false := by simpa using h1
        have hno : ill (stepS l k).2 x = false := by unfold ill; rw [decide_eq_false h1]; rfl
        have HNO := Lib.hid (stepS_no HG.out.1 hno)
        clear h1 hno
        go_wp2_with fail
        go_roundw
        case rel => exact ⟨k + 1, by omega, by go_num, by rw [HNO.out]; exact hO.out, by rw [HNO.out]; exact ⟨_, by have := HSt.out.1; omega, HSt.out.2⟩, hM.out, hB.out, hG.out⟩
        case measure => simp [intOf]; omega
    · obtain rfl : k = l.length := by omega
      go_wp2_with fail
      go_ret2
      exact ⟨X2, c2, rfl, hO.out, hB.out, HC2.out⟩
theorem settle_ok (d0 d1 d2 bo fr tr ag : Int) (K : Option Addr) (kc : Nat) (ks : List Cls) (hlk : ks.length ≤ 4611686018427387904) (X : Option Addr) (cap : Nat) (l : List JV) (hl : l.length ≤ 1000) (hla : ∀ j ∈ l, j.af.length ≤ 1000) (hw : ∀ j ∈ l, JWf j) (hv : tableV d0 d1 d2 bo fr tr ag ks l = 0) (w : World) (hk : ClsAt w w.heap.size K ks) (hX : JobsAt w X l) :
    Calls Try.prog 43 #[.agg #[.int .i64 d0, .int .i64 d1, .int .i64 d2, .int .i64 bo, .int .i64 fr, .int .i64 tr, .int .i64 ag, .slice K ks.length kc], .slice X l.length cap] w fun e w' => ∃ X' c', e = .returned (.tuple #[.slice X' l.length c', .int .i64 0]) ∧ JobsOwn w' w.heap.size X' (settleV l) ∧ Below w.heap.size w w' :=
  (settle_okC d0 d1 d2 bo fr tr ag K kc ks hlk X cap l hl hla hw hv w hk hX).mono fun _ _ ⟨X', c', h1, h2, h3, _⟩ => ⟨X', c', h1, h2, h3⟩
end Go.Proofs.Ytfpljpdjohmbaaa.DepsSettle
