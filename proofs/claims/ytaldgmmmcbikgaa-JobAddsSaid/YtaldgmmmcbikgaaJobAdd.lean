/- job.Add. -/
import Derived.BigRegion
import Derived.BigQuiet
import Derived.Lib.QuietBelow
import Derived.Deep.QuietTactic
import Derived.Deep.DeepCutAuto
import Derived.Deep.RegionHeld3
import Derived.Deep.MidRow
import Derived.Test.YtaldgmmmcbikgaaJobTable
import Derived.Test.YtaldgmmmcbikgaaJobRow
import Derived.Test.YtaldgmmmcbikgaaQuietRow
namespace Go.Proofs.Ytaldgmmmcbikgaa.JobAdd
open Go.Sort (grow)
open Go.RowKit Mem PosMath PartMath PartClass PartCheck TurnMath TurnWalks TurnFitsV JobMath JobIndex JobPlain JobAfter JobCheck JobFind JobTable JobMem JobTwin JobRow QuietRow
set_option linter.unusedVariables false
set_option linter.unusedSimpArgs false

theorem lacks2 (gl : Nat) (X : Option Addr) (cap : Nat) (l : List JV) (hl : l.length ≤ 4611686018427387904) (n : Int) (w : World) (cl : w.cell? ⟨gl, 0, none⟩ = some (.slice X l.length cap)) (hX : JobsAt w X l) :
    Calls Try.prog 41 #[.int .i64 n, .pointer (some ⟨gl, 0, none⟩)] w fun e w' => e = .returned (.bool (!hasB l n)) ∧ Below w.heap.size w w' := by
  have HF := Lib.hid (has_any X cap l n hl w hX)
  generalize hasB l n = b at *
  clear hX
  go_enter Try.func41, Try.ntmps41
  go_wp2_with fail
  refine HF.out.mono ?_
  rintro e w1 ⟨rfl, hB⟩
  have HB := Lib.hid hB
  clear hB
  go_wp2_with fail
  go_ret
  exact ⟨rfl, HB.out⟩

theorem no_there2 (gl : Nat) (X : Option Addr) (cap : Nat) (l : List JV) (hl : l.length ≤ 4611686018427387904) (x : JV) (Y : Option Addr) (cj : Nat) (hx : x.af.length ≤ 4611686018427387904) (w : World) (cl : w.cell? ⟨gl, 0, none⟩ = some (.slice X l.length cap)) (hX : JobsAt w X l) (hY : IntsAt w Y x.af) :
    Calls Try.prog 33 #[.slice Y x.af.length cj, .func (.func 41) #[] #[.pointer (some ⟨gl, 0, none⟩)]] w fun e w' => e = .returned (.bool (!thereB l x)) ∧ Below w.heap.size w w' := by
  refine (iContainsFunc Y cj x.af (fun _ v => !hasB l v) (fun _ w' => Below w.heap.size w w' ∧ w'.cell? ⟨gl, 0, none⟩ = some (.slice X l.length cap)) 41 #[.pointer (some ⟨gl, 0, none⟩)] hx w ⟨Below.refl _ _, cl⟩ (fun k w' h => hY.up h.1) (enters_of Try.func41 (by kernel_rfl) rfl)
    (fun k v hk w' h => (lacks2 gl X cap l hl v w' h.2 (hX.up h.1)).mono fun e w'' h2 => ⟨h2.1, below_up h.1 h2.2, keep_cell h.2 h2.2⟩)).mono ?_
  rintro e w1 ⟨b, rfl, hb, k, hI⟩
  rw [there_of hb]
  exact ⟨rfl, hI.1⟩

theorem blk3 (w : World) {a b c : Obj} (t : TypeId) (cs : Array Value) : Blk ((((w.alloc a).alloc b).alloc c).alloc (.cells cs t)) (w.heap.size + 1 + 1 + 1) t cs := by
  have h := Blk.new (((w.alloc a).alloc b).alloc c) t cs
  simpa using h
theorem blk4 (w : World) {a b c d : Obj} (t : TypeId) (cs : Array Value) : Blk (((((w.alloc a).alloc b).alloc c).alloc d).alloc (.cells cs t)) (w.heap.size + 1 + 1 + 1 + 1) t cs := by
  have h := Blk.new ((((w.alloc a).alloc b).alloc c).alloc d) t cs
  simpa using h
theorem JobsOwn.from2 {w : World} {B B' : Nat} {X : Option Addr} {l : List JV} (h : JobsOwn w B X l) (hle : B' ≤ B) : JobsOwn w B' X l := fun i j hi => by
  obtain ⟨g, Y, c, e, h1, r⟩ := h i j hi
  exact ⟨g, Y, c, e, Nat.le_trans hle h1, r.1, r.2.1, r.2.2.1, fun h => ((r.2.2.2.1 h).less hle), fun h => by have := (List.getElem?_eq_some_iff.1 hi).1; omega⟩
theorem IntsOwn.far {w : World} {B g : Nat} {Y : Option Addr} {l : List Int} (h : IntsOwn w B g Y l) {p : Addr} (hp : p.block < B) (u : Value) : IntsOwn (w.setCell p u) B g Y l := fun i v hi => by
  obtain ⟨b, o, e, h1, h2, h3, x, f⟩ := h i v hi
  exact ⟨b, o, e, h1, h2, by rw [World.size_setCell]; exact h3, cell_set_far x (by intro e; rw [← e] at hp; simp at hp; omega), by rw [World.frozen?_setCell]; exact f⟩
theorem JobsOwn.far2 {w : World} {B : Nat} {X : Option Addr} {l : List JV} (h : JobsOwn w B X l) {p : Addr} (hp : p.block < B) (u : Value) : JobsOwn (w.setCell p u) B X l := fun i j hi => by
  obtain ⟨g, Y, c, e, h1, h2, x, f, a, _⟩ := h i j hi
  exact ⟨g, Y, c, e, h1, by rw [World.size_setCell]; exact h2, JobAt.far x _ _ (fun t ht e => by rw [← e] at hp; simp at hp; omega), f.set_ _ _, fun h => IntsOwn.far (a h) hp _, fun h => by have := (List.getElem?_eq_some_iff.1 hi).1; omega⟩
theorem reads_blk {W : World} {g : Nat} {t : TypeId} {cs : List Value} (h : Blk W g t cs.toArray) : Reads W (g + 1) cs.length (some ⟨g, 0, none⟩) 1 cs :=
  ⟨by simp, fun _ => ⟨_, rfl, by simp, fun j u hu => by rw [add_flat, Nat.zero_add, h.cell]; simpa using hu⟩⟩
theorem below_set1 {w W : World} {g i : Nat} {v : Value} (hg : w.heap.size ≤ g) (h : Below w.heap.size w W) : Below w.heap.size w (W.setCell ⟨g, i, none⟩ v) := h.setCell (p := ⟨g, i, none⟩) hg v
theorem range_of {W : World} {g : Nat} {t : TypeId} {cs : List Value} (h : Blk W g t cs.toArray) : W.rangeAt g 0 cs := fun i v hi => by
  rw [Nat.zero_add, h.cell]
  simpa using hi
theorem range_up {w w' : World} {b o : Nat} {cs : List Value} (h : w.rangeAt b o cs) (hB : Below w.heap.size w w') : w'.rangeAt b o cs := fun i v hi => keep_cell (h i v hi) hB
theorem one16 {x : JV} {Y : Option Addr} {c : Nat} (u : Value) (hu : u ∈ (x.arr Y c).toList) : u.oneCell' = true := by
  unfold JV.arr at hu
  simp at hu
  rcases hu with rfl | rfl | rfl | rfl | rfl | rfl | rfl | rfl | rfl | rfl | rfl | rfl | rfl | rfl | rfl | rfl <;> rfl
/-- A job that is asked for waits. -/
def asked (j : JV) : JV := { j with st := 1 }
set_option maxRecDepth 100000 in
set_option maxHeartbeats 16000000 in
theorem add_room (d0 d1 d2 bo fr tr ag : Int) (K : Option Addr) (kc : Nat) (ks : List Cls) (hlk : ks.length ≤ 4611686018427387904) (X : Option Addr) (cap : Nat) (l : List JV) (hl : l.length ≤ 1000) (hla : ∀ j ∈ l, j.af.length ≤ 1000) (U : Option Addr) (cu : Nat) (us : List Int) (j : JV) (Y : Option Addr) (cj : Nat) (hja : j.af.length ≤ 1000) (hv : tableV d0 d1 d2 bo fr tr ag ks l = 0) (hc : checkV d0 d1 d2 ks (asked j) = 0) (hlast : ∀ x, l[l.length - 1]? = some x → x.id < j.id) (ht : thereB l j = true) (hn : l.length < 24) (w : World) (hk : ClsAt w w.heap.size K ks) (hX : JobsAt w X l) (hU : IntsAt w U us) (hY : IntsAt w Y j.af) :
    Calls Try.prog 19 #[.agg #[.int .i64 d0, .int .i64 d1, .int .i64 d2, .int .i64 bo, .int .i64 fr, .int .i64 tr, .int .i64 ag, .slice K ks.length kc], .slice X l.length cap, .slice U us.length cu, .agg #[.int .i64 j.id, .int .i64 j.us, .int .i64 j.cl, .int .i64 j.x.a, .int .i64 j.x.b, .int .i64 j.x.c, .bool j.x.p, .bool j.x.q, .bool j.x.r, .bool j.x.tn, .int .i64 j.wa, .int .i64 j.pr, .bool j.he, .slice Y j.af.length cj, .int .u8 j.st, .int .i64 j.ca]] w fun e w' => ∃ X' c', e = .returned (.tuple #[.slice X' (l.length + 1) c', .int .i64 0]) ∧ JobsOwn w' w.heap.size X' (l ++ [asked j]) ∧ Below w.heap.size w w' := by
  have HT := Lib.hid (fun w hk hX => table_any d0 d1 d2 bo fr tr ag K kc ks hlk X cap l (by omega) (fun j hj => by have := hla j hj; omega) w hk hX)
  have HK := Lib.hid hk
  have HX := Lib.hid hX
  have HY := Lib.hid hY
  have HC := Lib.hid (fun w hk hY => jcheck d0 d1 d2 bo fr tr ag K kc ks (asked j) Y cj hlk (show j.af.length ≤ _ by omega) w hk hY)
  have HN := Lib.hid (fun W cl hX hY => no_there2 (w.heap.size + 1) X cap l (by omega) j Y cj (by omega) W cl hX hY)
  have HCL := Lib.hid (fun w hX => jcloneR X cap l hl w hX)
  have HTW := Lib.hid (fun (X1 : Option Addr) (c1 : Nat) (w : World) (h : JobsAt w X1 (l ++ [asked j])) =>
    (show Calls Try.prog 12 #[.slice X1 (l.length + 1) c1] w (fun e w' => ∃ X' c', e = .returned (.slice X' (l.length + 1) c') ∧ JobsOwn w' w.heap.size X' (l ++ [asked j]) ∧ Below w.heap.size w w') from by
      have h2 := twin_any X1 c1 (l ++ [asked j]) (by simp; omega) (fun q hq => by
        rcases List.mem_append.1 hq with h | h
        · exact hla q h
        · obtain rfl : q = asked j := by simpa using h
          exact hja) w h
      rw [List.length_append] at h2
      exact h2))
  rw [hv] at HT
  rw [hc] at HC
  rw [ht] at HN
  obtain ⟨i0, a0, a1, a2, a3⟩ := info_parts job_info
  have HII := Lib.hid (And.intro a0 (And.intro a1 (And.intro a2 a3)))
  have HL := Lib.hid hlast
  have hnl : (l.length : Int) < 24 := by omega
  have HYI := Lib.hid (IntsAt.in_ hY)
  clear hk hX hU hY hv hc ht hlast hla a0 a1 a2 a3
  go_enter Try.func19, Try.ntmps19
  go_upto_region 1 with fail
  have kC : Blk (((((w.alloc (.cells #[.int .i64 d0, .int .i64 d1, .int .i64 d2, .int .i64 bo, .int .i64 fr, .int .i64 tr, .int .i64 ag, .slice K ks.length kc] 26)).alloc (.cells #[.slice X l.length cap] 27)).alloc (.cells #[.int .i64 j.id, .int .i64 j.us, .int .i64 j.cl, .int .i64 j.x.a, .int .i64 j.x.b, .int .i64 j.x.c, .bool j.x.p, .bool j.x.q, .bool j.x.r, .bool j.x.tn, .int .i64 j.wa, .int .i64 j.pr, .bool j.he, .slice Y j.af.length cj, .int .u8 j.st, .int .i64 j.ca] 33)).alloc (.cells #[.slice none 0 0] 27)).alloc (.cells #[.int .i64 0] 36)) (w.heap.size) 26 #[.int .i64 d0, .int .i64 d1, .int .i64 d2, .int .i64 bo, .int .i64 fr, .int .i64 tr, .int .i64 ag, .slice K ks.length kc] := ((((Blk.new w _ _).alloc _).alloc _).alloc _).alloc _
  have kL : Blk (((((w.alloc (.cells #[.int .i64 d0, .int .i64 d1, .int .i64 d2, .int .i64 bo, .int .i64 fr, .int .i64 tr, .int .i64 ag, .slice K ks.length kc] 26)).alloc (.cells #[.slice X l.length cap] 27)).alloc (.cells #[.int .i64 j.id, .int .i64 j.us, .int .i64 j.cl, .int .i64 j.x.a, .int .i64 j.x.b, .int .i64 j.x.c, .bool j.x.p, .bool j.x.q, .bool j.x.r, .bool j.x.tn, .int .i64 j.wa, .int .i64 j.pr, .bool j.he, .slice Y j.af.length cj, .int .u8 j.st, .int .i64 j.ca] 33)).alloc (.cells #[.slice none 0 0] 27)).alloc (.cells #[.int .i64 0] 36)) (w.heap.size + 1) 27 #[.slice X l.length cap] := (((blk1 w _ _).alloc _).alloc _).alloc _
  have kJ : Blk (((((w.alloc (.cells #[.int .i64 d0, .int .i64 d1, .int .i64 d2, .int .i64 bo, .int .i64 fr, .int .i64 tr, .int .i64 ag, .slice K ks.length kc] 26)).alloc (.cells #[.slice X l.length cap] 27)).alloc (.cells #[.int .i64 j.id, .int .i64 j.us, .int .i64 j.cl, .int .i64 j.x.a, .int .i64 j.x.b, .int .i64 j.x.c, .bool j.x.p, .bool j.x.q, .bool j.x.r, .bool j.x.tn, .int .i64 j.wa, .int .i64 j.pr, .bool j.he, .slice Y j.af.length cj, .int .u8 j.st, .int .i64 j.ca] 33)).alloc (.cells #[.slice none 0 0] 27)).alloc (.cells #[.int .i64 0] 36)) (w.heap.size + 1 + 1) 33 #[.int .i64 j.id, .int .i64 j.us, .int .i64 j.cl, .int .i64 j.x.a, .int .i64 j.x.b, .int .i64 j.x.c, .bool j.x.p, .bool j.x.q, .bool j.x.r, .bool j.x.tn, .int .i64 j.wa, .int .i64 j.pr, .bool j.he, .slice Y j.af.length cj, .int .u8 j.st, .int .i64 j.ca] := ((blk2 w _ _).alloc _).alloc _
  have kR : Blk (((((w.alloc (.cells #[.int .i64 d0, .int .i64 d1, .int .i64 d2, .int .i64 bo, .int .i64 fr, .int .i64 tr, .int .i64 ag, .slice K ks.length kc] 26)).alloc (.cells #[.slice X l.length cap] 27)).alloc (.cells #[.int .i64 j.id, .int .i64 j.us, .int .i64 j.cl, .int .i64 j.x.a, .int .i64 j.x.b, .int .i64 j.x.c, .bool j.x.p, .bool j.x.q, .bool j.x.r, .bool j.x.tn, .int .i64 j.wa, .int .i64 j.pr, .bool j.he, .slice Y j.af.length cj, .int .u8 j.st, .int .i64 j.ca] 33)).alloc (.cells #[.slice none 0 0] 27)).alloc (.cells #[.int .i64 0] 36)) (w.heap.size + 1 + 1 + 1) 27 #[.slice none 0 0] := (blk3 w _ _).alloc _
  have kE : Blk (((((w.alloc (.cells #[.int .i64 d0, .int .i64 d1, .int .i64 d2, .int .i64 bo, .int .i64 fr, .int .i64 tr, .int .i64 ag, .slice K ks.length kc] 26)).alloc (.cells #[.slice X l.length cap] 27)).alloc (.cells #[.int .i64 j.id, .int .i64 j.us, .int .i64 j.cl, .int .i64 j.x.a, .int .i64 j.x.b, .int .i64 j.x.c, .bool j.x.p, .bool j.x.q, .bool j.x.r, .bool j.x.tn, .int .i64 j.wa, .int .i64 j.pr, .bool j.he, .slice Y j.af.length cj, .int .u8 j.st, .int .i64 j.ca] 33)).alloc (.cells #[.slice none 0 0] 27)).alloc (.cells #[.int .i64 0] 36)) (w.heap.size + 1 + 1 + 1 + 1) 36 #[.int .i64 0] := blk4 w _ _
  have hb0 : Below w.heap.size w (((((w.alloc (.cells #[.int .i64 d0, .int .i64 d1, .int .i64 d2, .int .i64 bo, .int .i64 fr, .int .i64 tr, .int .i64 ag, .slice K ks.length kc] 26)).alloc (.cells #[.slice X l.length cap] 27)).alloc (.cells #[.int .i64 j.id, .int .i64 j.us, .int .i64 j.cl, .int .i64 j.x.a, .int .i64 j.x.b, .int .i64 j.x.c, .bool j.x.p, .bool j.x.q, .bool j.x.r, .bool j.x.tn, .int .i64 j.wa, .int .i64 j.pr, .bool j.he, .slice Y j.af.length cj, .int .u8 j.st, .int .i64 j.ca] 33)).alloc (.cells #[.slice none 0 0] 27)).alloc (.cells #[.int .i64 0] 36)) := below_alloc (below_alloc (below_alloc (below_alloc (below_alloc (Below.refl _ _)))))
  generalize (((((w.alloc (.cells #[.int .i64 d0, .int .i64 d1, .int .i64 d2, .int .i64 bo, .int .i64 fr, .int .i64 tr, .int .i64 ag, .slice K ks.length kc] 26)).alloc (.cells #[.slice X l.length cap] 27)).alloc (.cells #[.int .i64 j.id, .int .i64 j.us, .int .i64 j.cl, .int .i64 j.x.a, .int .i64 j.x.b, .int .i64 j.x.c, .bool j.x.p, .bool j.x.q, .bool j.x.r, .bool j.x.tn, .int .i64 j.wa, .int .i64 j.pr, .bool j.he, .slice Y j.af.length cj, .int .u8 j.st, .int .i64 j.ca] 33)).alloc (.cells #[.slice none 0 0] 27)).alloc (.cells #[.int .i64 0] 36)) = w0 at *
  have HB0 := Lib.hid hb0
  have KC0 := Lib.hid kC
  have KL0 := Lib.hid kL
  have KJ0 := Lib.hid kJ
  have KR0 := Lib.hid kR
  have KE0 := Lib.hid kE
  have xl : w0.cell? ⟨w.heap.size + 1, 0, none⟩ = some (.slice X l.length cap) := kL.cell 0
  clear hb0 kC kL kJ kR kE
  go_wp2_with (first | (refine wpList_load_row rfl 26 _ rfl _ rfl 26 #[.int .i64 d0, .int .i64 d1, .int .i64 d2, .int .i64 bo, .int .i64 fr, .int .i64 tr, .int .i64 ag, .slice K ks.length kc] (0, 0) _ KC0.out Try.underlying26 rfl (by kernel_rfl) ?_))
  refine (HT.out _ (HK.out.up HB0.out) (HX.out.up HB0.out)).mono ?_
  rintro e w1 ⟨rfl, hB1⟩
  have HB1 := Lib.hid (below_up HB0.out hB1)
  have KC1 := Lib.hid (KC0.out.below hB1 KC0.out.lt)
  have KL1 := Lib.hid (KL0.out.below hB1 KL0.out.lt)
  have KJ1 := Lib.hid (KJ0.out.below hB1 KJ0.out.lt)
  have KR1 := Lib.hid (KR0.out.below hB1 KR0.out.lt)
  have KE1 := Lib.hid (KE0.out.below hB1 KE0.out.lt)
  clear hB1 HB0 KC0 KL0 KJ0 KR0 KE0 xl HT
  have y14 : w1.cell? ⟨w.heap.size + 1 + 1, 14, none⟩ = some (.int .u8 j.st) := KJ1.out.cell 14
  have f14 : w1.frozen? ⟨w.heap.size + 1 + 1, 14, none⟩ = false := KJ1.out.frozen 14
  go_upto_region 5 with fail
  have kj : Blk (w1.setCell ⟨w.heap.size + 1 + 1, 14, none⟩ (.int .u8 1)) (w.heap.size + 1 + 1) 33 #[.int .i64 j.id, .int .i64 j.us, .int .i64 j.cl, .int .i64 j.x.a, .int .i64 j.x.b, .int .i64 j.x.c, .bool j.x.p, .bool j.x.q, .bool j.x.r, .bool j.x.tn, .int .i64 j.wa, .int .i64 j.pr, .bool j.he, .slice Y j.af.length cj, .int .u8 1, .int .i64 j.ca] := KJ1.out.set_ 14 (.int .u8 1)
  have kC := KC1.out.far (p := ⟨w.heap.size + 1 + 1, 14, none⟩) (by show w.heap.size ≠ w.heap.size + 1 + 1; omega) (.int .u8 1)
  have kL := KL1.out.far (p := ⟨w.heap.size + 1 + 1, 14, none⟩) (by show w.heap.size + 1 ≠ w.heap.size + 1 + 1; omega) (.int .u8 1)
  have kR := KR1.out.far (p := ⟨w.heap.size + 1 + 1, 14, none⟩) (by show w.heap.size + 1 + 1 + 1 ≠ w.heap.size + 1 + 1; omega) (.int .u8 1)
  have kE := KE1.out.far (p := ⟨w.heap.size + 1 + 1, 14, none⟩) (by show w.heap.size + 1 + 1 + 1 + 1 ≠ w.heap.size + 1 + 1; omega) (.int .u8 1)
  have hb2 := HB1.out.setCell (p := ⟨w.heap.size + 1 + 1, 14, none⟩) (by show w.heap.size ≤ w.heap.size + 1 + 1; omega) (.int .u8 1)
  clear y14 f14
  generalize (w1.setCell ⟨w.heap.size + 1 + 1, 14, none⟩ (.int .u8 1)) = w2 at *
  have HB2 := Lib.hid hb2
  have KJ2 := Lib.hid kj
  have KC2 := Lib.hid kC
  have KL2 := Lib.hid kL
  have KR2 := Lib.hid kR
  have KE2 := Lib.hid kE
  clear hb2 kj kC kL kR kE HB1 KC1 KL1 KJ1 KR1 KE1
  go_wp2_with (first | (refine wpList_load_row rfl 26 _ rfl _ rfl 26 #[.int .i64 d0, .int .i64 d1, .int .i64 d2, .int .i64 bo, .int .i64 fr, .int .i64 tr, .int .i64 ag, .slice K ks.length kc] (0, 0) _ KC2.out Try.underlying26 rfl (by kernel_rfl) ?_) | (refine wpList_load_row rfl 33 _ rfl _ rfl 33 #[.int .i64 j.id, .int .i64 j.us, .int .i64 j.cl, .int .i64 j.x.a, .int .i64 j.x.b, .int .i64 j.x.c, .bool j.x.p, .bool j.x.q, .bool j.x.r, .bool j.x.tn, .int .i64 j.wa, .int .i64 j.pr, .bool j.he, .slice Y j.af.length cj, .int .u8 1, .int .i64 j.ca] (0, 0) _ KJ2.out Try.underlying33 rfl (by kernel_rfl) ?_))
  refine (HC.out _ (HK.out.up HB2.out) (HY.out.up HB2.out)).mono ?_
  rintro e w3 ⟨rfl, hB3⟩
  have HB3 := Lib.hid (below_up HB2.out hB3)
  have KC3 := Lib.hid (KC2.out.below hB3 KC2.out.lt)
  have KL3 := Lib.hid (KL2.out.below hB3 KL2.out.lt)
  have KJ3 := Lib.hid (KJ2.out.below hB3 KJ2.out.lt)
  have KR3 := Lib.hid (KR2.out.below hB3 KR2.out.lt)
  have KE3 := Lib.hid (KE2.out.below hB3 KE2.out.lt)
  clear hB3 HB2 KC2 KL2 KJ2 KR2 KE2 HC
  have xl : w3.cell? ⟨w.heap.size + 1, 0, none⟩ = some (.slice X l.length cap) := KL3.out.cell 0
  have x0 : w3.cell? ⟨w.heap.size + 1 + 1, 0, none⟩ = some (.int .i64 j.id) := KJ3.out.cell 0
  go_upto_region 9 with fail
  go_cut [30] (fun s wx => s = .bool false ∧ Hid (Below w3.heap.size w3 wx))
  case first =>
    by_cases hz : l.length = 0
    · have d1 : decide (0 < l.length) = false := decide_eq_false (by omega)
      have d2 : ¬ ((0 : Int) < (l.length : Int)) := by omega
      clear hz
      have kq0 := cell_regrown xl
      have kq1 := cell_regrown x0
      refine wp_region_quiet_below (by kernel_rfl) (by kernel_rfl) ?_
      repeat (first | go_big_quiet_step (first | fail))
      refine wpQuiet_nil ?_
      intro _ hw'
      obtain ⟨⟨dq, osq⟩, hw''⟩ := hw'
      subst hw''
      have hBq := below_regrown w3 dq osq
      clear kq0 kq1
      generalize grow (redrawn w3 dq) osq = w4 at *
      have HBq := Lib.hid hBq
      clear hBq
      go_wp2_with fail
      go_meet
      exact ⟨rfl, HBq.out⟩
    · obtain ⟨m, hm⟩ : ∃ m, l.length = m + 1 := ⟨l.length - 1, by omega⟩
      have hg : l[m]? = some (l[m]'(by omega)) := List.getElem?_eq_getElem (by omega)
      generalize l[m]'(by omega) = q at hg
      have hlq := HL.out q (by rw [show l.length - 1 = m by omega]; exact hg)
      obtain ⟨b, o, Y2, c2, hXe, hb, hJ2, _⟩ := HX.out.up HB3.out m q hg
      subst hXe
      have z0 : w3.cell? ⟨b, o + m * 16, none⟩ = some (.int .i64 q.id) := hJ2.1
      have d1 : decide (0 < l.length) = true := decide_eq_true (by omega)
      have d2 : (0 : Int) < (l.length : Int) := by omega
      have hsub : IntKind.i64.wrap ((l.length : Int) - 1) = (m : Int) := by rw [IntWalk.i64_in _ (by omega)]; omega
      have hm0 : (0 : Int) ≤ (m : Int) := by omega
      have hm1 : (m : Int) < (l.length : Int) := by omega
      have hge : ¬ (j.id ≤ q.id) := by omega
      clear hz hg hlq hJ2 hb hm
      have kq0 := cell_regrown xl
      have kq1 := cell_regrown x0
      have kq2 := cell_regrown z0
      refine wp_region_quiet_below (by kernel_rfl) (by kernel_rfl) ?_
      repeat (first | go_big_quiet_step (first | fail))
      refine wpQuiet_nil ?_
      intro _ hw'
      obtain ⟨⟨dq, osq⟩, hw''⟩ := hw'
      subst hw''
      have hBq := below_regrown w3 dq osq
      clear kq0 kq1 kq2
      generalize grow (redrawn w3 dq) osq = w4 at *
      have HBq := Lib.hid hBq
      clear hBq
      go_wp2_with fail
      go_meet
      exact ⟨rfl, HBq.out⟩
  case rest =>
    obtain ⟨rfl, hBc⟩ := hcut
    clear xl x0
    obtain ⟨w4, rfl⟩ : ∃ w4 : World, w4 = wc := ⟨_, rfl⟩
    have hB4 := hBc.out
    clear hBc
    have HB4 := Lib.hid (below_up HB3.out hB4)
    have KC4 := Lib.hid (KC3.out.below hB4 KC3.out.lt)
    have KL4 := Lib.hid (KL3.out.below hB4 KL3.out.lt)
    have KJ4 := Lib.hid (KJ3.out.below hB4 KJ3.out.lt)
    have KR4 := Lib.hid (KR3.out.below hB4 KR3.out.lt)
    have KE4 := Lib.hid (KE3.out.below hB4 KE3.out.lt)
    clear hB4 HB3 KC3 KL3 KJ3 KR3 KE3 
    have x13 : w4.cell? ⟨w.heap.size + 1 + 1, 13, none⟩ = some (.slice Y j.af.length cj) := KJ4.out.cell 13
    go_wp2_with fail
    refine (HN.out _ (KL4.out.cell 0) (HX.out.up HB4.out) (HY.out.up HB4.out)).mono ?_
    rintro e w5 ⟨rfl, hB5⟩
    have HB5 := Lib.hid (below_up HB4.out hB5)
    have KC5 := Lib.hid (KC4.out.below hB5 KC4.out.lt)
    have KL5 := Lib.hid (KL4.out.below hB5 KL4.out.lt)
    have KJ5 := Lib.hid (KJ4.out.below hB5 KJ4.out.lt)
    have KR5 := Lib.hid (KR4.out.below hB5 KR4.out.lt)
    have KE5 := Lib.hid (KE4.out.below hB5 KE4.out.lt)
    clear hB5 HB4 KC4 KL4 KJ4 KR4 KE4 x13 HN
    have xl5 : w5.cell? ⟨w.heap.size + 1, 0, none⟩ = some (.slice X l.length cap) := KL5.out.cell 0
    have HR5 := Lib.hid (range_of KJ5.out)
    go_upto_region 13 with fail
    go_cut [13] (fun s13 wx => ∃ (gb : Nat) (X8 : Option Addr) (c8 : Nat), s13 = .pointer (some ⟨gb, 0, none⟩) ∧ w5.heap.size ≤ gb ∧ Hid (Below w5.heap.size w5 wx) ∧ Hid (Blk wx gb 27 #[.slice X8 (l.length + 1) c8]) ∧ Hid (JobsOwn wx w5.heap.size X8 (l ++ [asked j])))
    case first =>
      refine wp_region_noPanic ?_
      refine wp_region_held_drew (S := (fun W => Below w5.heap.size w5 W)) (by kernel_rfl) ?_ (fun hHeld => ?_)
      · exact (Below.refl _ _).drew
      refine' wpAnyH_take (i := 0) (v := ?v1) rfl (by kernel_rfl) (by kernel_rfl) (by kernel_rfl) (fun _ _ _ h => h) (Or.inl ⟨by rfl, ?y1⟩) (by assumption) ?r1
      case y1 => (intro W hSw; (try dsimp only at hSw); have q0 := keep_cell xl5 hSw; go_simp; try with_reducible rfl)
      (try simp only [Act.put, List.setIfInBounds_toArray, List.set_cons_zero, List.set_cons_succ])
      refine' wpAnyH_take (i := 2) (v := _) rfl (by kernel_rfl) (by kernel_rfl) (by kernel_rfl) (fun _ _ _ h => h) (yieldsIf_load_mid (by rfl) _ _ rfl _ _ rfl [.int .i64 j.id, .int .i64 j.us, .int .i64 j.cl, .int .i64 j.x.a, .int .i64 j.x.b, .int .i64 j.x.c, .bool j.x.p, .bool j.x.q, .bool j.x.r, .bool j.x.tn, .int .i64 j.wa, .int .i64 j.pr, .bool j.he, .slice Y j.af.length cj, .int .u8 1, .int .i64 j.ca] _ (fun W hW => range_up HR5.out hW) Try.underlying33 rfl (by kernel_rfl)) (by assumption) ?r2
      (try simp only [Act.put, List.setIfInBounds_toArray, List.set_cons_zero, List.set_cons_succ])
      refine wpAnyH_ready (rs := [1, 3, 6]) (by kernel_rfl) (by simp) ?_
      refine AllReadyH.cons (i := 1) rfl (fun K hK => ?_) ?_
      · go_simp
        refine (HCL.out (World.drew w5) (HX.out.up (below_up HB5.out (Below.refl _ _).drew))).mono ?_
        rintro e w6 ⟨v, raw, rfl, hR, hB6⟩
        have KB6 := Lib.hid (below_up (Below.refl _ _).drew hB6)
        obtain ⟨BB, hb1, hb2, hR⟩ : ∃ BB, w5.heap.size ≤ BB ∧ BB ≤ w6.heap.size ∧ RowOf w6 BB BB v l raw := ⟨_, (show Below w5.heap.size w5 (World.drew w5) from (Below.refl _ _).drew).size, hB6.size, hR⟩
        have HR6 := Lib.hid hR
        have HS6 := Lib.hid (And.intro hb1 hb2)
        clear hR hB6 hb1 hb2
        (try dsimp only)
        refine hK.out _ _ ?_ (fun hHeld => ?_)
        · exact KB6.out
        clear hK K
        (try simp only [Act.put, List.setIfInBounds_toArray, List.set_cons_zero, List.set_cons_succ])
        refine wpAnyH_ready (rs := [3, 6]) (by kernel_rfl) (by simp) ?_
        refine AllReadyH.cons (i := 3) rfl (fun K hK => ?_) ?_
        · go_simp
          refine hK.out _ _ ?_ (fun hHeld => ?_)
          · exact (below_alloc KB6.out)
          clear hK K
          (try simp only [Act.put, List.setIfInBounds_toArray, List.set_cons_zero, List.set_cons_succ])
          refine wpAnyH_ready (rs := [4, 6]) (by kernel_rfl) (by simp) ?_
          refine AllReadyH.cons (i := 4) rfl (fun K hK => ?_) ?_
          · have HRa : Hid (RowOf (World.alloc w6 (.cells #[.int .i64 j.id, .int .i64 j.us, .int .i64 j.cl, .int .i64 j.x.a, .int .i64 j.x.b, .int .i64 j.x.c, .bool j.x.p, .bool j.x.q, .bool j.x.r, .bool j.x.tn, .int .i64 j.wa, .int .i64 j.pr, .bool j.he, .slice Y j.af.length cj, .int .u8 1, .int .i64 j.ca] 33)) BB BB v l raw) := RowOf.up HR6.out (below_alloc (Below.refl _ _))
            have HYa : Hid (IntsIn (World.alloc w6 (.cells #[.int .i64 j.id, .int .i64 j.us, .int .i64 j.cl, .int .i64 j.x.a, .int .i64 j.x.b, .int .i64 j.x.c, .bool j.x.p, .bool j.x.q, .bool j.x.r, .bool j.x.tn, .int .i64 j.wa, .int .i64 j.pr, .bool j.he, .slice Y j.af.length cj, .int .u8 1, .int .i64 j.ca] 33)) BB Y j.af) := (IntsIn.more (HYI.out.up (below_up HB5.out (below_alloc KB6.out))) (Nat.le_trans HB5.out.size HS6.out.1))
            refine step_append_any _ rfl (.tmp 50) (.tmp 52) _ rfl BB 33 i0 (.agg #[.int .i64 0, .int .i64 0, .int .i64 0, .int .i64 0, .int .i64 0, .int .i64 0, .bool false, .bool false, .bool false, .bool false, .int .i64 0, .int .i64 0, .bool false, .slice none 0 0, .int .u8 0, .int .i64 0]) 16 120 Try.underlying27 HII.out.1 HII.out.2.1 HII.out.2.2.1 HII.out.2.2.2 rfl (by decide) v _ raw rfl HRa.out.1 _ _ 1 1 ((asked j).arr Y cj).toList rfl (reads_blk (cs := ((asked j).arr Y cj).toList) (show Blk (World.alloc w6 (.cells #[.int .i64 j.id, .int .i64 j.us, .int .i64 j.cl, .int .i64 j.x.a, .int .i64 j.x.b, .int .i64 j.x.c, .bool j.x.p, .bool j.x.q, .bool j.x.r, .bool j.x.tn, .int .i64 j.wa, .int .i64 j.pr, .bool j.he, .slice Y j.af.length cj, .int .u8 1, .int .i64 j.ca] 33)) (w6.heap.size) 33 ((asked j).arr Y cj) from (Blk.new _ _ _))) (fun u hu => one16 u hu) (by simp only [maxLen]; omega) (by omega) (Nat.le_trans HS6.out.2 (show Below w6.heap.size w6 (World.alloc w6 (.cells #[.int .i64 j.id, .int .i64 j.us, .int .i64 j.cl, .int .i64 j.x.a, .int .i64 j.x.b, .int .i64 j.x.c, .bool j.x.p, .bool j.x.q, .bool j.x.r, .bool j.x.tn, .int .i64 j.wa, .int .i64 j.pr, .bool j.he, .slice Y j.af.length cj, .int .u8 1, .int .i64 j.ca] 33)) from (below_alloc (Below.refl _ _))).size) ?_
            intro v7 w7 hown hg hat
            have KBa : Below w5.heap.size w5 (World.alloc w6 (.cells #[.int .i64 j.id, .int .i64 j.us, .int .i64 j.cl, .int .i64 j.x.a, .int .i64 j.x.b, .int .i64 j.x.c, .bool j.x.p, .bool j.x.q, .bool j.x.r, .bool j.x.tn, .int .i64 j.wa, .int .i64 j.pr, .bool j.he, .slice Y j.af.length cj, .int .u8 1, .int .i64 j.ca] 33)) := (below_alloc KB6.out)
            have KB7 : Hid (Below w5.heap.size w5 w7) := Below.grown KBa hg KBa.size (fun k hk => Nat.le_trans HS6.out.1 (row_block_ge HRa.out.1 hk))
            clear KBa
            have hR7 := RowOf.append (j := asked j) HRa.out HYa.out hg hown
            obtain ⟨X7, c7, e7, hJ7⟩ := RowOf.jobs hR7
            rw [show (l ++ [asked j]).length = l.length + 1 by simp] at e7
            subst e7
            have HJ7 := Lib.hid hJ7
            clear hown hg hat hR7 hJ7 HRa HYa
            refine hK.out _ _ ?_ (fun hHeld => ?_)
            · exact KB7.out
            clear hK K
            (try simp only [Act.put, List.setIfInBounds_toArray, List.set_cons_zero, List.set_cons_succ])
            refine wpAnyH_ready (rs := [5, 6]) (by kernel_rfl) (by simp) ?_
            refine AllReadyH.cons (i := 5) rfl (fun K hK => ?_) ?_
            · go_simp
              refine (HTW.out X7 c7 w7 (JobsAt.up HJ7.out (Below.refl _ _))).mono ?_
              rintro e w8 ⟨X8, c8, rfl, hO, hB8⟩
              have KB8 := Lib.hid (below_up KB7.out hB8)
              obtain ⟨B8, hb1, hb2, hb3, hO⟩ : ∃ B8, w5.heap.size ≤ B8 ∧ B8 ≤ w8.heap.size ∧ True ∧ JobsOwn w8 B8 X8 (l ++ [asked j]) := ⟨_, (show Below w5.heap.size w5 w7 from KB7.out).size, hB8.size, trivial, hO⟩
              have HO8 := Lib.hid hO
              have HS8 := Lib.hid (And.intro hb1 (And.intro hb2 hb3))
              clear hO hB8 hb1 hb2 hb3
              (try dsimp only)
              refine hK.out _ _ ?_ (fun hHeld => ?_)
              · exact KB8.out
              clear hK K
              (try simp only [Act.put, List.setIfInBounds_toArray, List.set_cons_zero, List.set_cons_succ])
              refine wpAnyH_ready (rs := [6]) (by kernel_rfl) (by simp) ?_
              refine AllReadyH.cons (i := 6) rfl (fun K hK => ?_) ?_
              · go_simp
                refine hK.out _ _ ?_ (fun hHeld => ?_)
                · exact (below_alloc KB8.out)
                clear hK K
                (try simp only [Act.put, List.setIfInBounds_toArray, List.set_cons_zero, List.set_cons_succ])
                refine wpAnyH_ready (rs := [7]) (by kernel_rfl) (by simp) ?_
                refine AllReadyH.cons (i := 7) rfl (fun K hK => ?_) ?_
                · go_simp
                  refine hK.out _ _ ?_ (fun hHeld => ?_)
                  · exact (below_alloc KB8.out)
                  clear hK K
                  (try simp only [Act.put, List.setIfInBounds_toArray, List.set_cons_zero, List.set_cons_succ])
                  refine wpAnyH_done (by kernel_rfl) ?_ _
                  refine NoPanic.normal ?_
                  go_wp2_with fail
                  go_meet
                  exact ⟨_, X8, c8, rfl, KB8.out.size, below_alloc KB8.out, Blk.new _ _ _, (JobsOwn.from2 HO8.out HS8.out.1).up (below_alloc (Below.refl _ _))⟩
                exact AllReadyH.nil
              exact AllReadyH.nil
            refine AllReadyH.cons (i := 6) rfl (fun K hK => ?_) ?_
            · go_simp
              refine hK.out _ _ ?_ (fun hHeld => ?_)
              · exact (below_alloc KB7.out)
              clear hK K
              (try simp only [Act.put, List.setIfInBounds_toArray, List.set_cons_zero, List.set_cons_succ])
              refine wpAnyH_ready (rs := [5]) (by kernel_rfl) (by simp) ?_
              refine AllReadyH.cons (i := 5) rfl (fun K hK => ?_) ?_
              · go_simp
                refine (HTW.out X7 c7 (World.alloc w7 (.cells #[.slice none 0 0] 27)) (JobsAt.up HJ7.out (below_alloc (Below.refl _ _)))).mono ?_
                rintro e w8 ⟨X8, c8, rfl, hO, hB8⟩
                have KB8 := Lib.hid (below_up (below_alloc KB7.out) hB8)
                obtain ⟨B8, hb1, hb2, hb3, hO⟩ : ∃ B8, w5.heap.size ≤ B8 ∧ B8 ≤ w8.heap.size ∧ w7.heap.size < B8 ∧ JobsOwn w8 B8 X8 (l ++ [asked j]) := ⟨_, (show Below w5.heap.size w5 (World.alloc w7 (.cells #[.slice none 0 0] 27)) from (below_alloc KB7.out)).size, hB8.size, Blk.lt (Blk.new _ _ _), hO⟩
                have k6 : Blk w8 (w7.heap.size) 27 #[.slice none 0 0] := Blk.below (Blk.new _ _ _) hB8 (Blk.lt (Blk.new _ _ _))
                have y6 : w8.cell? ⟨w7.heap.size, 0, none⟩ = some (.slice none 0 0) := k6.cell 0
                have f6 : w8.frozen? ⟨w7.heap.size, 0, none⟩ = false := k6.frozen 0
                have KX8 := Lib.hid k6
                clear k6
                have HGB := Lib.hid (show w5.heap.size ≤ w7.heap.size from KB7.out.size)
                have HO8 := Lib.hid hO
                have HS8 := Lib.hid (And.intro hb1 (And.intro hb2 hb3))
                clear hO hB8 hb1 hb2 hb3
                (try dsimp only)
                refine hK.out _ _ ?_ (fun hHeld => ?_)
                · exact KB8.out
                clear hK K
                (try simp only [Act.put, List.setIfInBounds_toArray, List.set_cons_zero, List.set_cons_succ])
                refine wpAnyH_ready (rs := [7]) (by kernel_rfl) (by simp) ?_
                refine AllReadyH.cons (i := 7) rfl (fun K hK => ?_) ?_
                · go_simp
                  refine hK.out _ _ ?_ (fun hHeld => ?_)
                  · exact (below_set1 HGB.out KB8.out)
                  clear hK K
                  (try simp only [Act.put, List.setIfInBounds_toArray, List.set_cons_zero, List.set_cons_succ])
                  refine wpAnyH_done (by kernel_rfl) ?_ _
                  refine NoPanic.normal ?_
                  go_wp2_with fail
                  go_meet
                  exact ⟨_, X8, c8, rfl, HGB.out, below_set1 HGB.out KB8.out, KX8.out.set_ 0 _, JobsOwn.from2 (JobsOwn.far2 (p := ⟨w7.heap.size, 0, none⟩) HO8.out HS8.out.2.2 _) HS8.out.1⟩
                exact AllReadyH.nil
              exact AllReadyH.nil
            exact AllReadyH.nil
          refine AllReadyH.cons (i := 6) rfl (fun K hK => ?_) ?_
          · go_simp
            refine hK.out _ _ ?_ (fun hHeld => ?_)
            · exact (below_alloc (below_alloc KB6.out))
            clear hK K
            (try simp only [Act.put, List.setIfInBounds_toArray, List.set_cons_zero, List.set_cons_succ])
            refine wpAnyH_ready (rs := [4]) (by kernel_rfl) (by simp) ?_
            refine AllReadyH.cons (i := 4) rfl (fun K hK => ?_) ?_
            · have HRa : Hid (RowOf (World.alloc (World.alloc w6 (.cells #[.int .i64 j.id, .int .i64 j.us, .int .i64 j.cl, .int .i64 j.x.a, .int .i64 j.x.b, .int .i64 j.x.c, .bool j.x.p, .bool j.x.q, .bool j.x.r, .bool j.x.tn, .int .i64 j.wa, .int .i64 j.pr, .bool j.he, .slice Y j.af.length cj, .int .u8 1, .int .i64 j.ca] 33)) (.cells #[.slice none 0 0] 27)) BB BB v l raw) := RowOf.up HR6.out (below_alloc (below_alloc (Below.refl _ _)))
              have HYa : Hid (IntsIn (World.alloc (World.alloc w6 (.cells #[.int .i64 j.id, .int .i64 j.us, .int .i64 j.cl, .int .i64 j.x.a, .int .i64 j.x.b, .int .i64 j.x.c, .bool j.x.p, .bool j.x.q, .bool j.x.r, .bool j.x.tn, .int .i64 j.wa, .int .i64 j.pr, .bool j.he, .slice Y j.af.length cj, .int .u8 1, .int .i64 j.ca] 33)) (.cells #[.slice none 0 0] 27)) BB Y j.af) := (IntsIn.more (HYI.out.up (below_up HB5.out (below_alloc (below_alloc KB6.out)))) (Nat.le_trans HB5.out.size HS6.out.1))
              refine step_append_any _ rfl (.tmp 50) (.tmp 52) _ rfl BB 33 i0 (.agg #[.int .i64 0, .int .i64 0, .int .i64 0, .int .i64 0, .int .i64 0, .int .i64 0, .bool false, .bool false, .bool false, .bool false, .int .i64 0, .int .i64 0, .bool false, .slice none 0 0, .int .u8 0, .int .i64 0]) 16 120 Try.underlying27 HII.out.1 HII.out.2.1 HII.out.2.2.1 HII.out.2.2.2 rfl (by decide) v _ raw rfl HRa.out.1 _ _ 1 1 ((asked j).arr Y cj).toList rfl (reads_blk (cs := ((asked j).arr Y cj).toList) (show Blk (World.alloc (World.alloc w6 (.cells #[.int .i64 j.id, .int .i64 j.us, .int .i64 j.cl, .int .i64 j.x.a, .int .i64 j.x.b, .int .i64 j.x.c, .bool j.x.p, .bool j.x.q, .bool j.x.r, .bool j.x.tn, .int .i64 j.wa, .int .i64 j.pr, .bool j.he, .slice Y j.af.length cj, .int .u8 1, .int .i64 j.ca] 33)) (.cells #[.slice none 0 0] 27)) (w6.heap.size) 33 ((asked j).arr Y cj) from ((Blk.new _ _ _).alloc _))) (fun u hu => one16 u hu) (by simp only [maxLen]; omega) (by omega) (Nat.le_trans HS6.out.2 (show Below w6.heap.size w6 (World.alloc (World.alloc w6 (.cells #[.int .i64 j.id, .int .i64 j.us, .int .i64 j.cl, .int .i64 j.x.a, .int .i64 j.x.b, .int .i64 j.x.c, .bool j.x.p, .bool j.x.q, .bool j.x.r, .bool j.x.tn, .int .i64 j.wa, .int .i64 j.pr, .bool j.he, .slice Y j.af.length cj, .int .u8 1, .int .i64 j.ca] 33)) (.cells #[.slice none 0 0] 27)) from (below_alloc (below_alloc (Below.refl _ _)))).size) ?_
              intro v7 w7 hown hg hat
              have KBa : Below w5.heap.size w5 (World.alloc (World.alloc w6 (.cells #[.int .i64 j.id, .int .i64 j.us, .int .i64 j.cl, .int .i64 j.x.a, .int .i64 j.x.b, .int .i64 j.x.c, .bool j.x.p, .bool j.x.q, .bool j.x.r, .bool j.x.tn, .int .i64 j.wa, .int .i64 j.pr, .bool j.he, .slice Y j.af.length cj, .int .u8 1, .int .i64 j.ca] 33)) (.cells #[.slice none 0 0] 27)) := (below_alloc (below_alloc KB6.out))
              have KB7 : Hid (Below w5.heap.size w5 w7) := Below.grown KBa hg KBa.size (fun k hk => Nat.le_trans HS6.out.1 (row_block_ge HRa.out.1 hk))
              clear KBa
              have hR7 := RowOf.append (j := asked j) HRa.out HYa.out hg hown
              obtain ⟨X7, c7, e7, hJ7⟩ := RowOf.jobs hR7
              rw [show (l ++ [asked j]).length = l.length + 1 by simp] at e7
              have k6 : Blk w7 (w6.heap.size + 1) 27 #[.slice none 0 0] := Blk.grown (blk1 _ _ _) hg (Ne.symm (own_blk_ne HRa.out.1 (blk1 _ _ _) (by decide)))
              have KX7 := Lib.hid k6
              clear k6
              subst e7
              have HJ7 := Lib.hid hJ7
              clear hown hg hat hR7 hJ7 HRa HYa
              refine hK.out _ _ ?_ (fun hHeld => ?_)
              · exact KB7.out
              clear hK K
              (try simp only [Act.put, List.setIfInBounds_toArray, List.set_cons_zero, List.set_cons_succ])
              refine wpAnyH_ready (rs := [5]) (by kernel_rfl) (by simp) ?_
              refine AllReadyH.cons (i := 5) rfl (fun K hK => ?_) ?_
              · go_simp
                refine (HTW.out X7 c7 w7 (JobsAt.up HJ7.out (Below.refl _ _))).mono ?_
                rintro e w8 ⟨X8, c8, rfl, hO, hB8⟩
                have KB8 := Lib.hid (below_up KB7.out hB8)
                obtain ⟨B8, hb1, hb2, hb3, hO⟩ : ∃ B8, w5.heap.size ≤ B8 ∧ B8 ≤ w8.heap.size ∧ w6.heap.size + 1 < B8 ∧ JobsOwn w8 B8 X8 (l ++ [asked j]) := ⟨_, (show Below w5.heap.size w5 w7 from KB7.out).size, hB8.size, Blk.lt KX7.out, hO⟩
                have k6 : Blk w8 (w6.heap.size + 1) 27 #[.slice none 0 0] := Blk.below KX7.out hB8 (Blk.lt KX7.out)
                have y6 : w8.cell? ⟨w6.heap.size + 1, 0, none⟩ = some (.slice none 0 0) := k6.cell 0
                have f6 : w8.frozen? ⟨w6.heap.size + 1, 0, none⟩ = false := k6.frozen 0
                have KX8 := Lib.hid k6
                clear k6
                have HGB := Lib.hid (show w5.heap.size ≤ w6.heap.size + 1 from Nat.le_succ_of_le KB6.out.size)
                have HO8 := Lib.hid hO
                have HS8 := Lib.hid (And.intro hb1 (And.intro hb2 hb3))
                clear hO hB8 hb1 hb2 hb3
                (try dsimp only)
                refine hK.out _ _ ?_ (fun hHeld => ?_)
                · exact KB8.out
                clear hK K
                (try simp only [Act.put, List.setIfInBounds_toArray, List.set_cons_zero, List.set_cons_succ])
                refine wpAnyH_ready (rs := [7]) (by kernel_rfl) (by simp) ?_
                refine AllReadyH.cons (i := 7) rfl (fun K hK => ?_) ?_
                · go_simp
                  refine hK.out _ _ ?_ (fun hHeld => ?_)
                  · exact (below_set1 HGB.out KB8.out)
                  clear hK K
                  (try simp only [Act.put, List.setIfInBounds_toArray, List.set_cons_zero, List.set_cons_succ])
                  refine wpAnyH_done (by kernel_rfl) ?_ _
                  refine NoPanic.normal ?_
                  go_wp2_with fail
                  go_meet
                  exact ⟨_, X8, c8, rfl, HGB.out, below_set1 HGB.out KB8.out, KX8.out.set_ 0 _, JobsOwn.from2 (JobsOwn.far2 (p := ⟨w6.heap.size + 1, 0, none⟩) HO8.out HS8.out.2.2 _) HS8.out.1⟩
                exact AllReadyH.nil
              exact AllReadyH.nil
            exact AllReadyH.nil
          exact AllReadyH.nil
        refine AllReadyH.cons (i := 6) rfl (fun K hK => ?_) ?_
        · go_simp
          refine hK.out _ _ ?_ (fun hHeld => ?_)
          · exact (below_alloc KB6.out)
          clear hK K
          (try simp only [Act.put, List.setIfInBounds_toArray, List.set_cons_zero, List.set_cons_succ])
          refine wpAnyH_ready (rs := [3]) (by kernel_rfl) (by simp) ?_
          refine AllReadyH.cons (i := 3) rfl (fun K hK => ?_) ?_
          · go_simp
            refine hK.out _ _ ?_ (fun hHeld => ?_)
            · exact (below_alloc (below_alloc KB6.out))
            clear hK K
            (try simp only [Act.put, List.setIfInBounds_toArray, List.set_cons_zero, List.set_cons_succ])
            refine wpAnyH_ready (rs := [4]) (by kernel_rfl) (by simp) ?_
            refine AllReadyH.cons (i := 4) rfl (fun K hK => ?_) ?_
            · have HRa : Hid (RowOf (World.alloc (World.alloc w6 (.cells #[.slice none 0 0] 27)) (.cells #[.int .i64 j.id, .int .i64 j.us, .int .i64 j.cl, .int .i64 j.x.a, .int .i64 j.x.b, .int .i64 j.x.c, .bool j.x.p, .bool j.x.q, .bool j.x.r, .bool j.x.tn, .int .i64 j.wa, .int .i64 j.pr, .bool j.he, .slice Y j.af.length cj, .int .u8 1, .int .i64 j.ca] 33)) BB BB v l raw) := RowOf.up HR6.out (below_alloc (below_alloc (Below.refl _ _)))
              have HYa : Hid (IntsIn (World.alloc (World.alloc w6 (.cells #[.slice none 0 0] 27)) (.cells #[.int .i64 j.id, .int .i64 j.us, .int .i64 j.cl, .int .i64 j.x.a, .int .i64 j.x.b, .int .i64 j.x.c, .bool j.x.p, .bool j.x.q, .bool j.x.r, .bool j.x.tn, .int .i64 j.wa, .int .i64 j.pr, .bool j.he, .slice Y j.af.length cj, .int .u8 1, .int .i64 j.ca] 33)) BB Y j.af) := (IntsIn.more (HYI.out.up (below_up HB5.out (below_alloc (below_alloc KB6.out)))) (Nat.le_trans HB5.out.size HS6.out.1))
              refine step_append_any _ rfl (.tmp 50) (.tmp 52) _ rfl BB 33 i0 (.agg #[.int .i64 0, .int .i64 0, .int .i64 0, .int .i64 0, .int .i64 0, .int .i64 0, .bool false, .bool false, .bool false, .bool false, .int .i64 0, .int .i64 0, .bool false, .slice none 0 0, .int .u8 0, .int .i64 0]) 16 120 Try.underlying27 HII.out.1 HII.out.2.1 HII.out.2.2.1 HII.out.2.2.2 rfl (by decide) v _ raw rfl HRa.out.1 _ _ 1 1 ((asked j).arr Y cj).toList rfl (reads_blk (cs := ((asked j).arr Y cj).toList) (show Blk (World.alloc (World.alloc w6 (.cells #[.slice none 0 0] 27)) (.cells #[.int .i64 j.id, .int .i64 j.us, .int .i64 j.cl, .int .i64 j.x.a, .int .i64 j.x.b, .int .i64 j.x.c, .bool j.x.p, .bool j.x.q, .bool j.x.r, .bool j.x.tn, .int .i64 j.wa, .int .i64 j.pr, .bool j.he, .slice Y j.af.length cj, .int .u8 1, .int .i64 j.ca] 33)) (w6.heap.size + 1) 33 ((asked j).arr Y cj) from (blk1 _ _ _))) (fun u hu => one16 u hu) (by simp only [maxLen]; omega) (by omega) (Nat.le_trans HS6.out.2 (show Below w6.heap.size w6 (World.alloc (World.alloc w6 (.cells #[.slice none 0 0] 27)) (.cells #[.int .i64 j.id, .int .i64 j.us, .int .i64 j.cl, .int .i64 j.x.a, .int .i64 j.x.b, .int .i64 j.x.c, .bool j.x.p, .bool j.x.q, .bool j.x.r, .bool j.x.tn, .int .i64 j.wa, .int .i64 j.pr, .bool j.he, .slice Y j.af.length cj, .int .u8 1, .int .i64 j.ca] 33)) from (below_alloc (below_alloc (Below.refl _ _)))).size) ?_
              intro v7 w7 hown hg hat
              have KBa : Below w5.heap.size w5 (World.alloc (World.alloc w6 (.cells #[.slice none 0 0] 27)) (.cells #[.int .i64 j.id, .int .i64 j.us, .int .i64 j.cl, .int .i64 j.x.a, .int .i64 j.x.b, .int .i64 j.x.c, .bool j.x.p, .bool j.x.q, .bool j.x.r, .bool j.x.tn, .int .i64 j.wa, .int .i64 j.pr, .bool j.he, .slice Y j.af.length cj, .int .u8 1, .int .i64 j.ca] 33)) := (below_alloc (below_alloc KB6.out))
              have KB7 : Hid (Below w5.heap.size w5 w7) := Below.grown KBa hg KBa.size (fun k hk => Nat.le_trans HS6.out.1 (row_block_ge HRa.out.1 hk))
              clear KBa
              have hR7 := RowOf.append (j := asked j) HRa.out HYa.out hg hown
              obtain ⟨X7, c7, e7, hJ7⟩ := RowOf.jobs hR7
              rw [show (l ++ [asked j]).length = l.length + 1 by simp] at e7
              have k6 : Blk w7 (w6.heap.size) 27 #[.slice none 0 0] := Blk.grown ((Blk.new _ _ _).alloc _) hg (Ne.symm (own_blk_ne HRa.out.1 ((Blk.new _ _ _).alloc _) (by decide)))
              have KX7 := Lib.hid k6
              clear k6
              subst e7
              have HJ7 := Lib.hid hJ7
              clear hown hg hat hR7 hJ7 HRa HYa
              refine hK.out _ _ ?_ (fun hHeld => ?_)
              · exact KB7.out
              clear hK K
              (try simp only [Act.put, List.setIfInBounds_toArray, List.set_cons_zero, List.set_cons_succ])
              refine wpAnyH_ready (rs := [5]) (by kernel_rfl) (by simp) ?_
              refine AllReadyH.cons (i := 5) rfl (fun K hK => ?_) ?_
              · go_simp
                refine (HTW.out X7 c7 w7 (JobsAt.up HJ7.out (Below.refl _ _))).mono ?_
                rintro e w8 ⟨X8, c8, rfl, hO, hB8⟩
                have KB8 := Lib.hid (below_up KB7.out hB8)
                obtain ⟨B8, hb1, hb2, hb3, hO⟩ : ∃ B8, w5.heap.size ≤ B8 ∧ B8 ≤ w8.heap.size ∧ w6.heap.size < B8 ∧ JobsOwn w8 B8 X8 (l ++ [asked j]) := ⟨_, (show Below w5.heap.size w5 w7 from KB7.out).size, hB8.size, Blk.lt KX7.out, hO⟩
                have k6 : Blk w8 (w6.heap.size) 27 #[.slice none 0 0] := Blk.below KX7.out hB8 (Blk.lt KX7.out)
                have y6 : w8.cell? ⟨w6.heap.size, 0, none⟩ = some (.slice none 0 0) := k6.cell 0
                have f6 : w8.frozen? ⟨w6.heap.size, 0, none⟩ = false := k6.frozen 0
                have KX8 := Lib.hid k6
                clear k6
                have HGB := Lib.hid (show w5.heap.size ≤ w6.heap.size from KB6.out.size)
                have HO8 := Lib.hid hO
                have HS8 := Lib.hid (And.intro hb1 (And.intro hb2 hb3))
                clear hO hB8 hb1 hb2 hb3
                (try dsimp only)
                refine hK.out _ _ ?_ (fun hHeld => ?_)
                · exact KB8.out
                clear hK K
                (try simp only [Act.put, List.setIfInBounds_toArray, List.set_cons_zero, List.set_cons_succ])
                refine wpAnyH_ready (rs := [7]) (by kernel_rfl) (by simp) ?_
                refine AllReadyH.cons (i := 7) rfl (fun K hK => ?_) ?_
                · go_simp
                  refine hK.out _ _ ?_ (fun hHeld => ?_)
                  · exact (below_set1 HGB.out KB8.out)
                  clear hK K
                  (try simp only [Act.put, List.setIfInBounds_toArray, List.set_cons_zero, List.set_cons_succ])
                  refine wpAnyH_done (by kernel_rfl) ?_ _
                  refine NoPanic.normal ?_
                  go_wp2_with fail
                  go_meet
                  exact ⟨_, X8, c8, rfl, HGB.out, below_set1 HGB.out KB8.out, KX8.out.set_ 0 _, JobsOwn.from2 (JobsOwn.far2 (p := ⟨w6.heap.size, 0, none⟩) HO8.out HS8.out.2.2 _) HS8.out.1⟩
                exact AllReadyH.nil
              exact AllReadyH.nil
            exact AllReadyH.nil
          exact AllReadyH.nil
        exact AllReadyH.nil
      refine AllReadyH.cons (i := 3) rfl (fun K hK => ?_) ?_
      · go_simp
        refine hK.out _ _ ?_ (fun hHeld => ?_)
        · exact (below_alloc (Below.refl _ _)).drew
        clear hK K
        (try simp only [Act.put, List.setIfInBounds_toArray, List.set_cons_zero, List.set_cons_succ])
        refine wpAnyH_ready (rs := [1, 6]) (by kernel_rfl) (by simp) ?_
        refine AllReadyH.cons (i := 1) rfl (fun K hK => ?_) ?_
        · go_simp
          refine (HCL.out (World.drew (World.alloc w5 (.cells #[.int .i64 j.id, .int .i64 j.us, .int .i64 j.cl, .int .i64 j.x.a, .int .i64 j.x.b, .int .i64 j.x.c, .bool j.x.p, .bool j.x.q, .bool j.x.r, .bool j.x.tn, .int .i64 j.wa, .int .i64 j.pr, .bool j.he, .slice Y j.af.length cj, .int .u8 1, .int .i64 j.ca] 33))) (HX.out.up (below_up HB5.out (below_alloc (Below.refl _ _)).drew))).mono ?_
          rintro e w6 ⟨v, raw, rfl, hR, hB6⟩
          have KB6 := Lib.hid (below_up (below_alloc (Below.refl _ _)).drew hB6)
          obtain ⟨BB, hb1, hb2, hR⟩ : ∃ BB, w5.heap.size ≤ BB ∧ BB ≤ w6.heap.size ∧ RowOf w6 BB BB v l raw := ⟨_, (show Below w5.heap.size w5 (World.drew (World.alloc w5 (.cells #[.int .i64 j.id, .int .i64 j.us, .int .i64 j.cl, .int .i64 j.x.a, .int .i64 j.x.b, .int .i64 j.x.c, .bool j.x.p, .bool j.x.q, .bool j.x.r, .bool j.x.tn, .int .i64 j.wa, .int .i64 j.pr, .bool j.he, .slice Y j.af.length cj, .int .u8 1, .int .i64 j.ca] 33))) from (below_alloc (Below.refl _ _)).drew).size, hB6.size, hR⟩
          have k3 : Blk w6 (w5.heap.size) 33 #[.int .i64 j.id, .int .i64 j.us, .int .i64 j.cl, .int .i64 j.x.a, .int .i64 j.x.b, .int .i64 j.x.c, .bool j.x.p, .bool j.x.q, .bool j.x.r, .bool j.x.tn, .int .i64 j.wa, .int .i64 j.pr, .bool j.he, .slice Y j.af.length cj, .int .u8 1, .int .i64 j.ca] := Blk.below (Blk.new _ _ _).drew hB6 (Blk.lt (Blk.new _ _ _).drew)
          have KS6 := Lib.hid k3
          clear k3
          have HR6 := Lib.hid hR
          have HS6 := Lib.hid (And.intro hb1 hb2)
          clear hR hB6 hb1 hb2
          (try dsimp only)
          refine hK.out _ _ ?_ (fun hHeld => ?_)
          · exact KB6.out
          clear hK K
          (try simp only [Act.put, List.setIfInBounds_toArray, List.set_cons_zero, List.set_cons_succ])
          refine wpAnyH_ready (rs := [4, 6]) (by kernel_rfl) (by simp) ?_
          refine AllReadyH.cons (i := 4) rfl (fun K hK => ?_) ?_
          · have HRa : Hid (RowOf w6 BB BB v l raw) := RowOf.up HR6.out (Below.refl _ _)
            have HYa : Hid (IntsIn w6 BB Y j.af) := (IntsIn.more (HYI.out.up (below_up HB5.out KB6.out)) (Nat.le_trans HB5.out.size HS6.out.1))
            refine step_append_any _ rfl (.tmp 50) (.tmp 52) _ rfl BB 33 i0 (.agg #[.int .i64 0, .int .i64 0, .int .i64 0, .int .i64 0, .int .i64 0, .int .i64 0, .bool false, .bool false, .bool false, .bool false, .int .i64 0, .int .i64 0, .bool false, .slice none 0 0, .int .u8 0, .int .i64 0]) 16 120 Try.underlying27 HII.out.1 HII.out.2.1 HII.out.2.2.1 HII.out.2.2.2 rfl (by decide) v _ raw rfl HRa.out.1 _ _ 1 1 ((asked j).arr Y cj).toList rfl (reads_blk (cs := ((asked j).arr Y cj).toList) (show Blk w6 (w5.heap.size) 33 ((asked j).arr Y cj) from KS6.out)) (fun u hu => one16 u hu) (by simp only [maxLen]; omega) (by omega) HS6.out.2 ?_
            intro v7 w7 hown hg hat
            have KBa : Below w5.heap.size w5 w6 := KB6.out
            have KB7 : Hid (Below w5.heap.size w5 w7) := Below.grown KBa hg KBa.size (fun k hk => Nat.le_trans HS6.out.1 (row_block_ge HRa.out.1 hk))
            clear KBa
            have hR7 := RowOf.append (j := asked j) HRa.out HYa.out hg hown
            obtain ⟨X7, c7, e7, hJ7⟩ := RowOf.jobs hR7
            rw [show (l ++ [asked j]).length = l.length + 1 by simp] at e7
            subst e7
            have HJ7 := Lib.hid hJ7
            clear hown hg hat hR7 hJ7 HRa HYa
            refine hK.out _ _ ?_ (fun hHeld => ?_)
            · exact KB7.out
            clear hK K
            (try simp only [Act.put, List.setIfInBounds_toArray, List.set_cons_zero, List.set_cons_succ])
            refine wpAnyH_ready (rs := [5, 6]) (by kernel_rfl) (by simp) ?_
            refine AllReadyH.cons (i := 5) rfl (fun K hK => ?_) ?_
            · go_simp
              refine (HTW.out X7 c7 w7 (JobsAt.up HJ7.out (Below.refl _ _))).mono ?_
              rintro e w8 ⟨X8, c8, rfl, hO, hB8⟩
              have KB8 := Lib.hid (below_up KB7.out hB8)
              obtain ⟨B8, hb1, hb2, hb3, hO⟩ : ∃ B8, w5.heap.size ≤ B8 ∧ B8 ≤ w8.heap.size ∧ True ∧ JobsOwn w8 B8 X8 (l ++ [asked j]) := ⟨_, (show Below w5.heap.size w5 w7 from KB7.out).size, hB8.size, trivial, hO⟩
              have HO8 := Lib.hid hO
              have HS8 := Lib.hid (And.intro hb1 (And.intro hb2 hb3))
              clear hO hB8 hb1 hb2 hb3
              (try dsimp only)
              refine hK.out _ _ ?_ (fun hHeld => ?_)
              · exact KB8.out
              clear hK K
              (try simp only [Act.put, List.setIfInBounds_toArray, List.set_cons_zero, List.set_cons_succ])
              refine wpAnyH_ready (rs := [6]) (by kernel_rfl) (by simp) ?_
              refine AllReadyH.cons (i := 6) rfl (fun K hK => ?_) ?_
              · go_simp
                refine hK.out _ _ ?_ (fun hHeld => ?_)
                · exact (below_alloc KB8.out)
                clear hK K
                (try simp only [Act.put, List.setIfInBounds_toArray, List.set_cons_zero, List.set_cons_succ])
                refine wpAnyH_ready (rs := [7]) (by kernel_rfl) (by simp) ?_
                refine AllReadyH.cons (i := 7) rfl (fun K hK => ?_) ?_
                · go_simp
                  refine hK.out _ _ ?_ (fun hHeld => ?_)
                  · exact (below_alloc KB8.out)
                  clear hK K
                  (try simp only [Act.put, List.setIfInBounds_toArray, List.set_cons_zero, List.set_cons_succ])
                  refine wpAnyH_done (by kernel_rfl) ?_ _
                  refine NoPanic.normal ?_
                  go_wp2_with fail
                  go_meet
                  exact ⟨_, X8, c8, rfl, KB8.out.size, below_alloc KB8.out, Blk.new _ _ _, (JobsOwn.from2 HO8.out HS8.out.1).up (below_alloc (Below.refl _ _))⟩
                exact AllReadyH.nil
              exact AllReadyH.nil
            refine AllReadyH.cons (i := 6) rfl (fun K hK => ?_) ?_
            · go_simp
              refine hK.out _ _ ?_ (fun hHeld => ?_)
              · exact (below_alloc KB7.out)
              clear hK K
              (try simp only [Act.put, List.setIfInBounds_toArray, List.set_cons_zero, List.set_cons_succ])
              refine wpAnyH_ready (rs := [5]) (by kernel_rfl) (by simp) ?_
              refine AllReadyH.cons (i := 5) rfl (fun K hK => ?_) ?_
              · go_simp
                refine (HTW.out X7 c7 (World.alloc w7 (.cells #[.slice none 0 0] 27)) (JobsAt.up HJ7.out (below_alloc (Below.refl _ _)))).mono ?_
                rintro e w8 ⟨X8, c8, rfl, hO, hB8⟩
                have KB8 := Lib.hid (below_up (below_alloc KB7.out) hB8)
                obtain ⟨B8, hb1, hb2, hb3, hO⟩ : ∃ B8, w5.heap.size ≤ B8 ∧ B8 ≤ w8.heap.size ∧ w7.heap.size < B8 ∧ JobsOwn w8 B8 X8 (l ++ [asked j]) := ⟨_, (show Below w5.heap.size w5 (World.alloc w7 (.cells #[.slice none 0 0] 27)) from (below_alloc KB7.out)).size, hB8.size, Blk.lt (Blk.new _ _ _), hO⟩
                have k6 : Blk w8 (w7.heap.size) 27 #[.slice none 0 0] := Blk.below (Blk.new _ _ _) hB8 (Blk.lt (Blk.new _ _ _))
                have y6 : w8.cell? ⟨w7.heap.size, 0, none⟩ = some (.slice none 0 0) := k6.cell 0
                have f6 : w8.frozen? ⟨w7.heap.size, 0, none⟩ = false := k6.frozen 0
                have KX8 := Lib.hid k6
                clear k6
                have HGB := Lib.hid (show w5.heap.size ≤ w7.heap.size from KB7.out.size)
                have HO8 := Lib.hid hO
                have HS8 := Lib.hid (And.intro hb1 (And.intro hb2 hb3))
                clear hO hB8 hb1 hb2 hb3
                (try dsimp only)
                refine hK.out _ _ ?_ (fun hHeld => ?_)
                · exact KB8.out
                clear hK K
                (try simp only [Act.put, List.setIfInBounds_toArray, List.set_cons_zero, List.set_cons_succ])
                refine wpAnyH_ready (rs := [7]) (by kernel_rfl) (by simp) ?_
                refine AllReadyH.cons (i := 7) rfl (fun K hK => ?_) ?_
                · go_simp
                  refine hK.out _ _ ?_ (fun hHeld => ?_)
                  · exact (below_set1 HGB.out KB8.out)
                  clear hK K
                  (try simp only [Act.put, List.setIfInBounds_toArray, List.set_cons_zero, List.set_cons_succ])
                  refine wpAnyH_done (by kernel_rfl) ?_ _
                  refine NoPanic.normal ?_
                  go_wp2_with fail
                  go_meet
                  exact ⟨_, X8, c8, rfl, HGB.out, below_set1 HGB.out KB8.out, KX8.out.set_ 0 _, JobsOwn.from2 (JobsOwn.far2 (p := ⟨w7.heap.size, 0, none⟩) HO8.out HS8.out.2.2 _) HS8.out.1⟩
                exact AllReadyH.nil
              exact AllReadyH.nil
            exact AllReadyH.nil
          refine AllReadyH.cons (i := 6) rfl (fun K hK => ?_) ?_
          · go_simp
            refine hK.out _ _ ?_ (fun hHeld => ?_)
            · exact (below_alloc KB6.out)
            clear hK K
            (try simp only [Act.put, List.setIfInBounds_toArray, List.set_cons_zero, List.set_cons_succ])
            refine wpAnyH_ready (rs := [4]) (by kernel_rfl) (by simp) ?_
            refine AllReadyH.cons (i := 4) rfl (fun K hK => ?_) ?_
            · have HRa : Hid (RowOf (World.alloc w6 (.cells #[.slice none 0 0] 27)) BB BB v l raw) := RowOf.up HR6.out (below_alloc (Below.refl _ _))
              have HYa : Hid (IntsIn (World.alloc w6 (.cells #[.slice none 0 0] 27)) BB Y j.af) := (IntsIn.more (HYI.out.up (below_up HB5.out (below_alloc KB6.out))) (Nat.le_trans HB5.out.size HS6.out.1))
              refine step_append_any _ rfl (.tmp 50) (.tmp 52) _ rfl BB 33 i0 (.agg #[.int .i64 0, .int .i64 0, .int .i64 0, .int .i64 0, .int .i64 0, .int .i64 0, .bool false, .bool false, .bool false, .bool false, .int .i64 0, .int .i64 0, .bool false, .slice none 0 0, .int .u8 0, .int .i64 0]) 16 120 Try.underlying27 HII.out.1 HII.out.2.1 HII.out.2.2.1 HII.out.2.2.2 rfl (by decide) v _ raw rfl HRa.out.1 _ _ 1 1 ((asked j).arr Y cj).toList rfl (reads_blk (cs := ((asked j).arr Y cj).toList) (show Blk (World.alloc w6 (.cells #[.slice none 0 0] 27)) (w5.heap.size) 33 ((asked j).arr Y cj) from (KS6.out.alloc _))) (fun u hu => one16 u hu) (by simp only [maxLen]; omega) (by omega) (Nat.le_trans HS6.out.2 (show Below w6.heap.size w6 (World.alloc w6 (.cells #[.slice none 0 0] 27)) from (below_alloc (Below.refl _ _))).size) ?_
              intro v7 w7 hown hg hat
              have KBa : Below w5.heap.size w5 (World.alloc w6 (.cells #[.slice none 0 0] 27)) := (below_alloc KB6.out)
              have KB7 : Hid (Below w5.heap.size w5 w7) := Below.grown KBa hg KBa.size (fun k hk => Nat.le_trans HS6.out.1 (row_block_ge HRa.out.1 hk))
              clear KBa
              have hR7 := RowOf.append (j := asked j) HRa.out HYa.out hg hown
              obtain ⟨X7, c7, e7, hJ7⟩ := RowOf.jobs hR7
              rw [show (l ++ [asked j]).length = l.length + 1 by simp] at e7
              have k6 : Blk w7 (w6.heap.size) 27 #[.slice none 0 0] := Blk.grown (Blk.new _ _ _) hg (Ne.symm (own_blk_ne HRa.out.1 (Blk.new _ _ _) (by decide)))
              have KX7 := Lib.hid k6
              clear k6
              subst e7
              have HJ7 := Lib.hid hJ7
              clear hown hg hat hR7 hJ7 HRa HYa
              refine hK.out _ _ ?_ (fun hHeld => ?_)
              · exact KB7.out
              clear hK K
              (try simp only [Act.put, List.setIfInBounds_toArray, List.set_cons_zero, List.set_cons_succ])
              refine wpAnyH_ready (rs := [5]) (by kernel_rfl) (by simp) ?_
              refine AllReadyH.cons (i := 5) rfl (fun K hK => ?_) ?_
              · go_simp
                refine (HTW.out X7 c7 w7 (JobsAt.up HJ7.out (Below.refl _ _))).mono ?_
                rintro e w8 ⟨X8, c8, rfl, hO, hB8⟩
                have KB8 := Lib.hid (below_up KB7.out hB8)
                obtain ⟨B8, hb1, hb2, hb3, hO⟩ : ∃ B8, w5.heap.size ≤ B8 ∧ B8 ≤ w8.heap.size ∧ w6.heap.size < B8 ∧ JobsOwn w8 B8 X8 (l ++ [asked j]) := ⟨_, (show Below w5.heap.size w5 w7 from KB7.out).size, hB8.size, Blk.lt KX7.out, hO⟩
                have k6 : Blk w8 (w6.heap.size) 27 #[.slice none 0 0] := Blk.below KX7.out hB8 (Blk.lt KX7.out)
                have y6 : w8.cell? ⟨w6.heap.size, 0, none⟩ = some (.slice none 0 0) := k6.cell 0
                have f6 : w8.frozen? ⟨w6.heap.size, 0, none⟩ = false := k6.frozen 0
                have KX8 := Lib.hid k6
                clear k6
                have HGB := Lib.hid (show w5.heap.size ≤ w6.heap.size from KB6.out.size)
                have HO8 := Lib.hid hO
                have HS8 := Lib.hid (And.intro hb1 (And.intro hb2 hb3))
                clear hO hB8 hb1 hb2 hb3
                (try dsimp only)
                refine hK.out _ _ ?_ (fun hHeld => ?_)
                · exact KB8.out
                clear hK K
                (try simp only [Act.put, List.setIfInBounds_toArray, List.set_cons_zero, List.set_cons_succ])
                refine wpAnyH_ready (rs := [7]) (by kernel_rfl) (by simp) ?_
                refine AllReadyH.cons (i := 7) rfl (fun K hK => ?_) ?_
                · go_simp
                  refine hK.out _ _ ?_ (fun hHeld => ?_)
                  · exact (below_set1 HGB.out KB8.out)
                  clear hK K
                  (try simp only [Act.put, List.setIfInBounds_toArray, List.set_cons_zero, List.set_cons_succ])
                  refine wpAnyH_done (by kernel_rfl) ?_ _
                  refine NoPanic.normal ?_
                  go_wp2_with fail
                  go_meet
                  exact ⟨_, X8, c8, rfl, HGB.out, below_set1 HGB.out KB8.out, KX8.out.set_ 0 _, JobsOwn.from2 (JobsOwn.far2 (p := ⟨w6.heap.size, 0, none⟩) HO8.out HS8.out.2.2 _) HS8.out.1⟩
                exact AllReadyH.nil
              exact AllReadyH.nil
            exact AllReadyH.nil
          exact AllReadyH.nil
        refine AllReadyH.cons (i := 6) rfl (fun K hK => ?_) ?_
        · go_simp
          refine hK.out _ _ ?_ (fun hHeld => ?_)
          · exact (below_alloc (below_alloc (Below.refl _ _))).drew
          clear hK K
          (try simp only [Act.put, List.setIfInBounds_toArray, List.set_cons_zero, List.set_cons_succ])
          refine wpAnyH_ready (rs := [1]) (by kernel_rfl) (by simp) ?_
          refine AllReadyH.cons (i := 1) rfl (fun K hK => ?_) ?_
          · go_simp
            refine (HCL.out (World.drew (World.alloc (World.alloc w5 (.cells #[.int .i64 j.id, .int .i64 j.us, .int .i64 j.cl, .int .i64 j.x.a, .int .i64 j.x.b, .int .i64 j.x.c, .bool j.x.p, .bool j.x.q, .bool j.x.r, .bool j.x.tn, .int .i64 j.wa, .int .i64 j.pr, .bool j.he, .slice Y j.af.length cj, .int .u8 1, .int .i64 j.ca] 33)) (.cells #[.slice none 0 0] 27))) (HX.out.up (below_up HB5.out (below_alloc (below_alloc (Below.refl _ _))).drew))).mono ?_
            rintro e w6 ⟨v, raw, rfl, hR, hB6⟩
            have KB6 := Lib.hid (below_up (below_alloc (below_alloc (Below.refl _ _))).drew hB6)
            obtain ⟨BB, hb1, hb2, hR⟩ : ∃ BB, w5.heap.size ≤ BB ∧ BB ≤ w6.heap.size ∧ RowOf w6 BB BB v l raw := ⟨_, (show Below w5.heap.size w5 (World.drew (World.alloc (World.alloc w5 (.cells #[.int .i64 j.id, .int .i64 j.us, .int .i64 j.cl, .int .i64 j.x.a, .int .i64 j.x.b, .int .i64 j.x.c, .bool j.x.p, .bool j.x.q, .bool j.x.r, .bool j.x.tn, .int .i64 j.wa, .int .i64 j.pr, .bool j.he, .slice Y j.af.length cj, .int .u8 1, .int .i64 j.ca] 33)) (.cells #[.slice none 0 0] 27))) from (below_alloc (below_alloc (Below.refl _ _))).drew).size, hB6.size, hR⟩
            have k3 : Blk w6 (w5.heap.size) 33 #[.int .i64 j.id, .int .i64 j.us, .int .i64 j.cl, .int .i64 j.x.a, .int .i64 j.x.b, .int .i64 j.x.c, .bool j.x.p, .bool j.x.q, .bool j.x.r, .bool j.x.tn, .int .i64 j.wa, .int .i64 j.pr, .bool j.he, .slice Y j.af.length cj, .int .u8 1, .int .i64 j.ca] := Blk.below ((Blk.new _ _ _).alloc _).drew hB6 (Blk.lt ((Blk.new _ _ _).alloc _).drew)
            have KS6 := Lib.hid k3
            clear k3
            have k6 : Blk w6 (w5.heap.size + 1) 27 #[.slice none 0 0] := Blk.below (blk1 _ _ _).drew hB6 (Blk.lt (blk1 _ _ _).drew)
            have KX6 := Lib.hid k6
            clear k6
            have HR6 := Lib.hid hR
            have HS6 := Lib.hid (And.intro hb1 hb2)
            clear hR hB6 hb1 hb2
            (try dsimp only)
            refine hK.out _ _ ?_ (fun hHeld => ?_)
            · exact KB6.out
            clear hK K
            (try simp only [Act.put, List.setIfInBounds_toArray, List.set_cons_zero, List.set_cons_succ])
            refine wpAnyH_ready (rs := [4]) (by kernel_rfl) (by simp) ?_
            refine AllReadyH.cons (i := 4) rfl (fun K hK => ?_) ?_
            · have HRa : Hid (RowOf w6 BB BB v l raw) := RowOf.up HR6.out (Below.refl _ _)
              have HYa : Hid (IntsIn w6 BB Y j.af) := (IntsIn.more (HYI.out.up (below_up HB5.out KB6.out)) (Nat.le_trans HB5.out.size HS6.out.1))
              refine step_append_any _ rfl (.tmp 50) (.tmp 52) _ rfl BB 33 i0 (.agg #[.int .i64 0, .int .i64 0, .int .i64 0, .int .i64 0, .int .i64 0, .int .i64 0, .bool false, .bool false, .bool false, .bool false, .int .i64 0, .int .i64 0, .bool false, .slice none 0 0, .int .u8 0, .int .i64 0]) 16 120 Try.underlying27 HII.out.1 HII.out.2.1 HII.out.2.2.1 HII.out.2.2.2 rfl (by decide) v _ raw rfl HRa.out.1 _ _ 1 1 ((asked j).arr Y cj).toList rfl (reads_blk (cs := ((asked j).arr Y cj).toList) (show Blk w6 (w5.heap.size) 33 ((asked j).arr Y cj) from KS6.out)) (fun u hu => one16 u hu) (by simp only [maxLen]; omega) (by omega) HS6.out.2 ?_
              intro v7 w7 hown hg hat
              have KBa : Below w5.heap.size w5 w6 := KB6.out
              have KB7 : Hid (Below w5.heap.size w5 w7) := Below.grown KBa hg KBa.size (fun k hk => Nat.le_trans HS6.out.1 (row_block_ge HRa.out.1 hk))
              clear KBa
              have hR7 := RowOf.append (j := asked j) HRa.out HYa.out hg hown
              obtain ⟨X7, c7, e7, hJ7⟩ := RowOf.jobs hR7
              rw [show (l ++ [asked j]).length = l.length + 1 by simp] at e7
              have k6 : Blk w7 (w5.heap.size + 1) 27 #[.slice none 0 0] := Blk.grown KX6.out hg (Ne.symm (own_blk_ne HRa.out.1 KX6.out (by decide)))
              have KX7 := Lib.hid k6
              clear k6
              subst e7
              have HJ7 := Lib.hid hJ7
              clear hown hg hat hR7 hJ7 HRa HYa
              refine hK.out _ _ ?_ (fun hHeld => ?_)
              · exact KB7.out
              clear hK K
              (try simp only [Act.put, List.setIfInBounds_toArray, List.set_cons_zero, List.set_cons_succ])
              refine wpAnyH_ready (rs := [5]) (by kernel_rfl) (by simp) ?_
              refine AllReadyH.cons (i := 5) rfl (fun K hK => ?_) ?_
              · go_simp
                refine (HTW.out X7 c7 w7 (JobsAt.up HJ7.out (Below.refl _ _))).mono ?_
                rintro e w8 ⟨X8, c8, rfl, hO, hB8⟩
                have KB8 := Lib.hid (below_up KB7.out hB8)
                obtain ⟨B8, hb1, hb2, hb3, hO⟩ : ∃ B8, w5.heap.size ≤ B8 ∧ B8 ≤ w8.heap.size ∧ w5.heap.size + 1 < B8 ∧ JobsOwn w8 B8 X8 (l ++ [asked j]) := ⟨_, (show Below w5.heap.size w5 w7 from KB7.out).size, hB8.size, Blk.lt KX7.out, hO⟩
                have k6 : Blk w8 (w5.heap.size + 1) 27 #[.slice none 0 0] := Blk.below KX7.out hB8 (Blk.lt KX7.out)
                have y6 : w8.cell? ⟨w5.heap.size + 1, 0, none⟩ = some (.slice none 0 0) := k6.cell 0
                have f6 : w8.frozen? ⟨w5.heap.size + 1, 0, none⟩ = false := k6.frozen 0
                have KX8 := Lib.hid k6
                clear k6
                have HGB := Lib.hid (show w5.heap.size ≤ w5.heap.size + 1 from Nat.le_succ _)
                have HO8 := Lib.hid hO
                have HS8 := Lib.hid (And.intro hb1 (And.intro hb2 hb3))
                clear hO hB8 hb1 hb2 hb3
                (try dsimp only)
                refine hK.out _ _ ?_ (fun hHeld => ?_)
                · exact KB8.out
                clear hK K
                (try simp only [Act.put, List.setIfInBounds_toArray, List.set_cons_zero, List.set_cons_succ])
                refine wpAnyH_ready (rs := [7]) (by kernel_rfl) (by simp) ?_
                refine AllReadyH.cons (i := 7) rfl (fun K hK => ?_) ?_
                · go_simp
                  refine hK.out _ _ ?_ (fun hHeld => ?_)
                  · exact (below_set1 HGB.out KB8.out)
                  clear hK K
                  (try simp only [Act.put, List.setIfInBounds_toArray, List.set_cons_zero, List.set_cons_succ])
                  refine wpAnyH_done (by kernel_rfl) ?_ _
                  refine NoPanic.normal ?_
                  go_wp2_with fail
                  go_meet
                  exact ⟨_, X8, c8, rfl, HGB.out, below_set1 HGB.out KB8.out, KX8.out.set_ 0 _, JobsOwn.from2 (JobsOwn.far2 (p := ⟨w5.heap.size + 1, 0, none⟩) HO8.out HS8.out.2.2 _) HS8.out.1⟩
                exact AllReadyH.nil
              exact AllReadyH.nil
            exact AllReadyH.nil
          exact AllReadyH.nil
        exact AllReadyH.nil
      refine AllReadyH.cons (i := 6) rfl (fun K hK => ?_) ?_
      · go_simp
        refine hK.out _ _ ?_ (fun hHeld => ?_)
        · exact (below_alloc (Below.refl _ _)).drew
        clear hK K
        (try simp only [Act.put, List.setIfInBounds_toArray, List.set_cons_zero, List.set_cons_succ])
        refine wpAnyH_ready (rs := [1, 3]) (by kernel_rfl) (by simp) ?_
        refine AllReadyH.cons (i := 1) rfl (fun K hK => ?_) ?_
        · go_simp
          refine (HCL.out (World.drew (World.alloc w5 (.cells #[.slice none 0 0] 27))) (HX.out.up (below_up HB5.out (below_alloc (Below.refl _ _)).drew))).mono ?_
          rintro e w6 ⟨v, raw, rfl, hR, hB6⟩
          have KB6 := Lib.hid (below_up (below_alloc (Below.refl _ _)).drew hB6)
          obtain ⟨BB, hb1, hb2, hR⟩ : ∃ BB, w5.heap.size ≤ BB ∧ BB ≤ w6.heap.size ∧ RowOf w6 BB BB v l raw := ⟨_, (show Below w5.heap.size w5 (World.drew (World.alloc w5 (.cells #[.slice none 0 0] 27))) from (below_alloc (Below.refl _ _)).drew).size, hB6.size, hR⟩
          have k6 : Blk w6 (w5.heap.size) 27 #[.slice none 0 0] := Blk.below (Blk.new _ _ _).drew hB6 (Blk.lt (Blk.new _ _ _).drew)
          have KX6 := Lib.hid k6
          clear k6
          have HR6 := Lib.hid hR
          have HS6 := Lib.hid (And.intro hb1 hb2)
          clear hR hB6 hb1 hb2
          (try dsimp only)
          refine hK.out _ _ ?_ (fun hHeld => ?_)
          · exact KB6.out
          clear hK K
          (try simp only [Act.put, List.setIfInBounds_toArray, List.set_cons_zero, List.set_cons_succ])
          refine wpAnyH_ready (rs := [3]) (by kernel_rfl) (by simp) ?_
          refine AllReadyH.cons (i := 3) rfl (fun K hK => ?_) ?_
          · go_simp
            refine hK.out _ _ ?_ (fun hHeld => ?_)
            · exact (below_alloc KB6.out)
            clear hK K
            (try simp only [Act.put, List.setIfInBounds_toArray, List.set_cons_zero, List.set_cons_succ])
            refine wpAnyH_ready (rs := [4]) (by kernel_rfl) (by simp) ?_
            refine AllReadyH.cons (i := 4) rfl (fun K hK => ?_) ?_
            · have HRa : Hid (RowOf (World.alloc w6 (.cells #[.int .i64 j.id, .int .i64 j.us, .int .i64 j.cl, .int .i64 j.x.a, .int .i64 j.x.b, .int .i64 j.x.c, .bool j.x.p, .bool j.x.q, .bool j.x.r, .bool j.x.tn, .int .i64 j.wa, .int .i64 j.pr, .bool j.he, .slice Y j.af.length cj, .int .u8 1, .int .i64 j.ca] 33)) BB BB v l raw) := RowOf.up HR6.out (below_alloc (Below.refl _ _))
              have HYa : Hid (IntsIn (World.alloc w6 (.cells #[.int .i64 j.id, .int .i64 j.us, .int .i64 j.cl, .int .i64 j.x.a, .int .i64 j.x.b, .int .i64 j.x.c, .bool j.x.p, .bool j.x.q, .bool j.x.r, .bool j.x.tn, .int .i64 j.wa, .int .i64 j.pr, .bool j.he, .slice Y j.af.length cj, .int .u8 1, .int .i64 j.ca] 33)) BB Y j.af) := (IntsIn.more (HYI.out.up (below_up HB5.out (below_alloc KB6.out))) (Nat.le_trans HB5.out.size HS6.out.1))
              refine step_append_any _ rfl (.tmp 50) (.tmp 52) _ rfl BB 33 i0 (.agg #[.int .i64 0, .int .i64 0, .int .i64 0, .int .i64 0, .int .i64 0, .int .i64 0, .bool false, .bool false, .bool false, .bool false, .int .i64 0, .int .i64 0, .bool false, .slice none 0 0, .int .u8 0, .int .i64 0]) 16 120 Try.underlying27 HII.out.1 HII.out.2.1 HII.out.2.2.1 HII.out.2.2.2 rfl (by decide) v _ raw rfl HRa.out.1 _ _ 1 1 ((asked j).arr Y cj).toList rfl (reads_blk (cs := ((asked j).arr Y cj).toList) (show Blk (World.alloc w6 (.cells #[.int .i64 j.id, .int .i64 j.us, .int .i64 j.cl, .int .i64 j.x.a, .int .i64 j.x.b, .int .i64 j.x.c, .bool j.x.p, .bool j.x.q, .bool j.x.r, .bool j.x.tn, .int .i64 j.wa, .int .i64 j.pr, .bool j.he, .slice Y j.af.length cj, .int .u8 1, .int .i64 j.ca] 33)) (w6.heap.size) 33 ((asked j).arr Y cj) from (Blk.new _ _ _))) (fun u hu => one16 u hu) (by simp only [maxLen]; omega) (by omega) (Nat.le_trans HS6.out.2 (show Below w6.heap.size w6 (World.alloc w6 (.cells #[.int .i64 j.id, .int .i64 j.us, .int .i64 j.cl, .int .i64 j.x.a, .int .i64 j.x.b, .int .i64 j.x.c, .bool j.x.p, .bool j.x.q, .bool j.x.r, .bool j.x.tn, .int .i64 j.wa, .int .i64 j.pr, .bool j.he, .slice Y j.af.length cj, .int .u8 1, .int .i64 j.ca] 33)) from (below_alloc (Below.refl _ _))).size) ?_
              intro v7 w7 hown hg hat
              have KBa : Below w5.heap.size w5 (World.alloc w6 (.cells #[.int .i64 j.id, .int .i64 j.us, .int .i64 j.cl, .int .i64 j.x.a, .int .i64 j.x.b, .int .i64 j.x.c, .bool j.x.p, .bool j.x.q, .bool j.x.r, .bool j.x.tn, .int .i64 j.wa, .int .i64 j.pr, .bool j.he, .slice Y j.af.length cj, .int .u8 1, .int .i64 j.ca] 33)) := (below_alloc KB6.out)
              have KB7 : Hid (Below w5.heap.size w5 w7) := Below.grown KBa hg KBa.size (fun k hk => Nat.le_trans HS6.out.1 (row_block_ge HRa.out.1 hk))
              clear KBa
              have hR7 := RowOf.append (j := asked j) HRa.out HYa.out hg hown
              obtain ⟨X7, c7, e7, hJ7⟩ := RowOf.jobs hR7
              rw [show (l ++ [asked j]).length = l.length + 1 by simp] at e7
              have k6 : Blk w7 (w5.heap.size) 27 #[.slice none 0 0] := Blk.grown (KX6.out.alloc _) hg (Ne.symm (own_blk_ne HRa.out.1 (KX6.out.alloc _) (by decide)))
              have KX7 := Lib.hid k6
              clear k6
              subst e7
              have HJ7 := Lib.hid hJ7
              clear hown hg hat hR7 hJ7 HRa HYa
              refine hK.out _ _ ?_ (fun hHeld => ?_)
              · exact KB7.out
              clear hK K
              (try simp only [Act.put, List.setIfInBounds_toArray, List.set_cons_zero, List.set_cons_succ])
              refine wpAnyH_ready (rs := [5]) (by kernel_rfl) (by simp) ?_
              refine AllReadyH.cons (i := 5) rfl (fun K hK => ?_) ?_
              · go_simp
                refine (HTW.out X7 c7 w7 (JobsAt.up HJ7.out (Below.refl _ _))).mono ?_
                rintro e w8 ⟨X8, c8, rfl, hO, hB8⟩
                have KB8 := Lib.hid (below_up KB7.out hB8)
                obtain ⟨B8, hb1, hb2, hb3, hO⟩ : ∃ B8, w5.heap.size ≤ B8 ∧ B8 ≤ w8.heap.size ∧ w5.heap.size < B8 ∧ JobsOwn w8 B8 X8 (l ++ [asked j]) := ⟨_, (show Below w5.heap.size w5 w7 from KB7.out).size, hB8.size, Blk.lt KX7.out, hO⟩
                have k6 : Blk w8 (w5.heap.size) 27 #[.slice none 0 0] := Blk.below KX7.out hB8 (Blk.lt KX7.out)
                have y6 : w8.cell? ⟨w5.heap.size, 0, none⟩ = some (.slice none 0 0) := k6.cell 0
                have f6 : w8.frozen? ⟨w5.heap.size, 0, none⟩ = false := k6.frozen 0
                have KX8 := Lib.hid k6
                clear k6
                have HGB := Lib.hid (show w5.heap.size ≤ w5.heap.size from Nat.le_refl _)
                have HO8 := Lib.hid hO
                have HS8 := Lib.hid (And.intro hb1 (And.intro hb2 hb3))
                clear hO hB8 hb1 hb2 hb3
                (try dsimp only)
                refine hK.out _ _ ?_ (fun hHeld => ?_)
                · exact KB8.out
                clear hK K
                (try simp only [Act.put, List.setIfInBounds_toArray, List.set_cons_zero, List.set_cons_succ])
                refine wpAnyH_ready (rs := [7]) (by kernel_rfl) (by simp) ?_
                refine AllReadyH.cons (i := 7) rfl (fun K hK => ?_) ?_
                · go_simp
                  refine hK.out _ _ ?_ (fun hHeld => ?_)
                  · exact (below_set1 HGB.out KB8.out)
                  clear hK K
                  (try simp only [Act.put, List.setIfInBounds_toArray, List.set_cons_zero, List.set_cons_succ])
                  refine wpAnyH_done (by kernel_rfl) ?_ _
                  refine NoPanic.normal ?_
                  go_wp2_with fail
                  go_meet
                  exact ⟨_, X8, c8, rfl, HGB.out, below_set1 HGB.out KB8.out, KX8.out.set_ 0 _, JobsOwn.from2 (JobsOwn.far2 (p := ⟨w5.heap.size, 0, none⟩) HO8.out HS8.out.2.2 _) HS8.out.1⟩
                exact AllReadyH.nil
              exact AllReadyH.nil
            exact AllReadyH.nil
          exact AllReadyH.nil
        refine AllReadyH.cons (i := 3) rfl (fun K hK => ?_) ?_
        · go_simp
          refine hK.out _ _ ?_ (fun hHeld => ?_)
          · exact (below_alloc (below_alloc (Below.refl _ _))).drew
          clear hK K
          (try simp only [Act.put, List.setIfInBounds_toArray, List.set_cons_zero, List.set_cons_succ])
          refine wpAnyH_ready (rs := [1]) (by kernel_rfl) (by simp) ?_
          refine AllReadyH.cons (i := 1) rfl (fun K hK => ?_) ?_
          · go_simp
            refine (HCL.out (World.drew (World.alloc (World.alloc w5 (.cells #[.slice none 0 0] 27)) (.cells #[.int .i64 j.id, .int .i64 j.us, .int .i64 j.cl, .int .i64 j.x.a, .int .i64 j.x.b, .int .i64 j.x.c, .bool j.x.p, .bool j.x.q, .bool j.x.r, .bool j.x.tn, .int .i64 j.wa, .int .i64 j.pr, .bool j.he, .slice Y j.af.length cj, .int .u8 1, .int .i64 j.ca] 33))) (HX.out.up (below_up HB5.out (below_alloc (below_alloc (Below.refl _ _))).drew))).mono ?_
            rintro e w6 ⟨v, raw, rfl, hR, hB6⟩
            have KB6 := Lib.hid (below_up (below_alloc (below_alloc (Below.refl _ _))).drew hB6)
            obtain ⟨BB, hb1, hb2, hR⟩ : ∃ BB, w5.heap.size ≤ BB ∧ BB ≤ w6.heap.size ∧ RowOf w6 BB BB v l raw := ⟨_, (show Below w5.heap.size w5 (World.drew (World.alloc (World.alloc w5 (.cells #[.slice none 0 0] 27)) (.cells #[.int .i64 j.id, .int .i64 j.us, .int .i64 j.cl, .int .i64 j.x.a, .int .i64 j.x.b, .int .i64 j.x.c, .bool j.x.p, .bool j.x.q, .bool j.x.r, .bool j.x.tn, .int .i64 j.wa, .int .i64 j.pr, .bool j.he, .slice Y j.af.length cj, .int .u8 1, .int .i64 j.ca] 33))) from (below_alloc (below_alloc (Below.refl _ _))).drew).size, hB6.size, hR⟩
            have k3 : Blk w6 (w5.heap.size + 1) 33 #[.int .i64 j.id, .int .i64 j.us, .int .i64 j.cl, .int .i64 j.x.a, .int .i64 j.x.b, .int .i64 j.x.c, .bool j.x.p, .bool j.x.q, .bool j.x.r, .bool j.x.tn, .int .i64 j.wa, .int .i64 j.pr, .bool j.he, .slice Y j.af.length cj, .int .u8 1, .int .i64 j.ca] := Blk.below (blk1 _ _ _).drew hB6 (Blk.lt (blk1 _ _ _).drew)
            have KS6 := Lib.hid k3
            clear k3
            have k6 : Blk w6 (w5.heap.size) 27 #[.slice none 0 0] := Blk.below ((Blk.new _ _ _).alloc _).drew hB6 (Blk.lt ((Blk.new _ _ _).alloc _).drew)
            have KX6 := Lib.hid k6
            clear k6
            have HR6 := Lib.hid hR
            have HS6 := Lib.hid (And.intro hb1 hb2)
            clear hR hB6 hb1 hb2
            (try dsimp only)
            refine hK.out _ _ ?_ (fun hHeld => ?_)
            · exact KB6.out
            clear hK K
            (try simp only [Act.put, List.setIfInBounds_toArray, List.set_cons_zero, List.set_cons_succ])
            refine wpAnyH_ready (rs := [4]) (by kernel_rfl) (by simp) ?_
            refine AllReadyH.cons (i := 4) rfl (fun K hK => ?_) ?_
            · have HRa : Hid (RowOf w6 BB BB v l raw) := RowOf.up HR6.out (Below.refl _ _)
              have HYa : Hid (IntsIn w6 BB Y j.af) := (IntsIn.more (HYI.out.up (below_up HB5.out KB6.out)) (Nat.le_trans HB5.out.size HS6.out.1))
              refine step_append_any _ rfl (.tmp 50) (.tmp 52) _ rfl BB 33 i0 (.agg #[.int .i64 0, .int .i64 0, .int .i64 0, .int .i64 0, .int .i64 0, .int .i64 0, .bool false, .bool false, .bool false, .bool false, .int .i64 0, .int .i64 0, .bool false, .slice none 0 0, .int .u8 0, .int .i64 0]) 16 120 Try.underlying27 HII.out.1 HII.out.2.1 HII.out.2.2.1 HII.out.2.2.2 rfl (by decide) v _ raw rfl HRa.out.1 _ _ 1 1 ((asked j).arr Y cj).toList rfl (reads_blk (cs := ((asked j).arr Y cj).toList) (show Blk w6 (w5.heap.size + 1) 33 ((asked j).arr Y cj) from KS6.out)) (fun u hu => one16 u hu) (by simp only [maxLen]; omega) (by omega) HS6.out.2 ?_
              intro v7 w7 hown hg hat
              have KBa : Below w5.heap.size w5 w6 := KB6.out
              have KB7 : Hid (Below w5.heap.size w5 w7) := Below.grown KBa hg KBa.size (fun k hk => Nat.le_trans HS6.out.1 (row_block_ge HRa.out.1 hk))
              clear KBa
              have hR7 := RowOf.append (j := asked j) HRa.out HYa.out hg hown
              obtain ⟨X7, c7, e7, hJ7⟩ := RowOf.jobs hR7
              rw [show (l ++ [asked j]).length = l.length + 1 by simp] at e7
              have k6 : Blk w7 (w5.heap.size) 27 #[.slice none 0 0] := Blk.grown KX6.out hg (Ne.symm (own_blk_ne HRa.out.1 KX6.out (by decide)))
              have KX7 := Lib.hid k6
              clear k6
              subst e7
              have HJ7 := Lib.hid hJ7
              clear hown hg hat hR7 hJ7 HRa HYa
              refine hK.out _ _ ?_ (fun hHeld => ?_)
              · exact KB7.out
              clear hK K
              (try simp only [Act.put, List.setIfInBounds_toArray, List.set_cons_zero, List.set_cons_succ])
              refine wpAnyH_ready (rs := [5]) (by kernel_rfl) (by simp) ?_
              refine AllReadyH.cons (i := 5) rfl (fun K hK => ?_) ?_
              · go_simp
                refine (HTW.out X7 c7 w7 (JobsAt.up HJ7.out (Below.refl _ _))).mono ?_
                rintro e w8 ⟨X8, c8, rfl, hO, hB8⟩
                have KB8 := Lib.hid (below_up KB7.out hB8)
                obtain ⟨B8, hb1, hb2, hb3, hO⟩ : ∃ B8, w5.heap.size ≤ B8 ∧ B8 ≤ w8.heap.size ∧ w5.heap.size < B8 ∧ JobsOwn w8 B8 X8 (l ++ [asked j]) := ⟨_, (show Below w5.heap.size w5 w7 from KB7.out).size, hB8.size, Blk.lt KX7.out, hO⟩
                have k6 : Blk w8 (w5.heap.size) 27 #[.slice none 0 0] := Blk.below KX7.out hB8 (Blk.lt KX7.out)
                have y6 : w8.cell? ⟨w5.heap.size, 0, none⟩ = some (.slice none 0 0) := k6.cell 0
                have f6 : w8.frozen? ⟨w5.heap.size, 0, none⟩ = false := k6.frozen 0
                have KX8 := Lib.hid k6
                clear k6
                have HGB := Lib.hid (show w5.heap.size ≤ w5.heap.size from Nat.le_refl _)
                have HO8 := Lib.hid hO
                have HS8 := Lib.hid (And.intro hb1 (And.intro hb2 hb3))
                clear hO hB8 hb1 hb2 hb3
                (try dsimp only)
                refine hK.out _ _ ?_ (fun hHeld => ?_)
                · exact KB8.out
                clear hK K
                (try simp only [Act.put, List.setIfInBounds_toArray, List.set_cons_zero, List.set_cons_succ])
                refine wpAnyH_ready (rs := [7]) (by kernel_rfl) (by simp) ?_
                refine AllReadyH.cons (i := 7) rfl (fun K hK => ?_) ?_
                · go_simp
                  refine hK.out _ _ ?_ (fun hHeld => ?_)
                  · exact (below_set1 HGB.out KB8.out)
                  clear hK K
                  (try simp only [Act.put, List.setIfInBounds_toArray, List.set_cons_zero, List.set_cons_succ])
                  refine wpAnyH_done (by kernel_rfl) ?_ _
                  refine NoPanic.normal ?_
                  go_wp2_with fail
                  go_meet
                  exact ⟨_, X8, c8, rfl, HGB.out, below_set1 HGB.out KB8.out, KX8.out.set_ 0 _, JobsOwn.from2 (JobsOwn.far2 (p := ⟨w5.heap.size, 0, none⟩) HO8.out HS8.out.2.2 _) HS8.out.1⟩
                exact AllReadyH.nil
              exact AllReadyH.nil
            exact AllReadyH.nil
          exact AllReadyH.nil
        exact AllReadyH.nil
      exact AllReadyH.nil
    case rest =>
      obtain ⟨gb, X8, c8, rfl, hgb, hB, hK, hO⟩ := hcut
      clear xl5
      have hle : ((l.length : Int) + 1) ≤ 24 := by omega
      have kR := KR5.out.below hB.out KR5.out.lt
      have kE := KE5.out.below hB.out KE5.out.lt
      have c13 : wc.cell? ⟨gb, 0, none⟩ = some (.slice X8 (l.length + 1) c8) := hK.out.cell 0
      have cR : wc.cell? ⟨w.heap.size + 1 + 1 + 1, 0, none⟩ = some (.slice none 0 0) := kR.cell 0
      have fR : wc.frozen? ⟨w.heap.size + 1 + 1 + 1, 0, none⟩ = false := kR.frozen 0
      have cE : wc.cell? ⟨w.heap.size + 1 + 1 + 1 + 1, 0, none⟩ = some (.int .i64 0) := kE.cell 0
      have fE : wc.frozen? ⟨w.heap.size + 1 + 1 + 1 + 1, 0, none⟩ = false := kE.frozen 0
      have HRE := Lib.hid (And.intro KR5.out.lt KE5.out.lt)
      clear kR kE hgb hK
      go_wp2_with fail
      have hO9 := JobsOwn.from2 (JobsOwn.far2 (p := ⟨w.heap.size + 1 + 1 + 1 + 1, 0, none⟩) (JobsOwn.far2 (p := ⟨w.heap.size + 1 + 1 + 1, 0, none⟩) hO.out HRE.out.1 (.slice X8 (l.length + 1) c8)) HRE.out.2 (.int .i64 0)) HB5.out.size
      have hB9 := ((below_up HB5.out hB.out).setCell (p := ⟨w.heap.size + 1 + 1 + 1, 0, none⟩) (by show w.heap.size ≤ w.heap.size + 1 + 1 + 1; omega) (.slice X8 (l.length + 1) c8)).setCell (p := ⟨w.heap.size + 1 + 1 + 1 + 1, 0, none⟩) (by show w.heap.size ≤ w.heap.size + 1 + 1 + 1 + 1; omega) (.int .i64 0)
      refine bodyPost_ret (v := .tuple #[.slice X8 (l.length + 1) c8, .int .i64 0]) (by simp [results, Try.results19, go_sem, cR, cE]) rfl ⟨X8, c8, rfl, hO9, hB9⟩
end Go.Proofs.Ytaldgmmmcbikgaa.JobAdd
