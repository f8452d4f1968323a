/- Several texts joined: job.Add of a full table. No conditions but those named. -/
import Derived.BigRegion
import Derived.BigQuiet
import Derived.Lib.QuietBelow
import Derived.Deep.QuietTactic
import Derived.Deep.DeepCutAuto
import Derived.Deep.RegionHeld3
import Derived.Deep.MidRow
import Derived.RangeFuncNested
import Derived.RangeFuncFrom
import Derived.IntWalk
import Derived.Test.YtaldgmmmcbikgaaB1
import Derived.Test.YtaldgmmmcbikgaaJobAdd
import Derived.Test.YtaldgmmmcbikgaaB3
import Derived.Test.YtaldgmmmcbikgaaB2
/-! job.Add of a full table. No conditions but those named. -/
namespace Go.Proofs.Ytaldgmmmcbikgaa.AddFull
open Go
open Go.Sort (grow)
open Go.RowKit Mem PosMath PartMath PartClass PartCheck TurnMath TurnWalks TurnFitsV JobMath JobIndex JobPlain JobAfter JobCheck JobFind JobTable JobMem JobTwin JobRow QuietRow RangeGiven RecGuard LooseI Loose JobDel LoadIn AddKit JobAdd
attribute [local go_sem] Oper.semAt_some
set_option linter.unusedVariables false
set_option linter.unusedSimpArgs false

/-- How Add ends where the table is full. -/
def AddFull (l : List JV) (us : List Int) (j : JV) (w : World) (e : Ending) (w' : World) : Prop :=
  ((∃ i X' c', (looseUp l us (asked j) l.length).head? = some i ∧ e = .returned (.tuple #[.slice X' l.length c', .int .i64 0]) ∧ JobsOwn w' w.heap.size X' ((l ++ [asked j]).eraseIdx i)) ∨
    (looseUp l us (asked j) l.length = [] ∧ e = .returned (.tuple #[.slice none 0 0, .int .i64 9]))) ∧ Below w.heap.size w w'
theorem keep_grown {w w' : World} {row : Option Nat} (hg : w.grownBy w' row) (hr : ∀ r, row = some r → ∃ o : Obj, w.heap[r]? = some o ∧ o.isCells = false) {a : Addr} {u : Value} (h : w.cell? a = some u) : w'.cell? a = some u ∧ w'.frozen? a = w.frozen? a ∧ a.block < w'.heap.size := by
  have hl := cell_lt h
  have he : w'.heap[a.block]? = w.heap[a.block]? := hg.block a.block hl fun e => by
    obtain ⟨o, ho, hn⟩ := hr _ e.symm
    cases o <;> simp [Obj.isCells] at hn <;> simp [World.cell?, ho] at h
  exact ⟨by rw [← h]; simp only [World.cell?, he], by simp only [World.frozen?, he], Nat.lt_of_lt_of_le hl hg.size⟩
theorem own_keep {w w' : World} {B : Nat} {X : Option Addr} {l : List JV} (h : JobsOwn w B X l) (hk : ∀ (a : Addr) (u : Value), w.cell? a = some u → w'.cell? a = some u ∧ w'.frozen? a = w.frozen? a ∧ a.block < w'.heap.size) : JobsOwn w' B X l := fun i j hi => by
  obtain ⟨g, Y, c, e, h1, hg, hx, f, a, _⟩ := h i j hi
  refine ⟨g, Y, c, e, h1, (hk _ _ hx.1).2.2, job_of_cells fun t u ht hu => ?_, fun t ht => ?_, fun hl q v hq => ?_, fun hle => by have := (List.getElem?_eq_some_iff.1 hi).1; omega⟩
  · obtain ⟨u', hu', _, hat⟩ := job_cell hx t ht
    rw [hat] at hu
    cases hu
    exact (hk _ _ hu').1
  · obtain ⟨u', hu', _⟩ := job_cell hx t ht
    rw [(hk _ _ hu').2.1]
    exact f t ht
  · obtain ⟨b, o, e1, h2, h3, h4, h5, h6⟩ := a hl q v hq
    exact ⟨b, o, e1, h2, h3, (hk _ _ h5).2.2, (hk _ _ h5).1, by rw [(hk _ _ h5).2.1]; exact h6⟩
theorem loadVar_slice {P : Program} {w : World} {ty e : TypeId} {a : Addr} {v : Value} (hu : P.underlying ty = some (.slice e)) (hc : w.cell? a = some v) : (loadVar ty a).run P w = .ok v w := by
  simp [loadVar, isAgg, run_underlying hu, go_sem, hc]
theorem loadVar_int {P : Program} {w : World} {ty : TypeId} {k : IntKind} {a : Addr} {v : Value} (hu : P.underlying ty = some (.int k)) (hc : w.cell? a = some v) : (loadVar ty a).run P w = .ok v w := by
  simp [loadVar, isAgg, run_underlying hu, go_sem, hc]
theorem results_two {P : Program} {fn : Func} {p q : Tmp} {ty ty2 e : TypeId} {k : IntKind} (h : fn.results = #[.cell p ty, .cell q ty2]) (tmps : Array Value) (w : World) (g g2 : Nat) (v0 v : Value)
    (hp : tmps.getD p undef = .pointer (some ⟨g, 0, none⟩)) (hq : tmps.getD q undef = .pointer (some ⟨g2, 0, none⟩)) (h0 : w.cell? ⟨g, 0, none⟩ = some v0) (hc : w.cell? ⟨g2, 0, none⟩ = some v)
    (hu : P.underlying ty = some (.slice e)) (hu2 : P.underlying ty2 = some (.int k)) : (results fn tmps).run P w = .ok (.tuple #[v0, v]) w := by
  have hp' : tmps[p]?.getD undef = .pointer (some ⟨g, 0, none⟩) := by simpa using hp
  have hq' : tmps[q]?.getD undef = .pointer (some ⟨g2, 0, none⟩) := by simpa using hq
  simp [results, h, hp', hq', asAddr, loadVar_slice hu h0, loadVar_int hu2 hc]
theorem blk_put {w : World} {g D : Nat} {t : TypeId} {cs : Array Value} {o : Obj} (h : Blk w g t cs) (hne : g ≠ D) : Blk (w.putObj D o) g t cs := (World.putObj_heap_other hne).trans h
theorem below_put {D : Nat} {w W : World} {o : Obj} (h : Below w.heap.size w W) (hD : w.heap.size ≤ D) : Below w.heap.size w (W.putObj D o) := h.grown (grownBy_putObj' W D o) h.size (fun k e => by cases e; exact hD)
/-- What lies where the rounds begin. -/
structure FAt (w : World) (n5 g3 g4 gb : Nat) (X8 : Option Addr) (c8 : Nat) (l : List JV) (j : JV) (W : World) : Prop where
  r : Blk W g3 27 #[.slice none 0 0]
  e : Blk W g4 36 #[.int .i64 0]
  k : Blk W gb 27 #[.slice X8 (l.length + 1) c8]
  o : JobsOwn W n5 X8 (l ++ [asked j])
  b : Below w.heap.size w W
  b5 : w.heap.size ≤ n5
  lt3 : g3 < n5
  lt4 : g4 < n5
  cap : l.length + 1 ≤ c8
theorem FAt.up {w : World} {n5 g3 g4 gb : Nat} {X8 : Option Addr} {c8 : Nat} {l : List JV} {j : JV} {W W' : World} (h : FAt w n5 g3 g4 gb X8 c8 l j W) (hB : Below W.heap.size W W') : FAt w n5 g3 g4 gb X8 c8 l j W' :=
  ⟨h.r.below hB h.r.lt, h.e.below hB h.e.lt, h.k.below hB h.k.lt, h.o.up hB, below_up h.b hB, h.b5, h.lt3, h.lt4, h.cap⟩
theorem FAt.ge8 {w : World} {n5 g3 g4 gb g8 : Nat} {c8 : Nat} {l : List JV} {j : JV} {W : World} (h : FAt w n5 g3 g4 gb (some ⟨g8, 0, none⟩) c8 l j W) : n5 ≤ g8 := by
  obtain ⟨g, _, _, e, h1, _⟩ := h.o 0 ((l ++ [asked j])[0]'(by simp)) (List.getElem?_eq_getElem _)
  have e' : g = g8 := by simp at e; exact e.symm
  rw [← e']; exact h1
theorem FAt.ne3 {w : World} {n5 g3 g4 gb g8 : Nat} {c8 : Nat} {l : List JV} {j : JV} {W : World} (h : FAt w n5 g3 g4 gb (some ⟨g8, 0, none⟩) c8 l j W) : g3 ≠ g8 := by have := h.ge8; have := h.lt3; omega
theorem FAt.ne4 {w : World} {n5 g3 g4 gb g8 : Nat} {c8 : Nat} {l : List JV} {j : JV} {W : World} (h : FAt w n5 g3 g4 gb (some ⟨g8, 0, none⟩) c8 l j W) : g4 ≠ g8 := by have := h.ge8; have := h.lt4; omega
theorem FAt.cells8 {w : World} {n5 g3 g4 gb g8 : Nat} {c8 : Nat} {l : List JV} {j : JV} {W : World} (h : FAt w n5 g3 g4 gb (some ⟨g8, 0, none⟩) c8 l j W) {o : Obj} (ho : W.heap[g8]? = some o) (hn : o.isCells = false) : False := by
  obtain ⟨u, hu, _⟩ := own_cells h.o (q := 0) (by simp)
  cases o <;> simp [Obj.isCells] at hn <;> simp [World.cell?, ho] at hu
/-- What lies where the rounds stop. -/
def FX (w : World) (g3 g4 g8 c8 : Nat) (l : List JV) (j : JV) (pre : List Nat) (W : World) : Prop := ∃ i, pre = [i] ∧ Blk W g3 27 #[.slice (some ⟨g8, 0, none⟩) l.length c8] ∧ Blk W g4 36 #[.int .i64 0] ∧ JobsOwn W w.heap.size (some ⟨g8, 0, none⟩) ((l ++ [asked j]).eraseIdx i) ∧ Below w.heap.size w W
theorem fx_own {w : World} {g3 g4 g8 c8 : Nat} {l : List JV} {j : JV} {B : Nat} (c : Code) (hB : w.heap.size ≤ B) : OwnFrom B (fun pre W => c = .ret ∧ FX w g3 g4 g8 c8 l j pre W) := fun pre W W' row hs hg hr => by
  obtain ⟨hc, i, e, k3, k4, hO, hb⟩ := hs
  have hr2 : ∀ r, row = some r → ∃ o : Obj, W.heap[r]? = some o ∧ o.isCells = false := fun r e => (hr r e).2
  exact ⟨hc, i, e, own_blkG k3 hg hr2, own_blkG k4 hg hr2, own_keep hO fun a u h => keep_grown hg hr2 h, hb.grown hg hb.size fun k hk => Nat.le_trans hB (hr k hk).1⟩
set_option maxRecDepth 100000 in
set_option maxHeartbeats 16000000 in
theorem add_full (d0 d1 d2 bo fr tr ag : Int) (K : Option Addr) (kc : Nat) (ks : List Cls) (hlk : ks.length ≤ 4611686018427387904) (X : Option Addr) (cap : Nat) (l : List JV) (hl : l.length ≤ 1000) (hla : ∀ j ∈ l, j.af.length ≤ 1000) (U : Option Addr) (cu : Nat) (us : List Int) (j : JV) (Y : Option Addr) (cj : Nat) (hja : j.af.length ≤ 1000) (hv : tableV d0 d1 d2 bo fr tr ag ks l = 0) (hc : checkV d0 d1 d2 ks (asked j) = 0) (hlast : ∀ x, l[l.length - 1]? = some x → x.id < j.id) (ht : thereB l j = true) (hn : l.length = 24) (hlu : us.length ≤ 1000) (w : World) (hk : ClsAt w w.heap.size K ks) (hX : JobsAt w X l) (hU : IntsAt w U us) (hY : IntsAt w Y j.af) :
    Calls Try.prog 19 #[.agg #[.int .i64 d0, .int .i64 d1, .int .i64 d2, .int .i64 bo, .int .i64 fr, .int .i64 tr, .int .i64 ag, .slice K ks.length kc], .slice X l.length cap, .slice U us.length cu, .agg #[.int .i64 j.id, .int .i64 j.us, .int .i64 j.cl, .int .i64 j.x.a, .int .i64 j.x.b, .int .i64 j.x.c, .bool j.x.p, .bool j.x.q, .bool j.x.r, .bool j.x.tn, .int .i64 j.wa, .int .i64 j.pr, .bool j.he, .slice Y j.af.length cj, .int .u8 j.st, .int .i64 j.ca]] w fun e w' => AddFull l us j w e w' := by
  have HT := Lib.hid (fun w hk hX => table_any d0 d1 d2 bo fr tr ag K kc ks hlk X cap l (by omega) (fun j hj => by have := hla j hj; omega) w hk hX)
  have HK := Lib.hid hk
  have HX := Lib.hid hX
  have HY := Lib.hid hY
  have HC := Lib.hid (fun w hk hY => jcheck d0 d1 d2 bo fr tr ag K kc ks (asked j) Y cj hlk (show j.af.length ≤ _ by omega) w hk hY)
  have HN := Lib.hid (fun W cl hX hY => no_there2 (w.heap.size + 1) X cap l (by omega) j Y cj (by omega) W cl hX hY)
  have HCL := Lib.hid (fun w hX => jcloneR X cap l hl w hX)
  have HTW := Lib.hid (fun (X1 : Option Addr) (c1 : Nat) (w : World) (h : JobsAt w X1 (l ++ [asked j])) =>
    (show Calls Try.prog 12 #[.slice X1 (l.length + 1) c1] w (fun e w' => ∃ X' c', e = .returned (.slice X' (l.length + 1) c') ∧ JobsOwn w' w.heap.size X' (l ++ [asked j]) ∧ Below w.heap.size w w' ∧ l.length + 1 ≤ c') from by
      have h2 := twinC X1 c1 (l ++ [asked j]) (by simp; omega) (fun q hq => by
        rcases List.mem_append.1 hq with h | h
        · exact hla q h
        · obtain rfl : q = asked j := by simpa using h
          exact hja) w h
      rw [List.length_append] at h2
      exact h2))
  rw [hv] at HT
  rw [hc] at HC
  rw [ht] at HN
  obtain ⟨i0, a0, a1, a2, a3⟩ := info_parts job_info
  have HII := Lib.hid (And.intro a0 (And.intro a1 (And.intro a2 a3)))
  have HL := Lib.hid hlast
  have hn24 := Lib.hid hn
  have HYI := Lib.hid (IntsAt.in_ hY)
  have HUL := Lib.hid (And.intro hU (And.intro hla hja))
  clear hk hX hU hY hv hc ht hlast hla a0 a1 a2 a3 hn
  refine (callsIn_wide (n := 5)).1 ?_
  refine callsIn_of_wp_marks Try.func19 rfl trivial ?_ rfl
  simp only [Try.ntmps19, List.size_toArray, List.length_cons, List.length_nil, Nat.reduceAdd, Nat.reduceSub, Array.replicate_succ, Array.replicate_zero, List.push_toArray, List.append_toArray, List.nil_append, List.cons_append]
  refine (wpIn_wide (n := 5)).2 ?_
  go_upto_region 1 with fail
  have kC : Blk (((((w.alloc (.cells #[.int .i64 d0, .int .i64 d1, .int .i64 d2, .int .i64 bo, .int .i64 fr, .int .i64 tr, .int .i64 ag, .slice K ks.length kc] 26)).alloc (.cells #[.slice X l.length cap] 27)).alloc (.cells #[.int .i64 j.id, .int .i64 j.us, .int .i64 j.cl, .int .i64 j.x.a, .int .i64 j.x.b, .int .i64 j.x.c, .bool j.x.p, .bool j.x.q, .bool j.x.r, .bool j.x.tn, .int .i64 j.wa, .int .i64 j.pr, .bool j.he, .slice Y j.af.length cj, .int .u8 j.st, .int .i64 j.ca] 33)).alloc (.cells #[.slice none 0 0] 27)).alloc (.cells #[.int .i64 0] 36)) (w.heap.size) 26 #[.int .i64 d0, .int .i64 d1, .int .i64 d2, .int .i64 bo, .int .i64 fr, .int .i64 tr, .int .i64 ag, .slice K ks.length kc] := ((((Blk.new w _ _).alloc _).alloc _).alloc _).alloc _
  have kL : Blk (((((w.alloc (.cells #[.int .i64 d0, .int .i64 d1, .int .i64 d2, .int .i64 bo, .int .i64 fr, .int .i64 tr, .int .i64 ag, .slice K ks.length kc] 26)).alloc (.cells #[.slice X l.length cap] 27)).alloc (.cells #[.int .i64 j.id, .int .i64 j.us, .int .i64 j.cl, .int .i64 j.x.a, .int .i64 j.x.b, .int .i64 j.x.c, .bool j.x.p, .bool j.x.q, .bool j.x.r, .bool j.x.tn, .int .i64 j.wa, .int .i64 j.pr, .bool j.he, .slice Y j.af.length cj, .int .u8 j.st, .int .i64 j.ca] 33)).alloc (.cells #[.slice none 0 0] 27)).alloc (.cells #[.int .i64 0] 36)) (w.heap.size + 1) 27 #[.slice X l.length cap] := (((blk1 w _ _).alloc _).alloc _).alloc _
  have kJ : Blk (((((w.alloc (.cells #[.int .i64 d0, .int .i64 d1, .int .i64 d2, .int .i64 bo, .int .i64 fr, .int .i64 tr, .int .i64 ag, .slice K ks.length kc] 26)).alloc (.cells #[.slice X l.length cap] 27)).alloc (.cells #[.int .i64 j.id, .int .i64 j.us, .int .i64 j.cl, .int .i64 j.x.a, .int .i64 j.x.b, .int .i64 j.x.c, .bool j.x.p, .bool j.x.q, .bool j.x.r, .bool j.x.tn, .int .i64 j.wa, .int .i64 j.pr, .bool j.he, .slice Y j.af.length cj, .int .u8 j.st, .int .i64 j.ca] 33)).alloc (.cells #[.slice none 0 0] 27)).alloc (.cells #[.int .i64 0] 36)) (w.heap.size + 1 + 1) 33 #[.int .i64 j.id, .int .i64 j.us, .int .i64 j.cl, .int .i64 j.x.a, .int .i64 j.x.b, .int .i64 j.x.c, .bool j.x.p, .bool j.x.q, .bool j.x.r, .bool j.x.tn, .int .i64 j.wa, .int .i64 j.pr, .bool j.he, .slice Y j.af.length cj, .int .u8 j.st, .int .i64 j.ca] := ((blk2 w _ _).alloc _).alloc _
  have kR : Blk (((((w.alloc (.cells #[.int .i64 d0, .int .i64 d1, .int .i64 d2, .int .i64 bo, .int .i64 fr, .int .i64 tr, .int .i64 ag, .slice K ks.length kc] 26)).alloc (.cells #[.slice X l.length cap] 27)).alloc (.cells #[.int .i64 j.id, .int .i64 j.us, .int .i64 j.cl, .int .i64 j.x.a, .int .i64 j.x.b, .int .i64 j.x.c, .bool j.x.p, .bool j.x.q, .bool j.x.r, .bool j.x.tn, .int .i64 j.wa, .int .i64 j.pr, .bool j.he, .slice Y j.af.length cj, .int .u8 j.st, .int .i64 j.ca] 33)).alloc (.cells #[.slice none 0 0] 27)).alloc (.cells #[.int .i64 0] 36)) (w.heap.size + 1 + 1 + 1) 27 #[.slice none 0 0] := (JobAdd.blk3 w _ _).alloc _
  have kE : Blk (((((w.alloc (.cells #[.int .i64 d0, .int .i64 d1, .int .i64 d2, .int .i64 bo, .int .i64 fr, .int .i64 tr, .int .i64 ag, .slice K ks.length kc] 26)).alloc (.cells #[.slice X l.length cap] 27)).alloc (.cells #[.int .i64 j.id, .int .i64 j.us, .int .i64 j.cl, .int .i64 j.x.a, .int .i64 j.x.b, .int .i64 j.x.c, .bool j.x.p, .bool j.x.q, .bool j.x.r, .bool j.x.tn, .int .i64 j.wa, .int .i64 j.pr, .bool j.he, .slice Y j.af.length cj, .int .u8 j.st, .int .i64 j.ca] 33)).alloc (.cells #[.slice none 0 0] 27)).alloc (.cells #[.int .i64 0] 36)) (w.heap.size + 1 + 1 + 1 + 1) 36 #[.int .i64 0] := blk4 w _ _
  have hb0 : Below w.heap.size w (((((w.alloc (.cells #[.int .i64 d0, .int .i64 d1, .int .i64 d2, .int .i64 bo, .int .i64 fr, .int .i64 tr, .int .i64 ag, .slice K ks.length kc] 26)).alloc (.cells #[.slice X l.length cap] 27)).alloc (.cells #[.int .i64 j.id, .int .i64 j.us, .int .i64 j.cl, .int .i64 j.x.a, .int .i64 j.x.b, .int .i64 j.x.c, .bool j.x.p, .bool j.x.q, .bool j.x.r, .bool j.x.tn, .int .i64 j.wa, .int .i64 j.pr, .bool j.he, .slice Y j.af.length cj, .int .u8 j.st, .int .i64 j.ca] 33)).alloc (.cells #[.slice none 0 0] 27)).alloc (.cells #[.int .i64 0] 36)) := below_alloc (below_alloc (below_alloc (below_alloc (below_alloc (Below.refl _ _)))))
  generalize (((((w.alloc (.cells #[.int .i64 d0, .int .i64 d1, .int .i64 d2, .int .i64 bo, .int .i64 fr, .int .i64 tr, .int .i64 ag, .slice K ks.length kc] 26)).alloc (.cells #[.slice X l.length cap] 27)).alloc (.cells #[.int .i64 j.id, .int .i64 j.us, .int .i64 j.cl, .int .i64 j.x.a, .int .i64 j.x.b, .int .i64 j.x.c, .bool j.x.p, .bool j.x.q, .bool j.x.r, .bool j.x.tn, .int .i64 j.wa, .int .i64 j.pr, .bool j.he, .slice Y j.af.length cj, .int .u8 j.st, .int .i64 j.ca] 33)).alloc (.cells #[.slice none 0 0] 27)).alloc (.cells #[.int .i64 0] 36)) = w0 at *
  have HB0 := Lib.hid hb0
  have KC0 := Lib.hid kC
  have KL0 := Lib.hid kL
  have KJ0 := Lib.hid kJ
  have KR0 := Lib.hid kR
  have KE0 := Lib.hid kE
  have xl : w0.cell? ⟨w.heap.size + 1, 0, none⟩ = some (.slice X l.length cap) := kL.cell 0
  clear hb0 kC kL kJ kR kE
  go_wp2_with (first | (refine wpList_load_row rfl 26 _ rfl _ rfl 26 #[.int .i64 d0, .int .i64 d1, .int .i64 d2, .int .i64 bo, .int .i64 fr, .int .i64 tr, .int .i64 ag, .slice K ks.length kc] (0, 0) _ KC0.out Try.underlying26 rfl (by kernel_rfl) ?_))
  refine (HT.out _ (HK.out.up HB0.out) (HX.out.up HB0.out)).mono ?_
  rintro e w1 ⟨rfl, hB1⟩
  have HB1 := Lib.hid (below_up HB0.out hB1)
  have KC1 := Lib.hid (KC0.out.below hB1 KC0.out.lt)
  have KL1 := Lib.hid (KL0.out.below hB1 KL0.out.lt)
  have KJ1 := Lib.hid (KJ0.out.below hB1 KJ0.out.lt)
  have KR1 := Lib.hid (KR0.out.below hB1 KR0.out.lt)
  have KE1 := Lib.hid (KE0.out.below hB1 KE0.out.lt)
  clear hB1 HB0 KC0 KL0 KJ0 KR0 KE0 xl HT
  have y14 : w1.cell? ⟨w.heap.size + 1 + 1, 14, none⟩ = some (.int .u8 j.st) := KJ1.out.cell 14
  have f14 : w1.frozen? ⟨w.heap.size + 1 + 1, 14, none⟩ = false := KJ1.out.frozen 14
  go_upto_region 5 with fail
  have kj : Blk (w1.setCell ⟨w.heap.size + 1 + 1, 14, none⟩ (.int .u8 1)) (w.heap.size + 1 + 1) 33 #[.int .i64 j.id, .int .i64 j.us, .int .i64 j.cl, .int .i64 j.x.a, .int .i64 j.x.b, .int .i64 j.x.c, .bool j.x.p, .bool j.x.q, .bool j.x.r, .bool j.x.tn, .int .i64 j.wa, .int .i64 j.pr, .bool j.he, .slice Y j.af.length cj, .int .u8 1, .int .i64 j.ca] := KJ1.out.set_ 14 (.int .u8 1)
  have kC := KC1.out.far (p := ⟨w.heap.size + 1 + 1, 14, none⟩) (by show w.heap.size ≠ w.heap.size + 1 + 1; omega) (.int .u8 1)
  have kL := KL1.out.far (p := ⟨w.heap.size + 1 + 1, 14, none⟩) (by show w.heap.size + 1 ≠ w.heap.size + 1 + 1; omega) (.int .u8 1)
  have kR := KR1.out.far (p := ⟨w.heap.size + 1 + 1, 14, none⟩) (by show w.heap.size + 1 + 1 + 1 ≠ w.heap.size + 1 + 1; omega) (.int .u8 1)
  have kE := KE1.out.far (p := ⟨w.heap.size + 1 + 1, 14, none⟩) (by show w.heap.size + 1 + 1 + 1 + 1 ≠ w.heap.size + 1 + 1; omega) (.int .u8 1)
  have hb2 := HB1.out.setCell (p := ⟨w.heap.size + 1 + 1, 14, none⟩) (by show w.heap.size ≤ w.heap.size + 1 + 1; omega) (.int .u8 1)
  clear y14 f14
  generalize (w1.setCell ⟨w.heap.size + 1 + 1, 14, none⟩ (.int .u8 1)) = w2 at *
  have HB2 := Lib.hid hb2
  have KJ2 := Lib.hid kj
  have KC2 := Lib.hid kC
  have KL2 := Lib.hid kL
  have KR2 := Lib.hid kR
  have KE2 := Lib.hid kE
  clear hb2 kj kC kL kR kE HB1 KC1 KL1 KJ1 KR1 KE1
  go_wp2_with (first | (refine wpList_load_row rfl 26 _ rfl _ rfl 26 #[.int .i64 d0, .int .i64 d1, .int .i64 d2, .int .i64 bo, .int .i64 fr, .int .i64 tr, .int .i64 ag, .slice K ks.length kc] (0, 0) _ KC2.out Try.underlying26 rfl (by kernel_rfl) ?_) | (refine wpList_load_row rfl 33 _ rfl _ rfl 33 #[.int .i64 j.id, .int .i64 j.us, .int .i64 j.cl, .int .i64 j.x.a, .int .i64 j.x.b, .int .i64 j.x.c, .bool j.x.p, .bool j.x.q, .bool j.x.r, .bool j.x.tn, .int .i64 j.wa, .int .i64 j.pr, .bool j.he, .slice Y j.af.length cj, .int .u8 1, .int .i64 j.ca] (0, 0) _ KJ2.out Try.underlying33 rfl (by kernel_rfl) ?_))
  refine (HC.out _ (HK.out.up HB2.out) (HY.out.up HB2.out)).mono ?_
  rintro e w3 ⟨rfl, hB3⟩
  have HB3 := Lib.hid (below_up HB2.out hB3)
  have KC3 := Lib.hid (KC2.out.below hB3 KC2.out.lt)
  have KL3 := Lib.hid (KL2.out.below hB3 KL2.out.lt)
  have KJ3 := Lib.hid (KJ2.out.below hB3 KJ2.out.lt)
  have KR3 := Lib.hid (KR2.out.below hB3 KR2.out.lt)
  have KE3 := Lib.hid (KE2.out.below hB3 KE2.out.lt)
  clear hB3 HB2 KC2 KL2 KJ2 KR2 KE2 HC
  have xl : w3.cell? ⟨w.heap.size + 1, 0, none⟩ = some (.slice X l.length cap) := KL3.out.cell 0
  have x0 : w3.cell? ⟨w.heap.size + 1 + 1, 0, none⟩ = some (.int .i64 j.id) := KJ3.out.cell 0
  go_upto_region 9 with fail
  go_cut [30] from 15 to 69 (fun s wx => s = .bool false ∧ Hid (Below w3.heap.size w3 wx))
  case first =>
    by_cases hz : l.length = 0
    · have d1 : decide (0 < l.length) = false := decide_eq_false (by omega)
      have d2 : ¬ ((0 : Int) < (l.length : Int)) := by omega
      clear hz
      have kq0 := cell_regrown xl
      have kq1 := cell_regrown x0
      refine wp_region_quiet_below (by kernel_rfl) (by kernel_rfl) ?_
      repeat (first | go_big_quiet_step (first | fail))
      refine wpQuiet_nil ?_
      intro _ hw'
      obtain ⟨⟨dq, osq⟩, hw''⟩ := hw'
      subst hw''
      have hBq := below_regrown w3 dq osq
      clear kq0 kq1
      generalize grow (redrawn w3 dq) osq = w4 at *
      have HBq := Lib.hid hBq
      clear hBq
      go_wp2_with fail
      go_meet
      exact ⟨rfl, HBq.out⟩
    · obtain ⟨m, hm⟩ : ∃ m, l.length = m + 1 := ⟨l.length - 1, by omega⟩
      have hg : l[m]? = some (l[m]'(by omega)) := List.getElem?_eq_getElem (by omega)
      generalize l[m]'(by omega) = q at hg
      have hlq := HL.out q (by rw [show l.length - 1 = m by omega]; exact hg)
      obtain ⟨b, o, Y2, c2, hXe, hb, hJ2, _⟩ := HX.out.up HB3.out m q hg
      subst hXe
      have z0 : w3.cell? ⟨b, o + m * 16, none⟩ = some (.int .i64 q.id) := hJ2.1
      have d1 : decide (0 < l.length) = true := decide_eq_true (by omega)
      have d2 : (0 : Int) < (l.length : Int) := by omega
      have hsub : IntKind.i64.wrap ((l.length : Int) - 1) = (m : Int) := by rw [IntWalk.i64_in _ (by omega)]; omega
      have hm0 : (0 : Int) ≤ (m : Int) := by omega
      have hm1 : (m : Int) < (l.length : Int) := by omega
      have hge : ¬ (j.id ≤ q.id) := by omega
      clear hz hg hlq hJ2 hb hm
      have kq0 := cell_regrown xl
      have kq1 := cell_regrown x0
      have kq2 := cell_regrown z0
      refine wp_region_quiet_below (by kernel_rfl) (by kernel_rfl) ?_
      repeat (first | go_big_quiet_step (first | fail))
      refine wpQuiet_nil ?_
      intro _ hw'
      obtain ⟨⟨dq, osq⟩, hw''⟩ := hw'
      subst hw''
      have hBq := below_regrown w3 dq osq
      clear kq0 kq1 kq2
      generalize grow (redrawn w3 dq) osq = w4 at *
      have HBq := Lib.hid hBq
      clear hBq
      go_wp2_with fail
      go_meet
      exact ⟨rfl, HBq.out⟩
  case rest =>
    obtain ⟨rfl, hBc⟩ := hcut
    clear xl x0
    obtain ⟨w4, rfl⟩ : ∃ w4 : World, w4 = wc := ⟨_, rfl⟩
    have hB4 := hBc.out
    clear hBc
    have HB4 := Lib.hid (below_up HB3.out hB4)
    have KC4 := Lib.hid (KC3.out.below hB4 KC3.out.lt)
    have KL4 := Lib.hid (KL3.out.below hB4 KL3.out.lt)
    have KJ4 := Lib.hid (KJ3.out.below hB4 KJ3.out.lt)
    have KR4 := Lib.hid (KR3.out.below hB4 KR3.out.lt)
    have KE4 := Lib.hid (KE3.out.below hB4 KE3.out.lt)
    clear hB4 HB3 KC3 KL3 KJ3 KR3 KE3 
    have x13 : w4.cell? ⟨w.heap.size + 1 + 1, 13, none⟩ = some (.slice Y j.af.length cj) := KJ4.out.cell 13
    go_wp2_with fail
    refine (HN.out _ (KL4.out.cell 0) (HX.out.up HB4.out) (HY.out.up HB4.out)).mono ?_
    rintro e w5 ⟨rfl, hB5⟩
    have HB5 := Lib.hid (below_up HB4.out hB5)
    have KC5 := Lib.hid (KC4.out.below hB5 KC4.out.lt)
    have KL5 := Lib.hid (KL4.out.below hB5 KL4.out.lt)
    have KJ5 := Lib.hid (KJ4.out.below hB5 KJ4.out.lt)
    have KR5 := Lib.hid (KR4.out.below hB5 KR4.out.lt)
    have KE5 := Lib.hid (KE4.out.below hB5 KE4.out.lt)
    clear hB5 HB4 KC4 KL4 KJ4 KR4 KE4 x13 HN
    have xl5 : w5.cell? ⟨w.heap.size + 1, 0, none⟩ = some (.slice X l.length cap) := KL5.out.cell 0
    have HR5 := Lib.hid (range_of KJ5.out)
    go_upto_region 13 with fail
    go_cut [13] from 15 to 69 (fun s13 wx => ∃ (gb : Nat) (X8 : Option Addr) (c8 : Nat), s13 = .pointer (some ⟨gb, 0, none⟩) ∧ l.length + 1 ≤ c8 ∧ w5.heap.size ≤ gb ∧ Hid (Below w5.heap.size w5 wx) ∧ Hid (Blk wx gb 27 #[.slice X8 (l.length + 1) c8]) ∧ Hid (JobsOwn wx w5.heap.size X8 (l ++ [asked j])))
    case first =>
      refine wp_region_noPanic ?_
      refine wp_region_held_drew (S := (fun W => Below w5.heap.size w5 W)) (by kernel_rfl) ?_ (fun hHeld => ?_)
      · exact (Below.refl _ _).drew
      refine' wpAnyH_take (i := 0) (v := ?v1) rfl (by kernel_rfl) (by kernel_rfl) (by kernel_rfl) (fun _ _ _ h => h) (Or.inl ⟨by rfl, ?y1⟩) (by assumption) ?r1
      case y1 => (intro W hSw; (try dsimp only at hSw); have q0 := keep_cell xl5 hSw; go_simp; try with_reducible rfl)
      (try simp only [Act.put, List.setIfInBounds_toArray, List.set_cons_zero, List.set_cons_succ])
      refine' wpAnyH_take (i := 2) (v := _) rfl (by kernel_rfl) (by kernel_rfl) (by kernel_rfl) (fun _ _ _ h => h) (yieldsIf_load_mid (by rfl) _ _ rfl _ _ rfl [.int .i64 j.id, .int .i64 j.us, .int .i64 j.cl, .int .i64 j.x.a, .int .i64 j.x.b, .int .i64 j.x.c, .bool j.x.p, .bool j.x.q, .bool j.x.r, .bool j.x.tn, .int .i64 j.wa, .int .i64 j.pr, .bool j.he, .slice Y j.af.length cj, .int .u8 1, .int .i64 j.ca] _ (fun W hW => range_up HR5.out hW) Try.underlying33 rfl (by kernel_rfl)) (by assumption) ?r2
      (try simp only [Act.put, List.setIfInBounds_toArray, List.set_cons_zero, List.set_cons_succ])
      refine wpAnyH_ready (rs := [1, 3, 6]) (by kernel_rfl) (by simp) ?_
      refine AllReadyH.cons (i := 1) rfl (fun K hK => ?_) ?_
      · go_simp
        refine (HCL.out (World.drew w5) (HX.out.up (below_up HB5.out (Below.refl _ _).drew))).mono ?_
        rintro e w6 ⟨v, raw, rfl, hR, hB6⟩
        have KB6 := Lib.hid (below_up (Below.refl _ _).drew hB6)
        obtain ⟨BB, hb1, hb2, hR⟩ : ∃ BB, w5.heap.size ≤ BB ∧ BB ≤ w6.heap.size ∧ RowOf w6 BB BB v l raw := ⟨_, (show Below w5.heap.size w5 (World.drew w5) from (Below.refl _ _).drew).size, hB6.size, hR⟩
        have HR6 := Lib.hid hR
        have HS6 := Lib.hid (And.intro hb1 hb2)
        clear hR hB6 hb1 hb2
        (try dsimp only)
        refine hK.out _ _ ?_ (fun hHeld => ?_)
        · exact KB6.out
        clear hK K
        (try simp only [Act.put, List.setIfInBounds_toArray, List.set_cons_zero, List.set_cons_succ])
        refine wpAnyH_ready (rs := [3, 6]) (by kernel_rfl) (by simp) ?_
        refine AllReadyH.cons (i := 3) rfl (fun K hK => ?_) ?_
        · go_simp
          refine hK.out _ _ ?_ (fun hHeld => ?_)
          · exact (below_alloc KB6.out)
          clear hK K
          (try simp only [Act.put, List.setIfInBounds_toArray, List.set_cons_zero, List.set_cons_succ])
          refine wpAnyH_ready (rs := [4, 6]) (by kernel_rfl) (by simp) ?_
          refine AllReadyH.cons (i := 4) rfl (fun K hK => ?_) ?_
          · have HRa : Hid (RowOf (World.alloc w6 (.cells #[.int .i64 j.id, .int .i64 j.us, .int .i64 j.cl, .int .i64 j.x.a, .int .i64 j.x.b, .int .i64 j.x.c, .bool j.x.p, .bool j.x.q, .bool j.x.r, .bool j.x.tn, .int .i64 j.wa, .int .i64 j.pr, .bool j.he, .slice Y j.af.length cj, .int .u8 1, .int .i64 j.ca] 33)) BB BB v l raw) := RowOf.up HR6.out (below_alloc (Below.refl _ _))
            have HYa : Hid (IntsIn (World.alloc w6 (.cells #[.int .i64 j.id, .int .i64 j.us, .int .i64 j.cl, .int .i64 j.x.a, .int .i64 j.x.b, .int .i64 j.x.c, .bool j.x.p, .bool j.x.q, .bool j.x.r, .bool j.x.tn, .int .i64 j.wa, .int .i64 j.pr, .bool j.he, .slice Y j.af.length cj, .int .u8 1, .int .i64 j.ca] 33)) BB Y j.af) := (IntsIn.more (HYI.out.up (below_up HB5.out (below_alloc KB6.out))) (Nat.le_trans HB5.out.size HS6.out.1))
            refine step_append_any _ rfl (.tmp 50) (.tmp 52) _ rfl BB 33 i0 (.agg #[.int .i64 0, .int .i64 0, .int .i64 0, .int .i64 0, .int .i64 0, .int .i64 0, .bool false, .bool false, .bool false, .bool false, .int .i64 0, .int .i64 0, .bool false, .slice none 0 0, .int .u8 0, .int .i64 0]) 16 120 Try.underlying27 HII.out.1 HII.out.2.1 HII.out.2.2.1 HII.out.2.2.2 rfl (by decide) v _ raw rfl HRa.out.1 _ _ 1 1 ((asked j).arr Y cj).toList rfl (reads_blk (cs := ((asked j).arr Y cj).toList) (show Blk (World.alloc w6 (.cells #[.int .i64 j.id, .int .i64 j.us, .int .i64 j.cl, .int .i64 j.x.a, .int .i64 j.x.b, .int .i64 j.x.c, .bool j.x.p, .bool j.x.q, .bool j.x.r, .bool j.x.tn, .int .i64 j.wa, .int .i64 j.pr, .bool j.he, .slice Y j.af.length cj, .int .u8 1, .int .i64 j.ca] 33)) (w6.heap.size) 33 ((asked j).arr Y cj) from (Blk.new _ _ _))) (fun u hu => one16 u hu) (by simp only [maxLen]; omega) (by omega) (Nat.le_trans HS6.out.2 (show Below w6.heap.size w6 (World.alloc w6 (.cells #[.int .i64 j.id, .int .i64 j.us, .int .i64 j.cl, .int .i64 j.x.a, .int .i64 j.x.b, .int .i64 j.x.c, .bool j.x.p, .bool j.x.q, .bool j.x.r, .bool j.x.tn, .int .i64 j.wa, .int .i64 j.pr, .bool j.he, .slice Y j.af.length cj, .int .u8 1, .int .i64 j.ca] 33)) from (below_alloc (Below.refl _ _))).size) ?_
            intro v7 w7 hown hg hat
            have KBa : Below w5.heap.size w5 (World.alloc w6 (.cells #[.int .i64 j.id, .int .i64 j.us, .int .i64 j.cl, .int .i64 j.x.a, .int .i64 j.x.b, .int .i64 j.x.c, .bool j.x.p, .bool j.x.q, .bool j.x.r, .bool j.x.tn, .int .i64 j.wa, .int .i64 j.pr, .bool j.he, .slice Y j.af.length cj, .int .u8 1, .int .i64 j.ca] 33)) := (below_alloc KB6.out)
            have KB7 : Hid (Below w5.heap.size w5 w7) := Below.grown KBa hg KBa.size (fun k hk => Nat.le_trans HS6.out.1 (row_block_ge HRa.out.1 hk))
            clear KBa
            have hR7 := RowOf.append (j := asked j) HRa.out HYa.out hg hown
            obtain ⟨X7, c7, e7, hJ7⟩ := RowOf.jobs hR7
            rw [show (l ++ [asked j]).length = l.length + 1 by simp] at e7
            subst e7
            have HJ7 := Lib.hid hJ7
            clear hown hg hat hR7 hJ7 HRa HYa
            refine hK.out _ _ ?_ (fun hHeld => ?_)
            · exact KB7.out
            clear hK K
            (try simp only [Act.put, List.setIfInBounds_toArray, List.set_cons_zero, List.set_cons_succ])
            refine wpAnyH_ready (rs := [5, 6]) (by kernel_rfl) (by simp) ?_
            refine AllReadyH.cons (i := 5) rfl (fun K hK => ?_) ?_
            · go_simp
              refine (HTW.out X7 c7 w7 (JobsAt.up HJ7.out (Below.refl _ _))).mono ?_
              rintro e w8 ⟨X8, c8, rfl, hO, hB8, hcap⟩
              have KB8 := Lib.hid (below_up KB7.out hB8)
              obtain ⟨B8, hb1, hb2, hb3, hO⟩ : ∃ B8, w5.heap.size ≤ B8 ∧ B8 ≤ w8.heap.size ∧ True ∧ JobsOwn w8 B8 X8 (l ++ [asked j]) := ⟨_, (show Below w5.heap.size w5 w7 from KB7.out).size, hB8.size, trivial, hO⟩
              have HO8 := Lib.hid hO
              have HS8 := Lib.hid (And.intro hb1 (And.intro hb2 hb3))
              clear hO hB8 hb1 hb2 hb3
              (try dsimp only)
              refine hK.out _ _ ?_ (fun hHeld => ?_)
              · exact KB8.out
              clear hK K
              (try simp only [Act.put, List.setIfInBounds_toArray, List.set_cons_zero, List.set_cons_succ])
              refine wpAnyH_ready (rs := [6]) (by kernel_rfl) (by simp) ?_
              refine AllReadyH.cons (i := 6) rfl (fun K hK => ?_) ?_
              · go_simp
                refine hK.out _ _ ?_ (fun hHeld => ?_)
                · exact (below_alloc KB8.out)
                clear hK K
                (try simp only [Act.put, List.setIfInBounds_toArray, List.set_cons_zero, List.set_cons_succ])
                refine wpAnyH_ready (rs := [7]) (by kernel_rfl) (by simp) ?_
                refine AllReadyH.cons (i := 7) rfl (fun K hK => ?_) ?_
                · go_simp
                  refine hK.out _ _ ?_ (fun hHeld => ?_)
                  · exact (below_alloc KB8.out)
                  clear hK K
                  (try simp only [Act.put, List.setIfInBounds_toArray, List.set_cons_zero, List.set_cons_succ])
                  refine wpAnyH_done (by kernel_rfl) ?_ _
                  refine NoPanic.normal ?_
                  go_wp2_with fail
                  go_meet
                  exact ⟨_, X8, c8, rfl, hcap, KB8.out.size, below_alloc KB8.out, Blk.new _ _ _, (JobsOwn.from2 HO8.out HS8.out.1).up (below_alloc (Below.refl _ _))⟩
                exact AllReadyH.nil
              exact AllReadyH.nil
            refine AllReadyH.cons (i := 6) rfl (fun K hK => ?_) ?_
            · go_simp
              refine hK.out _ _ ?_ (fun hHeld => ?_)
              · exact (below_alloc KB7.out)
              clear hK K
              (try simp only [Act.put, List.setIfInBounds_toArray, List.set_cons_zero, List.set_cons_succ])
              refine wpAnyH_ready (rs := [5]) (by kernel_rfl) (by simp) ?_
              refine AllReadyH.cons (i := 5) rfl (fun K hK => ?_) ?_
              · go_simp
                refine (HTW.out X7 c7 (World.alloc w7 (.cells #[.slice none 0 0] 27)) (JobsAt.up HJ7.out (below_alloc (Below.refl _ _)))).mono ?_
                rintro e w8 ⟨X8, c8, rfl, hO, hB8, hcap⟩
                have KB8 := Lib.hid (below_up (below_alloc KB7.out) hB8)
                obtain ⟨B8, hb1, hb2, hb3, hO⟩ : ∃ B8, w5.heap.size ≤ B8 ∧ B8 ≤ w8.heap.size ∧ w7.heap.size < B8 ∧ JobsOwn w8 B8 X8 (l ++ [asked j]) := ⟨_, (show Below w5.heap.size w5 (World.alloc w7 (.cells #[.slice none 0 0] 27)) from (below_alloc KB7.out)).size, hB8.size, Blk.lt (Blk.new _ _ _), hO⟩
                have k6 : Blk w8 (w7.heap.size) 27 #[.slice none 0 0] := Blk.below (Blk.new _ _ _) hB8 (Blk.lt (Blk.new _ _ _))
                have y6 : w8.cell? ⟨w7.heap.size, 0, none⟩ = some (.slice none 0 0) := k6.cell 0
                have f6 : w8.frozen? ⟨w7.heap.size, 0, none⟩ = false := k6.frozen 0
                have KX8 := Lib.hid k6
                clear k6
                have HGB := Lib.hid (show w5.heap.size ≤ w7.heap.size from KB7.out.size)
                have HO8 := Lib.hid hO
                have HS8 := Lib.hid (And.intro hb1 (And.intro hb2 hb3))
                clear hO hB8 hb1 hb2 hb3
                (try dsimp only)
                refine hK.out _ _ ?_ (fun hHeld => ?_)
                · exact KB8.out
                clear hK K
                (try simp only [Act.put, List.setIfInBounds_toArray, List.set_cons_zero, List.set_cons_succ])
                refine wpAnyH_ready (rs := [7]) (by kernel_rfl) (by simp) ?_
                refine AllReadyH.cons (i := 7) rfl (fun K hK => ?_) ?_
                · go_simp
                  refine hK.out _ _ ?_ (fun hHeld => ?_)
                  · exact (below_set1 HGB.out KB8.out)
                  clear hK K
                  (try simp only [Act.put, List.setIfInBounds_toArray, List.set_cons_zero, List.set_cons_succ])
                  refine wpAnyH_done (by kernel_rfl) ?_ _
                  refine NoPanic.normal ?_
                  go_wp2_with fail
                  go_meet
                  exact ⟨_, X8, c8, rfl, hcap, HGB.out, below_set1 HGB.out KB8.out, KX8.out.set_ 0 _, JobsOwn.from2 (JobsOwn.far2 (p := ⟨w7.heap.size, 0, none⟩) HO8.out HS8.out.2.2 _) HS8.out.1⟩
                exact AllReadyH.nil
              exact AllReadyH.nil
            exact AllReadyH.nil
          refine AllReadyH.cons (i := 6) rfl (fun K hK => ?_) ?_
          · go_simp
            refine hK.out _ _ ?_ (fun hHeld => ?_)
            · exact (below_alloc (below_alloc KB6.out))
            clear hK K
            (try simp only [Act.put, List.setIfInBounds_toArray, List.set_cons_zero, List.set_cons_succ])
            refine wpAnyH_ready (rs := [4]) (by kernel_rfl) (by simp) ?_
            refine AllReadyH.cons (i := 4) rfl (fun K hK => ?_) ?_
            · have HRa : Hid (RowOf (World.alloc (World.alloc w6 (.cells #[.int .i64 j.id, .int .i64 j.us, .int .i64 j.cl, .int .i64 j.x.a, .int .i64 j.x.b, .int .i64 j.x.c, .bool j.x.p, .bool j.x.q, .bool j.x.r, .bool j.x.tn, .int .i64 j.wa, .int .i64 j.pr, .bool j.he, .slice Y j.af.length cj, .int .u8 1, .int .i64 j.ca] 33)) (.cells #[.slice none 0 0] 27)) BB BB v l raw) := RowOf.up HR6.out (below_alloc (below_alloc (Below.refl _ _)))
              have HYa : Hid (IntsIn (World.alloc (World.alloc w6 (.cells #[.int .i64 j.id, .int .i64 j.us, .int .i64 j.cl, .int .i64 j.x.a, .int .i64 j.x.b, .int .i64 j.x.c, .bool j.x.p, .bool j.x.q, .bool j.x.r, .bool j.x.tn, .int .i64 j.wa, .int .i64 j.pr, .bool j.he, .slice Y j.af.length cj, .int .u8 1, .int .i64 j.ca] 33)) (.cells #[.slice none 0 0] 27)) BB Y j.af) := (IntsIn.more (HYI.out.up (below_up HB5.out (below_alloc (below_alloc KB6.out)))) (Nat.le_trans HB5.out.size HS6.out.1))
              refine step_append_any _ rfl (.tmp 50) (.tmp 52) _ rfl BB 33 i0 (.agg #[.int .i64 0, .int .i64 0, .int .i64 0, .int .i64 0, .int .i64 0, .int .i64 0, .bool false, .bool false, .bool false, .bool false, .int .i64 0, .int .i64 0, .bool false, .slice none 0 0, .int .u8 0, .int .i64 0]) 16 120 Try.underlying27 HII.out.1 HII.out.2.1 HII.out.2.2.1 HII.out.2.2.2 rfl (by decide) v _ raw rfl HRa.out.1 _ _ 1 1 ((asked j).arr Y cj).toList rfl (reads_blk (cs := ((asked j).arr Y cj).toList) (show Blk (World.alloc (World.alloc w6 (.cells #[.int .i64 j.id, .int .i64 j.us, .int .i64 j.cl, .int .i64 j.x.a, .int .i64 j.x.b, .int .i64 j.x.c, .bool j.x.p, .bool j.x.q, .bool j.x.r, .bool j.x.tn, .int .i64 j.wa, .int .i64 j.pr, .bool j.he, .slice Y j.af.length cj, .int .u8 1, .int .i64 j.ca] 33)) (.cells #[.slice none 0 0] 27)) (w6.heap.size) 33 ((asked j).arr Y cj) from ((Blk.new _ _ _).alloc _))) (fun u hu => one16 u hu) (by simp only [maxLen]; omega) (by omega) (Nat.le_trans HS6.out.2 (show Below w6.heap.size w6 (World.alloc (World.alloc w6 (.cells #[.int .i64 j.id, .int .i64 j.us, .int .i64 j.cl, .int .i64 j.x.a, .int .i64 j.x.b, .int .i64 j.x.c, .bool j.x.p, .bool j.x.q, .bool j.x.r, .bool j.x.tn, .int .i64 j.wa, .int .i64 j.pr, .bool j.he, .slice Y j.af.length cj, .int .u8 1, .int .i64 j.ca] 33)) (.cells #[.slice none 0 0] 27)) from (below_alloc (below_alloc (Below.refl _ _)))).size) ?_
              intro v7 w7 hown hg hat
              have KBa : Below w5.heap.size w5 (World.alloc (World.alloc w6 (.cells #[.int .i64 j.id, .int .i64 j.us, .int .i64 j.cl, .int .i64 j.x.a, .int .i64 j.x.b, .int .i64 j.x.c, .bool j.x.p, .bool j.x.q, .bool j.x.r, .bool j.x.tn, .int .i64 j.wa, .int .i64 j.pr, .bool j.he, .slice Y j.af.length cj, .int .u8 1, .int .i64 j.ca] 33)) (.cells #[.slice none 0 0] 27)) := (below_alloc (below_alloc KB6.out))
              have KB7 : Hid (Below w5.heap.size w5 w7) := Below.grown KBa hg KBa.size (fun k hk => Nat.le_trans HS6.out.1 (row_block_ge HRa.out.1 hk))
              clear KBa
              have hR7 := RowOf.append (j := asked j) HRa.out HYa.out hg hown
              obtain ⟨X7, c7, e7, hJ7⟩ := RowOf.jobs hR7
              rw [show (l ++ [asked j]).length = l.length + 1 by simp] at e7
              have k6 : Blk w7 (w6.heap.size + 1) 27 #[.slice none 0 0] := Blk.grown (blk1 _ _ _) hg (Ne.symm (own_blk_ne HRa.out.1 (blk1 _ _ _) (by decide)))
              have KX7 := Lib.hid k6
              clear k6
              subst e7
              have HJ7 := Lib.hid hJ7
              clear hown hg hat hR7 hJ7 HRa HYa
              refine hK.out _ _ ?_ (fun hHeld => ?_)
              · exact KB7.out
              clear hK K
              (try simp only [Act.put, List.setIfInBounds_toArray, List.set_cons_zero, List.set_cons_succ])
              refine wpAnyH_ready (rs := [5]) (by kernel_rfl) (by simp) ?_
              refine AllReadyH.cons (i := 5) rfl (fun K hK => ?_) ?_
              · go_simp
                refine (HTW.out X7 c7 w7 (JobsAt.up HJ7.out (Below.refl _ _))).mono ?_
                rintro e w8 ⟨X8, c8, rfl, hO, hB8, hcap⟩
                have KB8 := Lib.hid (below_up KB7.out hB8)
                obtain ⟨B8, hb1, hb2, hb3, hO⟩ : ∃ B8, w5.heap.size ≤ B8 ∧ B8 ≤ w8.heap.size ∧ w6.heap.size + 1 < B8 ∧ JobsOwn w8 B8 X8 (l ++ [asked j]) := ⟨_, (show Below w5.heap.size w5 w7 from KB7.out).size, hB8.size, Blk.lt KX7.out, hO⟩
                have k6 : Blk w8 (w6.heap.size + 1) 27 #[.slice none 0 0] := Blk.below KX7.out hB8 (Blk.lt KX7.out)
                have y6 : w8.cell? ⟨w6.heap.size + 1, 0, none⟩ = some (.slice none 0 0) := k6.cell 0
                have f6 : w8.frozen? ⟨w6.heap.size + 1, 0, none⟩ = false := k6.frozen 0
                have KX8 := Lib.hid k6
                clear k6
                have HGB := Lib.hid (show w5.heap.size ≤ w6.heap.size + 1 from Nat.le_succ_of_le KB6.out.size)
                have HO8 := Lib.hid hO
                have HS8 := Lib.hid (And.intro hb1 (And.intro hb2 hb3))
                clear hO hB8 hb1 hb2 hb3
                (try dsimp only)
                refine hK.out _ _ ?_ (fun hHeld => ?_)
                · exact KB8.out
                clear hK K
                (try simp only [Act.put, List.setIfInBounds_toArray, List.set_cons_zero, List.set_cons_succ])
                refine wpAnyH_ready (rs := [7]) (by kernel_rfl) (by simp) ?_
                refine AllReadyH.cons (i := 7) rfl (fun K hK => ?_) ?_
                · go_simp
                  refine hK.out _ _ ?_ (fun hHeld => ?_)
                  · exact (below_set1 HGB.out KB8.out)
                  clear hK K
                  (try simp only [Act.put, List.setIfInBounds_toArray, List.set_cons_zero, List.set_cons_succ])
                  refine wpAnyH_done (by kernel_rfl) ?_ _
                  refine NoPanic.normal ?_
                  go_wp2_with fail
                  go_meet
                  exact ⟨_, X8, c8, rfl, hcap, HGB.out, below_set1 HGB.out KB8.out, KX8.out.set_ 0 _, JobsOwn.from2 (JobsOwn.far2 (p := ⟨w6.heap.size + 1, 0, none⟩) HO8.out HS8.out.2.2 _) HS8.out.1⟩
                exact AllReadyH.nil
              exact AllReadyH.nil
            exact AllReadyH.nil
          exact AllReadyH.nil
        refine AllReadyH.cons (i := 6) rfl (fun K hK => ?_) ?_
        · go_simp
          refine hK.out _ _ ?_ (fun hHeld => ?_)
          · exact (below_alloc KB6.out)
          clear hK K
          (try simp only [Act.put, List.setIfInBounds_toArray, List.set_cons_zero, List.set_cons_succ])
          refine wpAnyH_ready (rs := [3]) (by kernel_rfl) (by simp) ?_
          refine AllReadyH.cons (i := 3) rfl (fun K hK => ?_) ?_
          · go_simp
            refine hK.out _ _ ?_ (fun hHeld => ?_)
            · exact (below_alloc (below_alloc KB6.out))
            clear hK K
            (try simp only [Act.put, List.setIfInBounds_toArray, List.set_cons_zero, List.set_cons_succ])
            refine wpAnyH_ready (rs := [4]) (by kernel_rfl) (by simp) ?_
            refine AllReadyH.cons (i := 4) rfl (fun K hK => ?_) ?_
            · have HRa : Hid (RowOf (World.alloc (World.alloc w6 (.cells #[.slice none 0 0] 27)) (.cells #[.int .i64 j.id, .int .i64 j.us, .int .i64 j.cl, .int .i64 j.x.a, .int .i64 j.x.b, .int .i64 j.x.c, .bool j.x.p, .bool j.x.q, .bool j.x.r, .bool j.x.tn, .int .i64 j.wa, .int .i64 j.pr, .bool j.he, .slice Y j.af.length cj, .int .u8 1, .int .i64 j.ca] 33)) BB BB v l raw) := RowOf.up HR6.out (below_alloc (below_alloc (Below.refl _ _)))
              have HYa : Hid (IntsIn (World.alloc (World.alloc w6 (.cells #[.slice none 0 0] 27)) (.cells #[.int .i64 j.id, .int .i64 j.us, .int .i64 j.cl, .int .i64 j.x.a, .int .i64 j.x.b, .int .i64 j.x.c, .bool j.x.p, .bool j.x.q, .bool j.x.r, .bool j.x.tn, .int .i64 j.wa, .int .i64 j.pr, .bool j.he, .slice Y j.af.length cj, .int .u8 1, .int .i64 j.ca] 33)) BB Y j.af) := (IntsIn.more (HYI.out.up (below_up HB5.out (below_alloc (below_alloc KB6.out)))) (Nat.le_trans HB5.out.size HS6.out.1))
              refine step_append_any _ rfl (.tmp 50) (.tmp 52) _ rfl BB 33 i0 (.agg #[.int .i64 0, .int .i64 0, .int .i64 0, .int .i64 0, .int .i64 0, .int .i64 0, .bool false, .bool false, .bool false, .bool false, .int .i64 0, .int .i64 0, .bool false, .slice none 0 0, .int .u8 0, .int .i64 0]) 16 120 Try.underlying27 HII.out.1 HII.out.2.1 HII.out.2.2.1 HII.out.2.2.2 rfl (by decide) v _ raw rfl HRa.out.1 _ _ 1 1 ((asked j).arr Y cj).toList rfl (reads_blk (cs := ((asked j).arr Y cj).toList) (show Blk (World.alloc (World.alloc w6 (.cells #[.slice none 0 0] 27)) (.cells #[.int .i64 j.id, .int .i64 j.us, .int .i64 j.cl, .int .i64 j.x.a, .int .i64 j.x.b, .int .i64 j.x.c, .bool j.x.p, .bool j.x.q, .bool j.x.r, .bool j.x.tn, .int .i64 j.wa, .int .i64 j.pr, .bool j.he, .slice Y j.af.length cj, .int .u8 1, .int .i64 j.ca] 33)) (w6.heap.size + 1) 33 ((asked j).arr Y cj) from (blk1 _ _ _))) (fun u hu => one16 u hu) (by simp only [maxLen]; omega) (by omega) (Nat.le_trans HS6.out.2 (show Below w6.heap.size w6 (World.alloc (World.alloc w6 (.cells #[.slice none 0 0] 27)) (.cells #[.int .i64 j.id, .int .i64 j.us, .int .i64 j.cl, .int .i64 j.x.a, .int .i64 j.x.b, .int .i64 j.x.c, .bool j.x.p, .bool j.x.q, .bool j.x.r, .bool j.x.tn, .int .i64 j.wa, .int .i64 j.pr, .bool j.he, .slice Y j.af.length cj, .int .u8 1, .int .i64 j.ca] 33)) from (below_alloc (below_alloc (Below.refl _ _)))).size) ?_
              intro v7 w7 hown hg hat
              have KBa : Below w5.heap.size w5 (World.alloc (World.alloc w6 (.cells #[.slice none 0 0] 27)) (.cells #[.int .i64 j.id, .int .i64 j.us, .int .i64 j.cl, .int .i64 j.x.a, .int .i64 j.x.b, .int .i64 j.x.c, .bool j.x.p, .bool j.x.q, .bool j.x.r, .bool j.x.tn, .int .i64 j.wa, .int .i64 j.pr, .bool j.he, .slice Y j.af.length cj, .int .u8 1, .int .i64 j.ca] 33)) := (below_alloc (below_alloc KB6.out))
              have KB7 : Hid (Below w5.heap.size w5 w7) := Below.grown KBa hg KBa.size (fun k hk => Nat.le_trans HS6.out.1 (row_block_ge HRa.out.1 hk))
              clear KBa
              have hR7 := RowOf.append (j := asked j) HRa.out HYa.out hg hown
              obtain ⟨X7, c7, e7, hJ7⟩ := RowOf.jobs hR7
              rw [show (l ++ [asked j]).length = l.length + 1 by simp] at e7
              have k6 : Blk w7 (w6.heap.size) 27 #[.slice none 0 0] := Blk.grown ((Blk.new _ _ _).alloc _) hg (Ne.symm (own_blk_ne HRa.out.1 ((Blk.new _ _ _).alloc _) (by decide)))
              have KX7 := Lib.hid k6
              clear k6
              subst e7
              have HJ7 := Lib.hid hJ7
              clear hown hg hat hR7 hJ7 HRa HYa
              refine hK.out _ _ ?_ (fun hHeld => ?_)
              · exact KB7.out
              clear hK K
              (try simp only [Act.put, List.setIfInBounds_toArray, List.set_cons_zero, List.set_cons_succ])
              refine wpAnyH_ready (rs := [5]) (by kernel_rfl) (by simp) ?_
              refine AllReadyH.cons (i := 5) rfl (fun K hK => ?_) ?_
              · go_simp
                refine (HTW.out X7 c7 w7 (JobsAt.up HJ7.out (Below.refl _ _))).mono ?_
                rintro e w8 ⟨X8, c8, rfl, hO, hB8, hcap⟩
                have KB8 := Lib.hid (below_up KB7.out hB8)
                obtain ⟨B8, hb1, hb2, hb3, hO⟩ : ∃ B8, w5.heap.size ≤ B8 ∧ B8 ≤ w8.heap.size ∧ w6.heap.size < B8 ∧ JobsOwn w8 B8 X8 (l ++ [asked j]) := ⟨_, (show Below w5.heap.size w5 w7 from KB7.out).size, hB8.size, Blk.lt KX7.out, hO⟩
                have k6 : Blk w8 (w6.heap.size) 27 #[.slice none 0 0] := Blk.below KX7.out hB8 (Blk.lt KX7.out)
                have y6 : w8.cell? ⟨w6.heap.size, 0, none⟩ = some (.slice none 0 0) := k6.cell 0
                have f6 : w8.frozen? ⟨w6.heap.size, 0, none⟩ = false := k6.frozen 0
                have KX8 := Lib.hid k6
                clear k6
                have HGB := Lib.hid (show w5.heap.size ≤ w6.heap.size from KB6.out.size)
                have HO8 := Lib.hid hO
                have HS8 := Lib.hid (And.intro hb1 (And.intro hb2 hb3))
                clear hO hB8 hb1 hb2 hb3
                (try dsimp only)
                refine hK.out _ _ ?_ (fun hHeld => ?_)
                · exact KB8.out
                clear hK K
                (try simp only [Act.put, List.setIfInBounds_toArray, List.set_cons_zero, List.set_cons_succ])
                refine wpAnyH_ready (rs := [7]) (by kernel_rfl) (by simp) ?_
                refine AllReadyH.cons (i := 7) rfl (fun K hK => ?_) ?_
                · go_simp
                  refine hK.out _ _ ?_ (fun hHeld => ?_)
                  · exact (below_set1 HGB.out KB8.out)
                  clear hK K
                  (try simp only [Act.put, List.setIfInBounds_toArray, List.set_cons_zero, List.set_cons_succ])
                  refine wpAnyH_done (by kernel_rfl) ?_ _
                  refine NoPanic.normal ?_
                  go_wp2_with fail
                  go_meet
                  exact ⟨_, X8, c8, rfl, hcap, HGB.out, below_set1 HGB.out KB8.out, KX8.out.set_ 0 _, JobsOwn.from2 (JobsOwn.far2 (p := ⟨w6.heap.size, 0, none⟩) HO8.out HS8.out.2.2 _) HS8.out.1⟩
                exact AllReadyH.nil
              exact AllReadyH.nil
            exact AllReadyH.nil
          exact AllReadyH.nil
        exact AllReadyH.nil
      refine AllReadyH.cons (i := 3) rfl (fun K hK => ?_) ?_
      · go_simp
        refine hK.out _ _ ?_ (fun hHeld => ?_)
        · exact (below_alloc (Below.refl _ _)).drew
        clear hK K
        (try simp only [Act.put, List.setIfInBounds_toArray, List.set_cons_zero, List.set_cons_succ])
        refine wpAnyH_ready (rs := [1, 6]) (by kernel_rfl) (by simp) ?_
        refine AllReadyH.cons (i := 1) rfl (fun K hK => ?_) ?_
        · go_simp
          refine (HCL.out (World.drew (World.alloc w5 (.cells #[.int .i64 j.id, .int .i64 j.us, .int .i64 j.cl, .int .i64 j.x.a, .int .i64 j.x.b, .int .i64 j.x.c, .bool j.x.p, .bool j.x.q, .bool j.x.r, .bool j.x.tn, .int .i64 j.wa, .int .i64 j.pr, .bool j.he, .slice Y j.af.length cj, .int .u8 1, .int .i64 j.ca] 33))) (HX.out.up (below_up HB5.out (below_alloc (Below.refl _ _)).drew))).mono ?_
          rintro e w6 ⟨v, raw, rfl, hR, hB6⟩
          have KB6 := Lib.hid (below_up (below_alloc (Below.refl _ _)).drew hB6)
          obtain ⟨BB, hb1, hb2, hR⟩ : ∃ BB, w5.heap.size ≤ BB ∧ BB ≤ w6.heap.size ∧ RowOf w6 BB BB v l raw := ⟨_, (show Below w5.heap.size w5 (World.drew (World.alloc w5 (.cells #[.int .i64 j.id, .int .i64 j.us, .int .i64 j.cl, .int .i64 j.x.a, .int .i64 j.x.b, .int .i64 j.x.c, .bool j.x.p, .bool j.x.q, .bool j.x.r, .bool j.x.tn, .int .i64 j.wa, .int .i64 j.pr, .bool j.he, .slice Y j.af.length cj, .int .u8 1, .int .i64 j.ca] 33))) from (below_alloc (Below.refl _ _)).drew).size, hB6.size, hR⟩
          have k3 : Blk w6 (w5.heap.size) 33 #[.int .i64 j.id, .int .i64 j.us, .int .i64 j.cl, .int .i64 j.x.a, .int .i64 j.x.b, .int .i64 j.x.c, .bool j.x.p, .bool j.x.q, .bool j.x.r, .bool j.x.tn, .int .i64 j.wa, .int .i64 j.pr, .bool j.he, .slice Y j.af.length cj, .int .u8 1, .int .i64 j.ca] := Blk.below (Blk.new _ _ _).drew hB6 (Blk.lt (Blk.new _ _ _).drew)
          have KS6 := Lib.hid k3
          clear k3
          have HR6 := Lib.hid hR
          have HS6 := Lib.hid (And.intro hb1 hb2)
          clear hR hB6 hb1 hb2
          (try dsimp only)
          refine hK.out _ _ ?_ (fun hHeld => ?_)
          · exact KB6.out
          clear hK K
          (try simp only [Act.put, List.setIfInBounds_toArray, List.set_cons_zero, List.set_cons_succ])
          refine wpAnyH_ready (rs := [4, 6]) (by kernel_rfl) (by simp) ?_
          refine AllReadyH.cons (i := 4) rfl (fun K hK => ?_) ?_
          · have HRa : Hid (RowOf w6 BB BB v l raw) := RowOf.up HR6.out (Below.refl _ _)
            have HYa : Hid (IntsIn w6 BB Y j.af) := (IntsIn.more (HYI.out.up (below_up HB5.out KB6.out)) (Nat.le_trans HB5.out.size HS6.out.1))
            refine step_append_any _ rfl (.tmp 50) (.tmp 52) _ rfl BB 33 i0 (.agg #[.int .i64 0, .int .i64 0, .int .i64 0, .int .i64 0, .int .i64 0, .int .i64 0, .bool false, .bool false, .bool false, .bool false, .int .i64 0, .int .i64 0, .bool false, .slice none 0 0, .int .u8 0, .int .i64 0]) 16 120 Try.underlying27 HII.out.1 HII.out.2.1 HII.out.2.2.1 HII.out.2.2.2 rfl (by decide) v _ raw rfl HRa.out.1 _ _ 1 1 ((asked j).arr Y cj).toList rfl (reads_blk (cs := ((asked j).arr Y cj).toList) (show Blk w6 (w5.heap.size) 33 ((asked j).arr Y cj) from KS6.out)) (fun u hu => one16 u hu) (by simp only [maxLen]; omega) (by omega) HS6.out.2 ?_
            intro v7 w7 hown hg hat
            have KBa : Below w5.heap.size w5 w6 := KB6.out
            have KB7 : Hid (Below w5.heap.size w5 w7) := Below.grown KBa hg KBa.size (fun k hk => Nat.le_trans HS6.out.1 (row_block_ge HRa.out.1 hk))
            clear KBa
            have hR7 := RowOf.append (j := asked j) HRa.out HYa.out hg hown
            obtain ⟨X7, c7, e7, hJ7⟩ := RowOf.jobs hR7
            rw [show (l ++ [asked j]).length = l.length + 1 by simp] at e7
            subst e7
            have HJ7 := Lib.hid hJ7
            clear hown hg hat hR7 hJ7 HRa HYa
            refine hK.out _ _ ?_ (fun hHeld => ?_)
            · exact KB7.out
            clear hK K
            (try simp only [Act.put, List.setIfInBounds_toArray, List.set_cons_zero, List.set_cons_succ])
            refine wpAnyH_ready (rs := [5, 6]) (by kernel_rfl) (by simp) ?_
            refine AllReadyH.cons (i := 5) rfl (fun K hK => ?_) ?_
            · go_simp
              refine (HTW.out X7 c7 w7 (JobsAt.up HJ7.out (Below.refl _ _))).mono ?_
              rintro e w8 ⟨X8, c8, rfl, hO, hB8, hcap⟩
              have KB8 := Lib.hid (below_up KB7.out hB8)
              obtain ⟨B8, hb1, hb2, hb3, hO⟩ : ∃ B8, w5.heap.size ≤ B8 ∧ B8 ≤ w8.heap.size ∧ True ∧ JobsOwn w8 B8 X8 (l ++ [asked j]) := ⟨_, (show Below w5.heap.size w5 w7 from KB7.out).size, hB8.size, trivial, hO⟩
              have HO8 := Lib.hid hO
              have HS8 := Lib.hid (And.intro hb1 (And.intro hb2 hb3))
              clear hO hB8 hb1 hb2 hb3
              (try dsimp only)
              refine hK.out _ _ ?_ (fun hHeld => ?_)
              · exact KB8.out
              clear hK K
              (try simp only [Act.put, List.setIfInBounds_toArray, List.set_cons_zero, List.set_cons_succ])
              refine wpAnyH_ready (rs := [6]) (by kernel_rfl) (by simp) ?_
              refine AllReadyH.cons (i := 6) rfl (fun K hK => ?_) ?_
              · go_simp
                refine hK.out _ _ ?_ (fun hHeld => ?_)
                · exact (below_alloc KB8.out)
                clear hK K
                (try simp only [Act.put, List.setIfInBounds_toArray, List.set_cons_zero, List.set_cons_succ])
                refine wpAnyH_ready (rs := [7]) (by kernel_rfl) (by simp) ?_
                refine AllReadyH.cons (i := 7) rfl (fun K hK => ?_) ?_
                · go_simp
                  refine hK.out _ _ ?_ (fun hHeld => ?_)
                  · exact (below_alloc KB8.out)
                  clear hK K
                  (try simp only [Act.put, List.setIfInBounds_toArray, List.set_cons_zero, List.set_cons_succ])
                  refine wpAnyH_done (by kernel_rfl) ?_ _
                  refine NoPanic.normal ?_
                  go_wp2_with fail
                  go_meet
                  exact ⟨_, X8, c8, rfl, hcap, KB8.out.size, below_alloc KB8.out, Blk.new _ _ _, (JobsOwn.from2 HO8.out HS8.out.1).up (below_alloc (Below.refl _ _))⟩
                exact AllReadyH.nil
              exact AllReadyH.nil
            refine AllReadyH.cons (i := 6) rfl (fun K hK => ?_) ?_
            · go_simp
              refine hK.out _ _ ?_ (fun hHeld => ?_)
              · exact (below_alloc KB7.out)
              clear hK K
              (try simp only [Act.put, List.setIfInBounds_toArray, List.set_cons_zero, List.set_cons_succ])
              refine wpAnyH_ready (rs := [5]) (by kernel_rfl) (by simp) ?_
              refine AllReadyH.cons (i := 5) rfl (fun K hK => ?_) ?_
              · go_simp
                refine (HTW.out X7 c7 (World.alloc w7 (.cells #[.slice none 0 0] 27)) (JobsAt.up HJ7.out (below_alloc (Below.refl _ _)))).mono ?_
                rintro e w8 ⟨X8, c8, rfl, hO, hB8, hcap⟩
                have KB8 := Lib.hid (below_up (below_alloc KB7.out) hB8)
                obtain ⟨B8, hb1, hb2, hb3, hO⟩ : ∃ B8, w5.heap.size ≤ B8 ∧ B8 ≤ w8.heap.size ∧ w7.heap.size < B8 ∧ JobsOwn w8 B8 X8 (l ++ [asked j]) := ⟨_, (show Below w5.heap.size w5 (World.alloc w7 (.cells #[.slice none 0 0] 27)) from (below_alloc KB7.out)).size, hB8.size, Blk.lt (Blk.new _ _ _), hO⟩
                have k6 : Blk w8 (w7.heap.size) 27 #[.slice none 0 0] := Blk.below (Blk.new _ _ _) hB8 (Blk.lt (Blk.new _ _ _))
                have y6 : w8.cell? ⟨w7.heap.size, 0, none⟩ = some (.slice none 0 0) := k6.cell 0
                have f6 : w8.frozen? ⟨w7.heap.size, 0, none⟩ = false := k6.frozen 0
                have KX8 := Lib.hid k6
                clear k6
                have HGB := Lib.hid (show w5.heap.size ≤ w7.heap.size from KB7.out.size)
                have HO8 := Lib.hid hO
                have HS8 := Lib.hid (And.intro hb1 (And.intro hb2 hb3))
                clear hO hB8 hb1 hb2 hb3
                (try dsimp only)
                refine hK.out _ _ ?_ (fun hHeld => ?_)
                · exact KB8.out
                clear hK K
                (try simp only [Act.put, List.setIfInBounds_toArray, List.set_cons_zero, List.set_cons_succ])
                refine wpAnyH_ready (rs := [7]) (by kernel_rfl) (by simp) ?_
                refine AllReadyH.cons (i := 7) rfl (fun K hK => ?_) ?_
                · go_simp
                  refine hK.out _ _ ?_ (fun hHeld => ?_)
                  · exact (below_set1 HGB.out KB8.out)
                  clear hK K
                  (try simp only [Act.put, List.setIfInBounds_toArray, List.set_cons_zero, List.set_cons_succ])
                  refine wpAnyH_done (by kernel_rfl) ?_ _
                  refine NoPanic.normal ?_
                  go_wp2_with fail
                  go_meet
                  exact ⟨_, X8, c8, rfl, hcap, HGB.out, below_set1 HGB.out KB8.out, KX8.out.set_ 0 _, JobsOwn.from2 (JobsOwn.far2 (p := ⟨w7.heap.size, 0, none⟩) HO8.out HS8.out.2.2 _) HS8.out.1⟩
                exact AllReadyH.nil
              exact AllReadyH.nil
            exact AllReadyH.nil
          refine AllReadyH.cons (i := 6) rfl (fun K hK => ?_) ?_
          · go_simp
            refine hK.out _ _ ?_ (fun hHeld => ?_)
            · exact (below_alloc KB6.out)
            clear hK K
            (try simp only [Act.put, List.setIfInBounds_toArray, List.set_cons_zero, List.set_cons_succ])
            refine wpAnyH_ready (rs := [4]) (by kernel_rfl) (by simp) ?_
            refine AllReadyH.cons (i := 4) rfl (fun K hK => ?_) ?_
            · have HRa : Hid (RowOf (World.alloc w6 (.cells #[.slice none 0 0] 27)) BB BB v l raw) := RowOf.up HR6.out (below_alloc (Below.refl _ _))
              have HYa : Hid (IntsIn (World.alloc w6 (.cells #[.slice none 0 0] 27)) BB Y j.af) := (IntsIn.more (HYI.out.up (below_up HB5.out (below_alloc KB6.out))) (Nat.le_trans HB5.out.size HS6.out.1))
              refine step_append_any _ rfl (.tmp 50) (.tmp 52) _ rfl BB 33 i0 (.agg #[.int .i64 0, .int .i64 0, .int .i64 0, .int .i64 0, .int .i64 0, .int .i64 0, .bool false, .bool false, .bool false, .bool false, .int .i64 0, .int .i64 0, .bool false, .slice none 0 0, .int .u8 0, .int .i64 0]) 16 120 Try.underlying27 HII.out.1 HII.out.2.1 HII.out.2.2.1 HII.out.2.2.2 rfl (by decide) v _ raw rfl HRa.out.1 _ _ 1 1 ((asked j).arr Y cj).toList rfl (reads_blk (cs := ((asked j).arr Y cj).toList) (show Blk (World.alloc w6 (.cells #[.slice none 0 0] 27)) (w5.heap.size) 33 ((asked j).arr Y cj) from (KS6.out.alloc _))) (fun u hu => one16 u hu) (by simp only [maxLen]; omega) (by omega) (Nat.le_trans HS6.out.2 (show Below w6.heap.size w6 (World.alloc w6 (.cells #[.slice none 0 0] 27)) from (below_alloc (Below.refl _ _))).size) ?_
              intro v7 w7 hown hg hat
              have KBa : Below w5.heap.size w5 (World.alloc w6 (.cells #[.slice none 0 0] 27)) := (below_alloc KB6.out)
              have KB7 : Hid (Below w5.heap.size w5 w7) := Below.grown KBa hg KBa.size (fun k hk => Nat.le_trans HS6.out.1 (row_block_ge HRa.out.1 hk))
              clear KBa
              have hR7 := RowOf.append (j := asked j) HRa.out HYa.out hg hown
              obtain ⟨X7, c7, e7, hJ7⟩ := RowOf.jobs hR7
              rw [show (l ++ [asked j]).length = l.length + 1 by simp] at e7
              have k6 : Blk w7 (w6.heap.size) 27 #[.slice none 0 0] := Blk.grown (Blk.new _ _ _) hg (Ne.symm (own_blk_ne HRa.out.1 (Blk.new _ _ _) (by decide)))
              have KX7 := Lib.hid k6
              clear k6
              subst e7
              have HJ7 := Lib.hid hJ7
              clear hown hg hat hR7 hJ7 HRa HYa
              refine hK.out _ _ ?_ (fun hHeld => ?_)
              · exact KB7.out
              clear hK K
              (try simp only [Act.put, List.setIfInBounds_toArray, List.set_cons_zero, List.set_cons_succ])
              refine wpAnyH_ready (rs := [5]) (by kernel_rfl) (by simp) ?_
              refine AllReadyH.cons (i := 5) rfl (fun K hK => ?_) ?_
              · go_simp
                refine (HTW.out X7 c7 w7 (JobsAt.up HJ7.out (Below.refl _ _))).mono ?_
                rintro e w8 ⟨X8, c8, rfl, hO, hB8, hcap⟩
                have KB8 := Lib.hid (below_up KB7.out hB8)
                obtain ⟨B8, hb1, hb2, hb3, hO⟩ : ∃ B8, w5.heap.size ≤ B8 ∧ B8 ≤ w8.heap.size ∧ w6.heap.size < B8 ∧ JobsOwn w8 B8 X8 (l ++ [asked j]) := ⟨_, (show Below w5.heap.size w5 w7 from KB7.out).size, hB8.size, Blk.lt KX7.out, hO⟩
                have k6 : Blk w8 (w6.heap.size) 27 #[.slice none 0 0] := Blk.below KX7.out hB8 (Blk.lt KX7.out)
                have y6 : w8.cell? ⟨w6.heap.size, 0, none⟩ = some (.slice none 0 0) := k6.cell 0
                have f6 : w8.frozen? ⟨w6.heap.size, 0, none⟩ = false := k6.frozen 0
                have KX8 := Lib.hid k6
                clear k6
                have HGB := Lib.hid (show w5.heap.size ≤ w6.heap.size from KB6.out.size)
                have HO8 := Lib.hid hO
                have HS8 := Lib.hid (And.intro hb1 (And.intro hb2 hb3))
                clear hO hB8 hb1 hb2 hb3
                (try dsimp only)
                refine hK.out _ _ ?_ (fun hHeld => ?_)
                · exact KB8.out
                clear hK K
                (try simp only [Act.put, List.setIfInBounds_toArray, List.set_cons_zero, List.set_cons_succ])
                refine wpAnyH_ready (rs := [7]) (by kernel_rfl) (by simp) ?_
                refine AllReadyH.cons (i := 7) rfl (fun K hK => ?_) ?_
                · go_simp
                  refine hK.out _ _ ?_ (fun hHeld => ?_)
                  · exact (below_set1 HGB.out KB8.out)
                  clear hK K
                  (try simp only [Act.put, List.setIfInBounds_toArray, List.set_cons_zero, List.set_cons_succ])
                  refine wpAnyH_done (by kernel_rfl) ?_ _
                  refine NoPanic.normal ?_
                  go_wp2_with fail
                  go_meet
                  exact ⟨_, X8, c8, rfl, hcap, HGB.out, below_set1 HGB.out KB8.out, KX8.out.set_ 0 _, JobsOwn.from2 (JobsOwn.far2 (p := ⟨w6.heap.size, 0, none⟩) HO8.out HS8.out.2.2 _) HS8.out.1⟩
                exact AllReadyH.nil
              exact AllReadyH.nil
            exact AllReadyH.nil
          exact AllReadyH.nil
        refine AllReadyH.cons (i := 6) rfl (fun K hK => ?_) ?_
        · go_simp
          refine hK.out _ _ ?_ (fun hHeld => ?_)
          · exact (below_alloc (below_alloc (Below.refl _ _))).drew
          clear hK K
          (try simp only [Act.put, List.setIfInBounds_toArray, List.set_cons_zero, List.set_cons_succ])
          refine wpAnyH_ready (rs := [1]) (by kernel_rfl) (by simp) ?_
          refine AllReadyH.cons (i := 1) rfl (fun K hK => ?_) ?_
          · go_simp
            refine (HCL.out (World.drew (World.alloc (World.alloc w5 (.cells #[.int .i64 j.id, .int .i64 j.us, .int .i64 j.cl, .int .i64 j.x.a, .int .i64 j.x.b, .int .i64 j.x.c, .bool j.x.p, .bool j.x.q, .bool j.x.r, .bool j.x.tn, .int .i64 j.wa, .int .i64 j.pr, .bool j.he, .slice Y j.af.length cj, .int .u8 1, .int .i64 j.ca] 33)) (.cells #[.slice none 0 0] 27))) (HX.out.up (below_up HB5.out (below_alloc (below_alloc (Below.refl _ _))).drew))).mono ?_
            rintro e w6 ⟨v, raw, rfl, hR, hB6⟩
            have KB6 := Lib.hid (below_up (below_alloc (below_alloc (Below.refl _ _))).drew hB6)
            obtain ⟨BB, hb1, hb2, hR⟩ : ∃ BB, w5.heap.size ≤ BB ∧ BB ≤ w6.heap.size ∧ RowOf w6 BB BB v l raw := ⟨_, (show Below w5.heap.size w5 (World.drew (World.alloc (World.alloc w5 (.cells #[.int .i64 j.id, .int .i64 j.us, .int .i64 j.cl, .int .i64 j.x.a, .int .i64 j.x.b, .int .i64 j.x.c, .bool j.x.p, .bool j.x.q, .bool j.x.r, .bool j.x.tn, .int .i64 j.wa, .int .i64 j.pr, .bool j.he, .slice Y j.af.length cj, .int .u8 1, .int .i64 j.ca] 33)) (.cells #[.slice none 0 0] 27))) from (below_alloc (below_alloc (Below.refl _ _))).drew).size, hB6.size, hR⟩
            have k3 : Blk w6 (w5.heap.size) 33 #[.int .i64 j.id, .int .i64 j.us, .int .i64 j.cl, .int .i64 j.x.a, .int .i64 j.x.b, .int .i64 j.x.c, .bool j.x.p, .bool j.x.q, .bool j.x.r, .bool j.x.tn, .int .i64 j.wa, .int .i64 j.pr, .bool j.he, .slice Y j.af.length cj, .int .u8 1, .int .i64 j.ca] := Blk.below ((Blk.new _ _ _).alloc _).drew hB6 (Blk.lt ((Blk.new _ _ _).alloc _).drew)
            have KS6 := Lib.hid k3
            clear k3
            have k6 : Blk w6 (w5.heap.size + 1) 27 #[.slice none 0 0] := Blk.below (blk1 _ _ _).drew hB6 (Blk.lt (blk1 _ _ _).drew)
            have KX6 := Lib.hid k6
            clear k6
            have HR6 := Lib.hid hR
            have HS6 := Lib.hid (And.intro hb1 hb2)
            clear hR hB6 hb1 hb2
            (try dsimp only)
            refine hK.out _ _ ?_ (fun hHeld => ?_)
            · exact KB6.out
            clear hK K
            (try simp only [Act.put, List.setIfInBounds_toArray, List.set_cons_zero, List.set_cons_succ])
            refine wpAnyH_ready (rs := [4]) (by kernel_rfl) (by simp) ?_
            refine AllReadyH.cons (i := 4) rfl (fun K hK => ?_) ?_
            · have HRa : Hid (RowOf w6 BB BB v l raw) := RowOf.up HR6.out (Below.refl _ _)
              have HYa : Hid (IntsIn w6 BB Y j.af) := (IntsIn.more (HYI.out.up (below_up HB5.out KB6.out)) (Nat.le_trans HB5.out.size HS6.out.1))
              refine step_append_any _ rfl (.tmp 50) (.tmp 52) _ rfl BB 33 i0 (.agg #[.int .i64 0, .int .i64 0, .int .i64 0, .int .i64 0, .int .i64 0, .int .i64 0, .bool false, .bool false, .bool false, .bool false, .int .i64 0, .int .i64 0, .bool false, .slice none 0 0, .int .u8 0, .int .i64 0]) 16 120 Try.underlying27 HII.out.1 HII.out.2.1 HII.out.2.2.1 HII.out.2.2.2 rfl (by decide) v _ raw rfl HRa.out.1 _ _ 1 1 ((asked j).arr Y cj).toList rfl (reads_blk (cs := ((asked j).arr Y cj).toList) (show Blk w6 (w5.heap.size) 33 ((asked j).arr Y cj) from KS6.out)) (fun u hu => one16 u hu) (by simp only [maxLen]; omega) (by omega) HS6.out.2 ?_
              intro v7 w7 hown hg hat
              have KBa : Below w5.heap.size w5 w6 := KB6.out
              have KB7 : Hid (Below w5.heap.size w5 w7) := Below.grown KBa hg KBa.size (fun k hk => Nat.le_trans HS6.out.1 (row_block_ge HRa.out.1 hk))
              clear KBa
              have hR7 := RowOf.append (j := asked j) HRa.out HYa.out hg hown
              obtain ⟨X7, c7, e7, hJ7⟩ := RowOf.jobs hR7
              rw [show (l ++ [asked j]).length = l.length + 1 by simp] at e7
              have k6 : Blk w7 (w5.heap.size + 1) 27 #[.slice none 0 0] := Blk.grown KX6.out hg (Ne.symm (own_blk_ne HRa.out.1 KX6.out (by decide)))
              have KX7 := Lib.hid k6
              clear k6
              subst e7
              have HJ7 := Lib.hid hJ7
              clear hown hg hat hR7 hJ7 HRa HYa
              refine hK.out _ _ ?_ (fun hHeld => ?_)
              · exact KB7.out
              clear hK K
              (try simp only [Act.put, List.setIfInBounds_toArray, List.set_cons_zero, List.set_cons_succ])
              refine wpAnyH_ready (rs := [5]) (by kernel_rfl) (by simp) ?_
              refine AllReadyH.cons (i := 5) rfl (fun K hK => ?_) ?_
              · go_simp
                refine (HTW.out X7 c7 w7 (JobsAt.up HJ7.out (Below.refl _ _))).mono ?_
                rintro e w8 ⟨X8, c8, rfl, hO, hB8, hcap⟩
                have KB8 := Lib.hid (below_up KB7.out hB8)
                obtain ⟨B8, hb1, hb2, hb3, hO⟩ : ∃ B8, w5.heap.size ≤ B8 ∧ B8 ≤ w8.heap.size ∧ w5.heap.size + 1 < B8 ∧ JobsOwn w8 B8 X8 (l ++ [asked j]) := ⟨_, (show Below w5.heap.size w5 w7 from KB7.out).size, hB8.size, Blk.lt KX7.out, hO⟩
                have k6 : Blk w8 (w5.heap.size + 1) 27 #[.slice none 0 0] := Blk.below KX7.out hB8 (Blk.lt KX7.out)
                have y6 : w8.cell? ⟨w5.heap.size + 1, 0, none⟩ = some (.slice none 0 0) := k6.cell 0
                have f6 : w8.frozen? ⟨w5.heap.size + 1, 0, none⟩ = false := k6.frozen 0
                have KX8 := Lib.hid k6
                clear k6
                have HGB := Lib.hid (show w5.heap.size ≤ w5.heap.size + 1 from Nat.le_succ _)
                have HO8 := Lib.hid hO
                have HS8 := Lib.hid (And.intro hb1 (And.intro hb2 hb3))
                clear hO hB8 hb1 hb2 hb3
                (try dsimp only)
                refine hK.out _ _ ?_ (fun hHeld => ?_)
                · exact KB8.out
                clear hK K
                (try simp only [Act.put, List.setIfInBounds_toArray, List.set_cons_zero, List.set_cons_succ])
                refine wpAnyH_ready (rs := [7]) (by kernel_rfl) (by simp) ?_
                refine AllReadyH.cons (i := 7) rfl (fun K hK => ?_) ?_
                · go_simp
                  refine hK.out _ _ ?_ (fun hHeld => ?_)
                  · exact (below_set1 HGB.out KB8.out)
                  clear hK K
                  (try simp only [Act.put, List.setIfInBounds_toArray, List.set_cons_zero, List.set_cons_succ])
                  refine wpAnyH_done (by kernel_rfl) ?_ _
                  refine NoPanic.normal ?_
                  go_wp2_with fail
                  go_meet
                  exact ⟨_, X8, c8, rfl, hcap, HGB.out, below_set1 HGB.out KB8.out, KX8.out.set_ 0 _, JobsOwn.from2 (JobsOwn.far2 (p := ⟨w5.heap.size + 1, 0, none⟩) HO8.out HS8.out.2.2 _) HS8.out.1⟩
                exact AllReadyH.nil
              exact AllReadyH.nil
            exact AllReadyH.nil
          exact AllReadyH.nil
        exact AllReadyH.nil
      refine AllReadyH.cons (i := 6) rfl (fun K hK => ?_) ?_
      · go_simp
        refine hK.out _ _ ?_ (fun hHeld => ?_)
        · exact (below_alloc (Below.refl _ _)).drew
        clear hK K
        (try simp only [Act.put, List.setIfInBounds_toArray, List.set_cons_zero, List.set_cons_succ])
        refine wpAnyH_ready (rs := [1, 3]) (by kernel_rfl) (by simp) ?_
        refine AllReadyH.cons (i := 1) rfl (fun K hK => ?_) ?_
        · go_simp
          refine (HCL.out (World.drew (World.alloc w5 (.cells #[.slice none 0 0] 27))) (HX.out.up (below_up HB5.out (below_alloc (Below.refl _ _)).drew))).mono ?_
          rintro e w6 ⟨v, raw, rfl, hR, hB6⟩
          have KB6 := Lib.hid (below_up (below_alloc (Below.refl _ _)).drew hB6)
          obtain ⟨BB, hb1, hb2, hR⟩ : ∃ BB, w5.heap.size ≤ BB ∧ BB ≤ w6.heap.size ∧ RowOf w6 BB BB v l raw := ⟨_, (show Below w5.heap.size w5 (World.drew (World.alloc w5 (.cells #[.slice none 0 0] 27))) from (below_alloc (Below.refl _ _)).drew).size, hB6.size, hR⟩
          have k6 : Blk w6 (w5.heap.size) 27 #[.slice none 0 0] := Blk.below (Blk.new _ _ _).drew hB6 (Blk.lt (Blk.new _ _ _).drew)
          have KX6 := Lib.hid k6
          clear k6
          have HR6 := Lib.hid hR
          have HS6 := Lib.hid (And.intro hb1 hb2)
          clear hR hB6 hb1 hb2
          (try dsimp only)
          refine hK.out _ _ ?_ (fun hHeld => ?_)
          · exact KB6.out
          clear hK K
          (try simp only [Act.put, List.setIfInBounds_toArray, List.set_cons_zero, List.set_cons_succ])
          refine wpAnyH_ready (rs := [3]) (by kernel_rfl) (by simp) ?_
          refine AllReadyH.cons (i := 3) rfl (fun K hK => ?_) ?_
          · go_simp
            refine hK.out _ _ ?_ (fun hHeld => ?_)
            · exact (below_alloc KB6.out)
            clear hK K
            (try simp only [Act.put, List.setIfInBounds_toArray, List.set_cons_zero, List.set_cons_succ])
            refine wpAnyH_ready (rs := [4]) (by kernel_rfl) (by simp) ?_
            refine AllReadyH.cons (i := 4) rfl (fun K hK => ?_) ?_
            · have HRa : Hid (RowOf (World.alloc w6 (.cells #[.int .i64 j.id, .int .i64 j.us, .int .i64 j.cl, .int .i64 j.x.a, .int .i64 j.x.b, .int .i64 j.x.c, .bool j.x.p, .bool j.x.q, .bool j.x.r, .bool j.x.tn, .int .i64 j.wa, .int .i64 j.pr, .bool j.he, .slice Y j.af.length cj, .int .u8 1, .int .i64 j.ca] 33)) BB BB v l raw) := RowOf.up HR6.out (below_alloc (Below.refl _ _))
              have HYa : Hid (IntsIn (World.alloc w6 (.cells #[.int .i64 j.id, .int .i64 j.us, .int .i64 j.cl, .int .i64 j.x.a, .int .i64 j.x.b, .int .i64 j.x.c, .bool j.x.p, .bool j.x.q, .bool j.x.r, .bool j.x.tn, .int .i64 j.wa, .int .i64 j.pr, .bool j.he, .slice Y j.af.length cj, .int .u8 1, .int .i64 j.ca] 33)) BB Y j.af) := (IntsIn.more (HYI.out.up (below_up HB5.out (below_alloc KB6.out))) (Nat.le_trans HB5.out.size HS6.out.1))
              refine step_append_any _ rfl (.tmp 50) (.tmp 52) _ rfl BB 33 i0 (.agg #[.int .i64 0, .int .i64 0, .int .i64 0, .int .i64 0, .int .i64 0, .int .i64 0, .bool false, .bool false, .bool false, .bool false, .int .i64 0, .int .i64 0, .bool false, .slice none 0 0, .int .u8 0, .int .i64 0]) 16 120 Try.underlying27 HII.out.1 HII.out.2.1 HII.out.2.2.1 HII.out.2.2.2 rfl (by decide) v _ raw rfl HRa.out.1 _ _ 1 1 ((asked j).arr Y cj).toList rfl (reads_blk (cs := ((asked j).arr Y cj).toList) (show Blk (World.alloc w6 (.cells #[.int .i64 j.id, .int .i64 j.us, .int .i64 j.cl, .int .i64 j.x.a, .int .i64 j.x.b, .int .i64 j.x.c, .bool j.x.p, .bool j.x.q, .bool j.x.r, .bool j.x.tn, .int .i64 j.wa, .int .i64 j.pr, .bool j.he, .slice Y j.af.length cj, .int .u8 1, .int .i64 j.ca] 33)) (w6.heap.size) 33 ((asked j).arr Y cj) from (Blk.new _ _ _))) (fun u hu => one16 u hu) (by simp only [maxLen]; omega) (by omega) (Nat.le_trans HS6.out.2 (show Below w6.heap.size w6 (World.alloc w6 (.cells #[.int .i64 j.id, .int .i64 j.us, .int .i64 j.cl, .int .i64 j.x.a, .int .i64 j.x.b, .int .i64 j.x.c, .bool j.x.p, .bool j.x.q, .bool j.x.r, .bool j.x.tn, .int .i64 j.wa, .int .i64 j.pr, .bool j.he, .slice Y j.af.length cj, .int .u8 1, .int .i64 j.ca] 33)) from (below_alloc (Below.refl _ _))).size) ?_
              intro v7 w7 hown hg hat
              have KBa : Below w5.heap.size w5 (World.alloc w6 (.cells #[.int .i64 j.id, .int .i64 j.us, .int .i64 j.cl, .int .i64 j.x.a, .int .i64 j.x.b, .int .i64 j.x.c, .bool j.x.p, .bool j.x.q, .bool j.x.r, .bool j.x.tn, .int .i64 j.wa, .int .i64 j.pr, .bool j.he, .slice Y j.af.length cj, .int .u8 1, .int .i64 j.ca] 33)) := (below_alloc KB6.out)
              have KB7 : Hid (Below w5.heap.size w5 w7) := Below.grown KBa hg KBa.size (fun k hk => Nat.le_trans HS6.out.1 (row_block_ge HRa.out.1 hk))
              clear KBa
              have hR7 := RowOf.append (j := asked j) HRa.out HYa.out hg hown
              obtain ⟨X7, c7, e7, hJ7⟩ := RowOf.jobs hR7
              rw [show (l ++ [asked j]).length = l.length + 1 by simp] at e7
              have k6 : Blk w7 (w5.heap.size) 27 #[.slice none 0 0] := Blk.grown (KX6.out.alloc _) hg (Ne.symm (own_blk_ne HRa.out.1 (KX6.out.alloc _) (by decide)))
              have KX7 := Lib.hid k6
              clear k6
              subst e7
              have HJ7 := Lib.hid hJ7
              clear hown hg hat hR7 hJ7 HRa HYa
              refine hK.out _ _ ?_ (fun hHeld => ?_)
              · exact KB7.out
              clear hK K
              (try simp only [Act.put, List.setIfInBounds_toArray, List.set_cons_zero, List.set_cons_succ])
              refine wpAnyH_ready (rs := [5]) (by kernel_rfl) (by simp) ?_
              refine AllReadyH.cons (i := 5) rfl (fun K hK => ?_) ?_
              · go_simp
                refine (HTW.out X7 c7 w7 (JobsAt.up HJ7.out (Below.refl _ _))).mono ?_
                rintro e w8 ⟨X8, c8, rfl, hO, hB8, hcap⟩
                have KB8 := Lib.hid (below_up KB7.out hB8)
                obtain ⟨B8, hb1, hb2, hb3, hO⟩ : ∃ B8, w5.heap.size ≤ B8 ∧ B8 ≤ w8.heap.size ∧ w5.heap.size < B8 ∧ JobsOwn w8 B8 X8 (l ++ [asked j]) := ⟨_, (show Below w5.heap.size w5 w7 from KB7.out).size, hB8.size, Blk.lt KX7.out, hO⟩
                have k6 : Blk w8 (w5.heap.size) 27 #[.slice none 0 0] := Blk.below KX7.out hB8 (Blk.lt KX7.out)
                have y6 : w8.cell? ⟨w5.heap.size, 0, none⟩ = some (.slice none 0 0) := k6.cell 0
                have f6 : w8.frozen? ⟨w5.heap.size, 0, none⟩ = false := k6.frozen 0
                have KX8 := Lib.hid k6
                clear k6
                have HGB := Lib.hid (show w5.heap.size ≤ w5.heap.size from Nat.le_refl _)
                have HO8 := Lib.hid hO
                have HS8 := Lib.hid (And.intro hb1 (And.intro hb2 hb3))
                clear hO hB8 hb1 hb2 hb3
                (try dsimp only)
                refine hK.out _ _ ?_ (fun hHeld => ?_)
                · exact KB8.out
                clear hK K
                (try simp only [Act.put, List.setIfInBounds_toArray, List.set_cons_zero, List.set_cons_succ])
                refine wpAnyH_ready (rs := [7]) (by kernel_rfl) (by simp) ?_
                refine AllReadyH.cons (i := 7) rfl (fun K hK => ?_) ?_
                · go_simp
                  refine hK.out _ _ ?_ (fun hHeld => ?_)
                  · exact (below_set1 HGB.out KB8.out)
                  clear hK K
                  (try simp only [Act.put, List.setIfInBounds_toArray, List.set_cons_zero, List.set_cons_succ])
                  refine wpAnyH_done (by kernel_rfl) ?_ _
                  refine NoPanic.normal ?_
                  go_wp2_with fail
                  go_meet
                  exact ⟨_, X8, c8, rfl, hcap, HGB.out, below_set1 HGB.out KB8.out, KX8.out.set_ 0 _, JobsOwn.from2 (JobsOwn.far2 (p := ⟨w5.heap.size, 0, none⟩) HO8.out HS8.out.2.2 _) HS8.out.1⟩
                exact AllReadyH.nil
              exact AllReadyH.nil
            exact AllReadyH.nil
          exact AllReadyH.nil
        refine AllReadyH.cons (i := 3) rfl (fun K hK => ?_) ?_
        · go_simp
          refine hK.out _ _ ?_ (fun hHeld => ?_)
          · exact (below_alloc (below_alloc (Below.refl _ _))).drew
          clear hK K
          (try simp only [Act.put, List.setIfInBounds_toArray, List.set_cons_zero, List.set_cons_succ])
          refine wpAnyH_ready (rs := [1]) (by kernel_rfl) (by simp) ?_
          refine AllReadyH.cons (i := 1) rfl (fun K hK => ?_) ?_
          · go_simp
            refine (HCL.out (World.drew (World.alloc (World.alloc w5 (.cells #[.slice none 0 0] 27)) (.cells #[.int .i64 j.id, .int .i64 j.us, .int .i64 j.cl, .int .i64 j.x.a, .int .i64 j.x.b, .int .i64 j.x.c, .bool j.x.p, .bool j.x.q, .bool j.x.r, .bool j.x.tn, .int .i64 j.wa, .int .i64 j.pr, .bool j.he, .slice Y j.af.length cj, .int .u8 1, .int .i64 j.ca] 33))) (HX.out.up (below_up HB5.out (below_alloc (below_alloc (Below.refl _ _))).drew))).mono ?_
            rintro e w6 ⟨v, raw, rfl, hR, hB6⟩
            have KB6 := Lib.hid (below_up (below_alloc (below_alloc (Below.refl _ _))).drew hB6)
            obtain ⟨BB, hb1, hb2, hR⟩ : ∃ BB, w5.heap.size ≤ BB ∧ BB ≤ w6.heap.size ∧ RowOf w6 BB BB v l raw := ⟨_, (show Below w5.heap.size w5 (World.drew (World.alloc (World.alloc w5 (.cells #[.slice none 0 0] 27)) (.cells #[.int .i64 j.id, .int .i64 j.us, .int .i64 j.cl, .int .i64 j.x.a, .int .i64 j.x.b, .int .i64 j.x.c, .bool j.x.p, .bool j.x.q, .bool j.x.r, .bool j.x.tn, .int .i64 j.wa, .int .i64 j.pr, .bool j.he, .slice Y j.af.length cj, .int .u8 1, .int .i64 j.ca] 33))) from (below_alloc (below_alloc (Below.refl _ _))).drew).size, hB6.size, hR⟩
            have k3 : Blk w6 (w5.heap.size + 1) 33 #[.int .i64 j.id, .int .i64 j.us, .int .i64 j.cl, .int .i64 j.x.a, .int .i64 j.x.b, .int .i64 j.x.c, .bool j.x.p, .bool j.x.q, .bool j.x.r, .bool j.x.tn, .int .i64 j.wa, .int .i64 j.pr, .bool j.he, .slice Y j.af.length cj, .int .u8 1, .int .i64 j.ca] := Blk.below (blk1 _ _ _).drew hB6 (Blk.lt (blk1 _ _ _).drew)
            have KS6 := Lib.hid k3
            clear k3
            have k6 : Blk w6 (w5.heap.size) 27 #[.slice none 0 0] := Blk.below ((Blk.new _ _ _).alloc _).drew hB6 (Blk.lt ((Blk.new _ _ _).alloc _).drew)
            have KX6 := Lib.hid k6
            clear k6
            have HR6 := Lib.hid hR
            have HS6 := Lib.hid (And.intro hb1 hb2)
            clear hR hB6 hb1 hb2
            (try dsimp only)
            refine hK.out _ _ ?_ (fun hHeld => ?_)
            · exact KB6.out
            clear hK K
            (try simp only [Act.put, List.setIfInBounds_toArray, List.set_cons_zero, List.set_cons_succ])
            refine wpAnyH_ready (rs := [4]) (by kernel_rfl) (by simp) ?_
            refine AllReadyH.cons (i := 4) rfl (fun K hK => ?_) ?_
            · have HRa : Hid (RowOf w6 BB BB v l raw) := RowOf.up HR6.out (Below.refl _ _)
              have HYa : Hid (IntsIn w6 BB Y j.af) := (IntsIn.more (HYI.out.up (below_up HB5.out KB6.out)) (Nat.le_trans HB5.out.size HS6.out.1))
              refine step_append_any _ rfl (.tmp 50) (.tmp 52) _ rfl BB 33 i0 (.agg #[.int .i64 0, .int .i64 0, .int .i64 0, .int .i64 0, .int .i64 0, .int .i64 0, .bool false, .bool false, .bool false, .bool false, .int .i64 0, .int .i64 0, .bool false, .slice none 0 0, .int .u8 0, .int .i64 0]) 16 120 Try.underlying27 HII.out.1 HII.out.2.1 HII.out.2.2.1 HII.out.2.2.2 rfl (by decide) v _ raw rfl HRa.out.1 _ _ 1 1 ((asked j).arr Y cj).toList rfl (reads_blk (cs := ((asked j).arr Y cj).toList) (show Blk w6 (w5.heap.size + 1) 33 ((asked j).arr Y cj) from KS6.out)) (fun u hu => one16 u hu) (by simp only [maxLen]; omega) (by omega) HS6.out.2 ?_
              intro v7 w7 hown hg hat
              have KBa : Below w5.heap.size w5 w6 := KB6.out
              have KB7 : Hid (Below w5.heap.size w5 w7) := Below.grown KBa hg KBa.size (fun k hk => Nat.le_trans HS6.out.1 (row_block_ge HRa.out.1 hk))
              clear KBa
              have hR7 := RowOf.append (j := asked j) HRa.out HYa.out hg hown
              obtain ⟨X7, c7, e7, hJ7⟩ := RowOf.jobs hR7
              rw [show (l ++ [asked j]).length = l.length + 1 by simp] at e7
              have k6 : Blk w7 (w5.heap.size) 27 #[.slice none 0 0] := Blk.grown KX6.out hg (Ne.symm (own_blk_ne HRa.out.1 KX6.out (by decide)))
              have KX7 := Lib.hid k6
              clear k6
              subst e7
              have HJ7 := Lib.hid hJ7
              clear hown hg hat hR7 hJ7 HRa HYa
              refine hK.out _ _ ?_ (fun hHeld => ?_)
              · exact KB7.out
              clear hK K
              (try simp only [Act.put, List.setIfInBounds_toArray, List.set_cons_zero, List.set_cons_succ])
              refine wpAnyH_ready (rs := [5]) (by kernel_rfl) (by simp) ?_
              refine AllReadyH.cons (i := 5) rfl (fun K hK => ?_) ?_
              · go_simp
                refine (HTW.out X7 c7 w7 (JobsAt.up HJ7.out (Below.refl _ _))).mono ?_
                rintro e w8 ⟨X8, c8, rfl, hO, hB8, hcap⟩
                have KB8 := Lib.hid (below_up KB7.out hB8)
                obtain ⟨B8, hb1, hb2, hb3, hO⟩ : ∃ B8, w5.heap.size ≤ B8 ∧ B8 ≤ w8.heap.size ∧ w5.heap.size < B8 ∧ JobsOwn w8 B8 X8 (l ++ [asked j]) := ⟨_, (show Below w5.heap.size w5 w7 from KB7.out).size, hB8.size, Blk.lt KX7.out, hO⟩
                have k6 : Blk w8 (w5.heap.size) 27 #[.slice none 0 0] := Blk.below KX7.out hB8 (Blk.lt KX7.out)
                have y6 : w8.cell? ⟨w5.heap.size, 0, none⟩ = some (.slice none 0 0) := k6.cell 0
                have f6 : w8.frozen? ⟨w5.heap.size, 0, none⟩ = false := k6.frozen 0
                have KX8 := Lib.hid k6
                clear k6
                have HGB := Lib.hid (show w5.heap.size ≤ w5.heap.size from Nat.le_refl _)
                have HO8 := Lib.hid hO
                have HS8 := Lib.hid (And.intro hb1 (And.intro hb2 hb3))
                clear hO hB8 hb1 hb2 hb3
                (try dsimp only)
                refine hK.out _ _ ?_ (fun hHeld => ?_)
                · exact KB8.out
                clear hK K
                (try simp only [Act.put, List.setIfInBounds_toArray, List.set_cons_zero, List.set_cons_succ])
                refine wpAnyH_ready (rs := [7]) (by kernel_rfl) (by simp) ?_
                refine AllReadyH.cons (i := 7) rfl (fun K hK => ?_) ?_
                · go_simp
                  refine hK.out _ _ ?_ (fun hHeld => ?_)
                  · exact (below_set1 HGB.out KB8.out)
                  clear hK K
                  (try simp only [Act.put, List.setIfInBounds_toArray, List.set_cons_zero, List.set_cons_succ])
                  refine wpAnyH_done (by kernel_rfl) ?_ _
                  refine NoPanic.normal ?_
                  go_wp2_with fail
                  go_meet
                  exact ⟨_, X8, c8, rfl, hcap, HGB.out, below_set1 HGB.out KB8.out, KX8.out.set_ 0 _, JobsOwn.from2 (JobsOwn.far2 (p := ⟨w5.heap.size, 0, none⟩) HO8.out HS8.out.2.2 _) HS8.out.1⟩
                exact AllReadyH.nil
              exact AllReadyH.nil
            exact AllReadyH.nil
          exact AllReadyH.nil
        exact AllReadyH.nil
      exact AllReadyH.nil
    case rest =>
      obtain ⟨gb, X8, c8, rfl, hcap, hgb, hB, hK, hO⟩ := hcut
      clear xl5
      have hle : ¬ ((l.length : Int) + 1) ≤ 24 := by have := hn24.out; omega
      have kL := KL5.out.below hB.out KL5.out.lt
      have kJ := KJ5.out.below hB.out KJ5.out.lt
      have kR := KR5.out.below hB.out KR5.out.lt
      have kE := KE5.out.below hB.out KE5.out.lt
      have c13 : wc.cell? ⟨gb, 0, none⟩ = some (.slice X8 (l.length + 1) c8) := hK.out.cell 0
      have cL : wc.cell? ⟨w.heap.size + 1, 0, none⟩ = some (.slice X l.length cap) := kL.cell 0
      have RJ := Lib.hid (show wc.rangeAt (w.heap.size + 1 + 1) 0 [.int .i64 j.id, .int .i64 j.us, .int .i64 j.cl, .int .i64 j.x.a, .int .i64 j.x.b, .int .i64 j.x.c, .bool j.x.p, .bool j.x.q, .bool j.x.r, .bool j.x.tn, .int .i64 j.wa, .int .i64 j.pr, .bool j.he, .slice Y j.af.length cj, .int .u8 1, .int .i64 j.ca] from range_of kJ)
      have HLT := Lib.hid (And.intro KR5.out.lt KE5.out.lt)
      have HRE := Lib.hid (show Blk wc (w.heap.size + 1 + 1 + 1) 27 #[.slice none 0 0] ∧ Blk wc (w.heap.size + 1 + 1 + 1 + 1) 36 #[.int .i64 0] from ⟨kR, kE⟩)
      have HI := Lib.hid (show JobsAt wc X l ∧ IntsAt wc U us ∧ IntsAt wc Y j.af ∧ Below w.heap.size w wc from ⟨HX.out.up (below_up HB5.out hB.out), HUL.out.1.up (below_up HB5.out hB.out), HY.out.up (below_up HB5.out hB.out), below_up HB5.out hB.out⟩)
      have HO := Lib.hid (And.intro hcap (And.intro hO.out (And.intro hK.out (show w.heap.size ≤ w5.heap.size from HB5.out.size))))
      clear kL kJ kR kE hgb hK hO hB hcap HII HL HYI HCL HTW HR5 KC5 KL5 KJ5 KR5 KE5 HB5
      go_upto_region 16 with fail
      refine (wpIn_wide (n := 5)).1 ?_
      gi_wp2_with (first | (refine wpListIn_load_mid rfl 33 _ rfl _ _ rfl _ _ RJ.out Try.underlying33 rfl (by kernel_rfl) ?_) | (refine ⟨trivial, ?_⟩; gi_at_call 42; refine (loose_in Fence.wide 4 trivial rfl X U Y l.length cap us.length cu cj (asked j) wc).mono ?_; rintro e w' ⟨rfl, rfl⟩) | gi_in)
      have q1 : Blk (((wc.alloc (.cells #[.slice X l.length cap] 27)).alloc (.cells #[.slice U us.length cu] 31)).alloc (.cells #[.int .i64 (asked j).id, .int .i64 (asked j).us, .int .i64 (asked j).cl, .int .i64 (asked j).x.a, .int .i64 (asked j).x.b, .int .i64 (asked j).x.c, .bool (asked j).x.p, .bool (asked j).x.q, .bool (asked j).x.r, .bool (asked j).x.tn, .int .i64 (asked j).wa, .int .i64 (asked j).pr, .bool (asked j).he, .slice Y (asked j).af.length cj, .int .u8 (asked j).st, .int .i64 (asked j).ca] 33)) wc.heap.size 27 #[.slice X l.length cap] := ((Blk.new wc _ _).alloc _).alloc _
      have q2 : Blk (((wc.alloc (.cells #[.slice X l.length cap] 27)).alloc (.cells #[.slice U us.length cu] 31)).alloc (.cells #[.int .i64 (asked j).id, .int .i64 (asked j).us, .int .i64 (asked j).cl, .int .i64 (asked j).x.a, .int .i64 (asked j).x.b, .int .i64 (asked j).x.c, .bool (asked j).x.p, .bool (asked j).x.q, .bool (asked j).x.r, .bool (asked j).x.tn, .int .i64 (asked j).wa, .int .i64 (asked j).pr, .bool (asked j).he, .slice Y (asked j).af.length cj, .int .u8 (asked j).st, .int .i64 (asked j).ca] 33)) (wc.heap.size + 1) 31 #[.slice U us.length cu] := (blk1 wc _ _).alloc _
      have q3 : Blk (((wc.alloc (.cells #[.slice X l.length cap] 27)).alloc (.cells #[.slice U us.length cu] 31)).alloc (.cells #[.int .i64 (asked j).id, .int .i64 (asked j).us, .int .i64 (asked j).cl, .int .i64 (asked j).x.a, .int .i64 (asked j).x.b, .int .i64 (asked j).x.c, .bool (asked j).x.p, .bool (asked j).x.q, .bool (asked j).x.r, .bool (asked j).x.tn, .int .i64 (asked j).wa, .int .i64 (asked j).pr, .bool (asked j).he, .slice Y (asked j).af.length cj, .int .u8 (asked j).st, .int .i64 (asked j).ca] 33)) (wc.heap.size + 1 + 1) 33 #[.int .i64 (asked j).id, .int .i64 (asked j).us, .int .i64 (asked j).cl, .int .i64 (asked j).x.a, .int .i64 (asked j).x.b, .int .i64 (asked j).x.c, .bool (asked j).x.p, .bool (asked j).x.q, .bool (asked j).x.r, .bool (asked j).x.tn, .int .i64 (asked j).wa, .int .i64 (asked j).pr, .bool (asked j).he, .slice Y (asked j).af.length cj, .int .u8 (asked j).st, .int .i64 (asked j).ca] := blk2 wc _ _
      have hB9 : Below wc.heap.size wc (((wc.alloc (.cells #[.slice X l.length cap] 27)).alloc (.cells #[.slice U us.length cu] 31)).alloc (.cells #[.int .i64 (asked j).id, .int .i64 (asked j).us, .int .i64 (asked j).cl, .int .i64 (asked j).x.a, .int .i64 (asked j).x.b, .int .i64 (asked j).x.c, .bool (asked j).x.p, .bool (asked j).x.q, .bool (asked j).x.r, .bool (asked j).x.tn, .int .i64 (asked j).wa, .int .i64 (asked j).pr, .bool (asked j).he, .slice Y (asked j).af.length cj, .int .u8 (asked j).st, .int .i64 (asked j).ca] 33)) := below_alloc (below_alloc (below_alloc (Below.refl _ _)))
      generalize ((wc.alloc (.cells #[.slice X l.length cap] 27)).alloc (.cells #[.slice U us.length cu] 31)).alloc (.cells #[.int .i64 (asked j).id, .int .i64 (asked j).us, .int .i64 (asked j).cl, .int .i64 (asked j).x.a, .int .i64 (asked j).x.b, .int .i64 (asked j).x.c, .bool (asked j).x.p, .bool (asked j).x.q, .bool (asked j).x.r, .bool (asked j).x.tn, .int .i64 (asked j).wa, .int .i64 (asked j).pr, .bool (asked j).he, .slice Y (asked j).af.length cj, .int .u8 (asked j).st, .int .i64 (asked j).ca] 33) = W9 at *
      have HIN := Lib.hid (show LIn wc.heap.size (wc.heap.size + 1) (wc.heap.size + 1 + 1) X cap l U cu us (asked j) Y cj W9 from ⟨q1, q2, q3, HI.out.1.up hB9, HI.out.2.1.up hB9, HI.out.2.2.1.up hB9⟩)
      have HFX := Lib.hid (show FAt w w5.heap.size (w.heap.size + 1 + 1 + 1) (w.heap.size + 1 + 1 + 1 + 1) gb X8 c8 l j W9 from ⟨HRE.out.1.below hB9 HRE.out.1.lt, HRE.out.2.below hB9 HRE.out.2.lt, HO.out.2.2.1.below hB9 HO.out.2.2.1.lt, HO.out.2.1.up hB9, below_up HI.out.2.2.2 hB9, HO.out.2.2.2, HLT.out.1, HLT.out.2, HO.out.1⟩)
      clear q1 q2 q3 hB9 c13 cL RJ
      obtain ⟨g8, hg8⟩ : ∃ g8, X8 = some ⟨g8, 0, none⟩ := by
        obtain ⟨g8, _, _, e, _⟩ := HO.out.2.1 0 ((l ++ [asked j])[0]'(by simp)) (List.getElem?_eq_getElem _)
        exact ⟨g8, e⟩
      subst hg8
      refine (wpIn_wide (n := 5)).1 ?_
      refine wpIn_block ?_
      refine range_given_at rfl (by omega) (gf := 61) (lb := #[.pointer (some ⟨wc.heap.size, 0, none⟩), .pointer (some ⟨wc.heap.size + 1, 0, none⟩), .pointer (some ⟨wc.heap.size + 1 + 1, 0, none⟩)]) rfl trivial (enters_of Try.func61 (by kernel_rfl) rfl)
        (loose_seq wc.heap.size (wc.heap.size + 1) (wc.heap.size + 1 + 1) X cap l U cu us (asked j) Y cj (by omega) (fun q hq => by have := HUL.out.2.1 q hq; omega) (by omega) (show j.af.length ≤ _ by omega) W9 HIN.out) Below.trans
        (fun W l o o' hl ho1 ho2 ho3 => belowK_b (w := W9) (Nat.le_refl _) W l o o' hl ho1 ho2 ho3)
        (Below.refl _ _) (fun _ => rfl)
        (fun pre W => pre = [] ∧ Below W9.heap.size W9 W) (fun c pre W => c = .ret ∧ FX w (w.heap.size + 1 + 1 + 1) (w.heap.size + 1 + 1 + 1 + 1) g8 c8 l j pre W)
        (fun pre W W' row hs hg hr => ⟨hs.1, hs.2.grown hg hs.2.size (fun k hk => (hr k hk).1)⟩) (fun c => fx_own c HFX.out.b.size)
        (fun _ _ _ _ _ _ _ => trivial) ⟨rfl, Below.refl _ _⟩
        ?A ?assign ?body ?done ?stop
      case assign =>
        rintro lp pre x W K hI hR hK
        have HK := Lib.hid hK
        have H1 := Lib.hid hI
        clear hK hI hR
        gi_wp2_with (first | gi_in)
        exact HK.out W (KeepsFrom.refl _ _) (Below.refl _ _) H1.out trivial
      case body =>
        rintro lp pre x W hl9 ⟨r, hr⟩ ⟨rfl, hB⟩ _ hsp
        have HSP := Lib.hid hsp
        have hxm := loose_mem (hsp.subset (List.mem_append_right _ (List.mem_singleton.2 rfl)))
        have hxl : x < l.length := hxm.1
        have HF := Lib.hid (HFX.out.up hB)
        have cO : W.cell? ⟨gb, 0, none⟩ = some (.slice (some ⟨g8, 0, none⟩) (l.length + 1) c8) := HF.out.k.cell 0
        have hw1 : IntKind.i64.wrap ((x : Int) + 1) = ((x + 1 : Nat) : Int) := (IntWalk.i64_in ((x : Int) + 1) (by omega)).trans (by omega)
        have HD := Lib.hid (jdelete g8 c8 (l ++ [asked j]) x (x + 1) rfl (by simp; omega) (by have := hn24.out; simp; omega) (by simp; exact HF.out.cap) w5.heap.size W HF.out.o)
        rw [show (l ++ [asked j]).length = l.length + 1 by simp, Nat.add_sub_cancel] at HD
        have HH := Lib.hid (And.intro hl9 hB)
        clear hr hB hsp hxm hl9
        gi_wp2_with (first | (refine ⟨trivial, ?_⟩; gi_at_call 43; refine (CallsIn.inRound lp (callsIn_wide.2 HD.out)).mono ?_; rintro e w' ⟨rfl, hO', hB', hh, hs⟩; have KR' : Hid (Blk w' (w.heap.size + 1 + 1 + 1) 27 #[.slice none 0 0]) := (hh _ HF.out.ne3).trans HF.out.r; have KE' : Hid (Blk w' (w.heap.size + 1 + 1 + 1 + 1) 36 #[.int .i64 0]) := (hh _ HF.out.ne4).trans HF.out.e; have cR := KR'.out.cell 0; have fR := KR'.out.frozen 0; have cE := KE'.out.cell 0; have fE := KE'.out.frozen 0; have HN := Lib.hid (And.intro hO' (And.intro hB' (And.intro hh hs))); clear hO' hB' hh hs) | gi_in)
        refine ⟨?_, rfl, x, rfl, ?_, ?_, ?_, ?_⟩
        · refine KeepsFrom.trans ⟨Nat.le_of_eq HN.out.2.2.2.symm, fun k o _ hk ho => (HN.out.2.2.1 k fun e => HF.out.cells8 (by rw [e] at hk; exact hk) ho).trans hk⟩ (((KeepsOthers.setCell _ _ _).trans (KeepsOthers.setCell _ _ _)).from _)
        · exact (KR'.out.set_ 0 _).far (p := ⟨w.heap.size + 1 + 1 + 1 + 1, 0, none⟩) (by show w.heap.size + 1 + 1 + 1 ≠ w.heap.size + 1 + 1 + 1 + 1; omega) _
        · exact (KE'.out.far (p := ⟨w.heap.size + 1 + 1 + 1, 0, none⟩) (by show w.heap.size + 1 + 1 + 1 + 1 ≠ w.heap.size + 1 + 1 + 1; omega) _).set_ 0 _
        · exact JobsOwn.from2 (JobsOwn.far2 (p := ⟨w.heap.size + 1 + 1 + 1 + 1, 0, none⟩) (JobsOwn.far2 (p := ⟨w.heap.size + 1 + 1 + 1, 0, none⟩) HN.out.1 HF.out.lt3 _) HF.out.lt4 _) HF.out.b5
        · exact ((HF.out.b.trans (HN.out.2.1.mono HF.out.b5)).setCell (p := ⟨w.heap.size + 1 + 1 + 1, 0, none⟩) (by show w.heap.size ≤ w.heap.size + 1 + 1 + 1; omega) _).setCell (p := ⟨w.heap.size + 1 + 1 + 1 + 1, 0, none⟩) (by show w.heap.size ≤ w.heap.size + 1 + 1 + 1 + 1; omega) _
      case done =>
        rintro D xs W hD hS ⟨rfl, hB⟩ hK
        have HF := Lib.hid (HFX.out.up hB)
        have cR := HF.out.r.cell 0
        have fR := HF.out.r.frozen 0
        have cE := HF.out.e.cell 0
        have fE := HF.out.e.frozen 0
        have HS := Lib.hid (And.intro hS (And.intro hD hK))
        have hs9 := HFX.out.b.size
        clear hB hS hD hK
        (try gi_wp2)
        go_wp2_with fail
        have hK2 : ((W.setCell ⟨w.heap.size + 1 + 1 + 1, 0, none⟩ (.slice none 0 0)).setCell ⟨w.heap.size + 1 + 1 + 1 + 1, 0, none⟩ (.int .i64 9)).heap[D]? = some (.deferred (some [])) := by
          have hd := HS.out.2.1
          have h3 := HFX.out.r.lt
          have h4 := HFX.out.e.lt
          rw [Below.heap_setCell _ _ _ _ (by show D ≠ w.heap.size + 1 + 1 + 1 + 1; omega), Below.heap_setCell _ _ _ _ (by show D ≠ w.heap.size + 1 + 1 + 1; omega)]
          exact HS.out.2.2
        refine ⟨by simp, .inl ⟨_, _, rfl, run_takeDeferred hK2, ?_⟩⟩
        have kR := (HF.out.r.set_ 0 (.slice none 0 0)).far (p := ⟨w.heap.size + 1 + 1 + 1 + 1, 0, none⟩) (by show w.heap.size + 1 + 1 + 1 ≠ w.heap.size + 1 + 1 + 1 + 1; omega) (.int .i64 9)
        have kE := (HF.out.e.far (p := ⟨w.heap.size + 1 + 1 + 1, 0, none⟩) (by show w.heap.size + 1 + 1 + 1 + 1 ≠ w.heap.size + 1 + 1 + 1; omega) (.slice none 0 0)).set_ 0 (.int .i64 9)
        have hd := HS.out.2.1
        have h3 := HFX.out.r.lt
        have h4 := HFX.out.e.lt
        refine ⟨_, results_two rfl _ _ (w.heap.size + 1 + 1 + 1) (w.heap.size + 1 + 1 + 1 + 1) (.slice none 0 0) (.int .i64 9) rfl rfl (((blk_put kR (by omega)).cell 0)) (((blk_put kE (by omega)).cell 0)) Try.underlying27 Try.underlying36, .inr ⟨HS.out.1.symm, rfl⟩, ?_⟩
        exact below_put (((HF.out.b).setCell (p := ⟨w.heap.size + 1 + 1 + 1, 0, none⟩) (by show w.heap.size ≤ w.heap.size + 1 + 1 + 1; omega) _).setCell (p := ⟨w.heap.size + 1 + 1 + 1 + 1, 0, none⟩) (by show w.heap.size ≤ w.heap.size + 1 + 1 + 1 + 1; omega) _) (by omega)
      case stop =>
        rintro D c pre W hD hSp ⟨rfl, hX⟩ hK
        have hI2 := (fx_own (l := l) (j := j) (g3 := w.heap.size + 1 + 1 + 1) (g4 := w.heap.size + 1 + 1 + 1 + 1) (g8 := g8) (c8 := c8) .ret HFX.out.b.size).putObj (o' := .deferred none) (⟨rfl, hX⟩ : (Code.ret = .ret ∧ FX w (w.heap.size + 1 + 1 + 1) (w.heap.size + 1 + 1 + 1 + 1) g8 c8 l j pre W)) hD hK rfl
        have H2 := Lib.hid (And.intro hI2.2 hSp)
        clear hX hI2 hSp
        gi_wp2
        refine ⟨by simp, .inl ⟨_, _, rfl, run_takeDeferred hK, ?_⟩⟩
        obtain ⟨⟨i, rfl, k3, k4, hO, hB⟩, hp⟩ := H2.out
        refine ⟨_, results_two rfl _ _ (w.heap.size + 1 + 1 + 1) (w.heap.size + 1 + 1 + 1 + 1) (.slice (some ⟨g8, 0, none⟩) l.length c8) (.int .i64 0) rfl rfl (k3.cell 0) (k4.cell 0) Try.underlying27 Try.underlying36, .inl ⟨i, _, _, ?_, rfl, hO⟩, hB⟩
        obtain ⟨t, ht⟩ := hp
        rw [← ht]
        rfl
end Go.Proofs.Ytaldgmmmcbikgaa.AddFull
