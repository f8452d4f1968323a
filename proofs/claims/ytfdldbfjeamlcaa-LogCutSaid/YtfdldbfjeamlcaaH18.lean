/- Several texts joined: log.All of any bytes. No conditions but those named. -/
import Derived.RangeFuncNested
import Derived.RangeFuncLeaves
import Derived.OwnWalkIn
import Derived.Test.YtfdldbfjeamlcaaH16
import Derived.Test.YtfdldbfjeamlcaaH17
import Derived.BigQuiet
import Derived.Deep.QuietTactic
import Derived.Deep.DeepCutAuto
import Derived.Deep.RegionLaw
import Derived.Laws.Rows
import Derived.Test.YtfdldbfjeamlcaaH15
/-! log.All of any bytes. No conditions but those named. -/
namespace Go.Proofs.Ytfdldbfjeamlcaa.LogAllV
open Go Go.RowKit MarkMath Mem SeqKit RecMem RecByte RecNum RecEach RecMath RecCod RecVal RecSame RecWr0 RecRecC RecOwn RecCmdJ RecRd RecRL0 RecRRec RecRead RecAt RecAll LogFour LogJoin LogWrap RangeGiven LogFrm LogFrames
attribute [local go_sem] Oper.semAt_some
set_option linter.unusedVariables false
set_option linter.unusedSimpArgs false

abbrev LT : TypeId := 86
abbrev ET : TypeId := 38
theorem frames_in (F : Fence) (n : Nat) (hf : F.fn 70) (hro : F.round = none) (v : Value) (w : World) (hv : v.oneCell' = true) :
    CallsIn F n Try.prog 70 #[v] w fun e w' => e = .returned (.func (.func 99) #[] #[.pointer (some ⟨w.heap.size, 0, none⟩)]) ∧ w' = w.alloc (.cells #[v] 37) := by
  refine callsIn_of_wp Try.func70 rfl hf ?_ hro
  simp only [Try.ntmps70, List.size_toArray, List.length_cons, List.length_nil, Nat.reduceAdd, Nat.reduceSub, Array.replicate_succ, Array.replicate_zero, List.push_toArray, List.append_toArray, List.nil_append, List.cons_append]
  gi_wp2
  go_ret
  exact ⟨rfl, rfl⟩
/-- The iterator's contract. -/
theorem frames_seq (Bp : Nat) (X : Option Addr) (c : Nat) (t : Bs) (ho : Oct t) (hc : t.length ≤ c) (hm : c ≤ maxLen) (hl : t.length ≤ 4611686018427387904) (wS w0 : World) (hS : Below wS.heap.size wS w0) (hBp : Bp < w0.heap.size) (hbx : w0.cell? ⟨Bp, 0, none⟩ = some (.slice X t.length c)) (hX : TxtAt wS X t) :
    SeqR Fence.wide 4 Try.prog 99 #[.pointer (some ⟨Bp, 0, none⟩)] FE.enc (Kpt wS.heap.size Bp) (FE.R w0.heap.size) (fun xs => keys xs = fr t (t.length + 1) 0) (fun pre => keys pre <+: fr t (t.length + 1) 0) w0 := fun l J Jx W hW hJ _ hY h0 =>
  callsIn_wide.2 (frames1_any l Bp X c t ho hc hm hl wS w0 hS hBp hbx hX J Jx W hW hJ hY h0)
/-- Where the last of the frames ends. -/
def endOf (l : List FE) : Int := (l.getLast?.map FE.e).getD 0
theorem endOf_snoc (l : List FE) (x : FE) : endOf (l ++ [x]) = x.e := by simp [endOf]
/-- Where All stands behind some frames. -/
structure AllIn (n0 B : Nat) (w0 : World) (pre : List FE) (W : World) : Prop where
  row : ∃ V c, Blk W B LT #[.slice V pre.length c] ∧ recsR.At W w0.heap.size (pre.map FE.r) [.slice V pre.length c]
  c1 : Blk W (B + 1) INT #[.int .i64 (endOf pre)]
  c2 : Blk W (B + 2) ET #[.int .i64 0]
  ng : ∀ x ∈ pre, ¬ x.e < 0
  kp : Kpt n0 (B + 3) w0 W
structure AllX (n0 B : Nat) (w0 : World) (pre : List FE) (W : World) : Prop where
  c0 : Blk W B LT #[.slice none 0 0]
  c1 : Blk W (B + 1) INT #[.int .i64 0]
  c2 : Blk W (B + 2) ET #[.int .i64 290]
  ng : ∃ x ∈ pre, x.e < 0
  kp : Kpt n0 (B + 3) w0 W
theorem Kpt.grown {n0 Bp F : Nat} {w0 W W' : World} {row : Option Nat} (h : Kpt n0 Bp w0 W) (hF : F = w0.heap.size) (hg : W.grownBy W' row) (hr : ∀ r, row = some r → F ≤ r) : Kpt n0 Bp w0 W' := by
  subst hF
  have ha : ∀ k, k < w0.heap.size → W'.heap[k]? = W.heap[k]? := fun k hk => hg.block k (Nat.lt_of_lt_of_le hk h.b.size) fun e => by have := hr k e.symm; omega
  exact h.trans ⟨⟨hg.os, hg.tape, hg.output, hg.size, fun k hk => ha k (Nat.lt_of_lt_of_le hk h.lo)⟩, ha Bp h.hb, Nat.le_trans h.lo h.b.size, Nat.lt_of_lt_of_le h.hb h.b.size⟩
theorem own_blk {F g : Nat} {t : TypeId} {cs : Array Value} {W W' : World} {row : Option Nat} (h : Blk W g t cs) (hg : W.grownBy W' row) (hr : ∀ r, row = some r → F ≤ r ∧ ∃ o : Obj, W.heap[r]? = some o ∧ o.isCells = false) : Blk W' g t cs := h.grown hg fun e => by
  obtain ⟨_, o, ho, hc⟩ := hr g e.symm
  rw [show W.heap[g]? = _ from h] at ho
  cases ho
  cases hc
theorem own_in (n0 B : Nat) (w0 : World) : OwnFrom w0.heap.size (AllIn n0 B w0) := fun pre W W' row hs hg hr => by
  obtain ⟨⟨V, c, h0, h1⟩, h2, h3, h4, h5⟩ := hs
  exact ⟨⟨V, c, own_blk h0 hg hr, at_grown keeps_none h1 hg (fun r e => (hr r e).2)⟩, own_blk h2 hg hr, own_blk h3 hg hr, h4, Kpt.grown h5 rfl hg (fun r e => (hr r e).1)⟩
theorem own_x (n0 B : Nat) (w0 : World) (c : Code) : OwnFrom w0.heap.size (fun pre W => c = .ret ∧ AllX n0 B w0 pre W) := fun pre W W' row hs hg hr => by
  obtain ⟨hc, h0, h1, h2, h3, h4⟩ := hs
  exact ⟨hc, own_blk h0 hg hr, own_blk h1 hg hr, own_blk h2 hg hr, h3, Kpt.grown h4 rfl hg (fun r e => (hr r e).1)⟩
theorem own_r (w0 : World) : OwnFrom w0.heap.size (FE.R w0.heap.size) := fun x W W' row hs hg hr => at_grown keep_none hs hg (fun r e => (hr r e).2)
theorem loadVar_slice {P : Program} {w : World} {ty e : TypeId} {a : Addr} {v : Value} (hu : P.underlying ty = some (.slice e)) (hc : w.cell? a = some v) : (loadVar ty a).run P w = .ok v w := by
  simp [loadVar, isAgg, run_underlying hu, go_sem, hc]
theorem results_three {P : Program} {fn : Func} {p q s : Tmp} {ty ty2 ty3 e : TypeId} {k k3 : IntKind} (h : fn.results = #[.cell p ty, .cell q ty2, .cell s ty3]) (tmps : Array Value) (w : World) (g g2 g3 : Nat) (v0 v v3 : Value)
    (hp : tmps.getD p undef = .pointer (some ⟨g, 0, none⟩)) (hq : tmps.getD q undef = .pointer (some ⟨g2, 0, none⟩)) (hs : tmps.getD s undef = .pointer (some ⟨g3, 0, none⟩)) (h0 : w.cell? ⟨g, 0, none⟩ = some v0) (hc : w.cell? ⟨g2, 0, none⟩ = some v) (h3 : w.cell? ⟨g3, 0, none⟩ = some v3)
    (hu : P.underlying ty = some (.slice e)) (hu2 : P.underlying ty2 = some (.int k)) (hu3 : P.underlying ty3 = some (.int k3)) :
    (results fn tmps).run P w = .ok (.tuple #[v0, v, v3]) w := by
  have hp' : tmps[p]?.getD undef = .pointer (some ⟨g, 0, none⟩) := by simpa using hp
  have hq' : tmps[q]?.getD undef = .pointer (some ⟨g2, 0, none⟩) := by simpa using hq
  have hs' : tmps[s]?.getD undef = .pointer (some ⟨g3, 0, none⟩) := by simpa using hs
  simp [results, h, hp', hq', hs', asAddr, loadVar_slice hu h0, loadVar_int hu2 hc, loadVar_int hu3 h3]
/-- How All ends. -/
def AllPost (t : Bs) (w : World) (e : Ending) (w' : World) : Prop :=
  (((∀ p ∈ fr t (t.length + 1) 0, ¬ p.1 < 0) ∧ ∃ V c, e = .returned (.tuple #[.slice V (fr t (t.length + 1) 0).length c, .int .i64 (((fr t (t.length + 1) 0).getLast?.map (·.1)).getD 0), .int .i64 0]) ∧ recsR.At w' w.heap.size ((fr t (t.length + 1) 0).map (·.2)) [.slice V (fr t (t.length + 1) 0).length c]) ∨
    ((∃ p ∈ fr t (t.length + 1) 0, p.1 < 0) ∧ e = .returned (.tuple #[.slice none 0 0, .int .i64 0, .int .i64 290]))) ∧ Below w.heap.size w w'
theorem AllIn.up {n0 B : Nat} {w0 : World} {pre : List FE} {W W' : World} (h : AllIn n0 B w0 pre W) (hB : Below W.heap.size W W') : AllIn n0 B w0 pre W' := own_in n0 B w0 pre W W' none h (grown_of_below hB) (fun r e => by cases e)
theorem keeps_below {F : Nat} {W W' : World} (hB : Below W.heap.size W W') : KeepsFrom F W W' := ⟨hB.size, fun k o _ hk _ => (hB.block k (Array.getElem?_eq_some_iff.1 hk).1).trans hk⟩
theorem push {n0 B : Nat} {w0 W w3 : World} {pre : List FE} {x : FE} {V V2 : Option Addr} {c c2 : Nat} {xs : List Value} {ob : Obj} (hn : n0 ≤ B) (hF : w0.heap.size = B + 4) (hI : AllIn n0 B w0 pre W) (hb : Blk W B LT #[.slice V pre.length c])
    (ho : W.ownsRow w0.heap.size RECT 45 (.slice V pre.length c) pre.length xs) (he : ∀ i y, (pre.map FE.r)[i]? = some y → recR.At W w0.heap.size y ((xs.drop (i * recR.n)).take recR.n)) (hx : x.R w0.heap.size W) (hng : ¬ x.e < 0)
    (ho3 : w3.ownsRow w0.heap.size RECT 45 (.slice V2 (pre.length + 1) c2) (pre.length + 1) (xs ++ rL x.r x.x x.Y x.cy)) (hg : (W.alloc ob).grownBy w3 (Value.slice V pre.length c).ownBlock) :
    Blk w3 B LT #[.slice V pre.length c] ∧ Blk w3 (B + 1) INT #[.int .i64 (endOf pre)] ∧ KeepsFrom w0.heap.size W ((w3.setCell ⟨B, 0, none⟩ (.slice V2 (pre.length + 1) c2)).setCell ⟨B + 1, 0, none⟩ (.int .i64 x.e)) ∧ Kpt n0 (B + 3) W ((w3.setCell ⟨B, 0, none⟩ (.slice V2 (pre.length + 1) c2)).setCell ⟨B + 1, 0, none⟩ (.int .i64 x.e)) ∧
    AllIn n0 B w0 (pre ++ [x]) ((w3.setCell ⟨B, 0, none⟩ (.slice V2 (pre.length + 1) c2)).setCell ⟨B + 1, 0, none⟩ (.int .i64 x.e)) := by
  have hsW := hI.kp.b.size
  have hown : ∀ g, (Value.slice V pre.length c).ownBlock = some g → w0.heap.size ≤ g ∧ ∃ cur, W.heap[g]? = some (.cells cur RECT (0, 0)) := fun g hgo => by
    obtain ⟨a, _, q⟩ := own_ge ho hgo
    exact ⟨a, q⟩
  have hlow : ∀ k, k < w0.heap.size → w3.heap[k]? = W.heap[k]? := fun k hk => by
    rw [hg.block k (by simp; omega) (fun e => by have := (hown k e.symm).1; omega), Below.heap_alloc W ob k (by omega)]
  have b0 : Blk w3 B LT #[.slice V pre.length c] := (hlow B (by omega)).trans hb
  have b1 : Blk w3 (B + 1) INT #[.int .i64 (endOf pre)] := (hlow _ (by omega)).trans hI.c1
  have b2 : Blk w3 (B + 2) ET #[.int .i64 0] := (hlow _ (by omega)).trans hI.c2
  obtain ⟨W', hW'⟩ : ∃ W', W' = (w3.setCell ⟨B, 0, none⟩ (.slice V2 (pre.length + 1) c2)).setCell ⟨B + 1, 0, none⟩ (.int .i64 x.e) := ⟨_, rfl⟩
  rw [← hW']
  have hsame : ∀ k, k ≠ B → k ≠ B + 1 → W'.heap[k]? = w3.heap[k]? := fun k h1 h2 => by
    rw [hW', Below.heap_setCell _ _ _ k (by simpa using h2), Below.heap_setCell _ _ _ k (by simpa using h1)]
  have hsz : W.heap.size ≤ W'.heap.size := by
    rw [hW']; have := hg.size; simp at this ⊢; omega
  have hag : ∀ k o, w0.heap.size ≤ k → W.heap[k]? = some o → (∀ cs, o ≠ .cells cs RECT (0, 0)) → W'.heap[k]? = W.heap[k]? := fun k o hk hh hne => by
    have hl := (Array.getElem?_eq_some_iff.1 hh).1
    rw [hsame k (by omega) (by omega), hg.block k (by simp; omega) (fun e => by
      obtain ⟨_, cur, hc⟩ := hown k e.symm
      rw [hc] at hh
      injection hh with hh
      exact hne cur hh.symm), Below.heap_alloc W ob k hl]
  have hkr : ∀ (y : RV) (vs : List Value), recR.At W w0.heap.size y vs → recR.At W' w0.heap.size y vs := fun y vs hy => keep_row _ _ _ _ _ hy fun k cs e' he' hk hh => hag k _ hk hh (fun cs' e => by injection e with _ e; exact he' e)
  have hKpt : Kpt n0 (B + 3) W W' := by
    refine ⟨?_, ?_, by omega, by omega⟩
    · rw [hW']
      have h3 : Below n0 W w3 := ⟨hg.os, hg.tape, hg.output, by have := hg.size; simp at this; omega, fun k hk => hlow k (by omega)⟩
      exact (h3.setCell (p := ⟨B, 0, none⟩) hn _).setCell (p := ⟨B + 1, 0, none⟩) (by show n0 ≤ B + 1; omega) _
    · rw [hsame _ (by omega) (by omega)]; exact hlow _ (by omega)
  have hlen : xs.length = pre.length * 45 := ho.1
  refine ⟨b0, b1, ⟨hsz, fun k o hk hh hc => (hag k o hk hh (fun cs e => by subst e; cases hc)).trans hh⟩, hKpt, ⟨V2, c2, ?_, V2, c2, xs ++ rL x.r x.x x.Y x.cy, ?_, ?_, ?_⟩, ?_, ?_, ?_, hI.kp.trans hKpt⟩
  · rw [hW', List.length_append]
    exact (b0.set_ 0 (.slice V2 (pre.length + 1) c2)).far (p := ⟨B + 1, 0, none⟩) (by show B ≠ B + 1; omega) _
  · simp
  · rw [hW']
    have e : (List.map FE.r (pre ++ [x])).length = pre.length + 1 := by simp
    rw [e]
    exact Go.ownsRow_setCell_other (Go.ownsRow_setCell_other ho3 (a := ⟨B, 0, none⟩) (fun e1 => by have := (own_ge ho3 e1).1; simp at this; omega) _) (a := ⟨B + 1, 0, none⟩) (fun e1 => by have := (own_ge ho3 e1).1; simp at this; omega) _
  · intro i y hi
    rw [List.map_append] at hi
    rcases Nat.lt_or_ge i pre.length with hlt | hge
    · rw [List.getElem?_append_left (by simpa using hlt)] at hi
      have hik : (i + 1) * 45 ≤ pre.length * 45 := Nat.mul_le_mul_right _ hlt
      rw [show recR.n = 45 from rfl, List.drop_append_of_le_length (by omega), List.take_append_of_le_length (by rw [List.length_drop]; omega)]
      exact hkr _ _ (he i y hi)
    · rw [List.getElem?_append_right (by simpa using hge)] at hi
      have hi0 : i = pre.length := by
        have := (List.getElem?_eq_some_iff.1 hi).1
        simp at this; omega
      subst hi0
      simp at hi
      subst hi
      rw [show recR.n = 45 from rfl, ← hlen, List.drop_left, List.take_of_length_le (Nat.le_refl 45)]
      exact hkr _ _ hx
  · rw [hW', endOf_snoc]
    exact (b1.far (p := ⟨B, 0, none⟩) (by show B + 1 ≠ B; omega) _).set_ 0 (.int .i64 x.e)
  · rw [hW']
    exact (b2.far (p := ⟨B, 0, none⟩) (by show B + 2 ≠ B; omega) _).far (p := ⟨B + 1, 0, none⟩) (by show B + 2 ≠ B + 1; omega) _
  · intro y hy
    rcases List.mem_append.1 hy with h | h
    · exact hI.ng y h
    · simp at h; subst h; exact hng
theorem keys_len (l : List FE) : (keys l).length = l.length := by simp [keys]
theorem keys_r (l : List FE) : (keys l).map (·.2) = l.map FE.r := by simp [keys, FE.key]
theorem keys_end (l : List FE) : ((keys l).getLast?.map (·.1)).getD 0 = endOf l := by
  unfold keys endOf
  rw [List.getLast?_map]
  cases l.getLast? <;> rfl
theorem post_ok {t : Bs} {w W0 W : World} {xs : List FE} {V : Option Addr} {c : Nat} (hS : keys xs = fr t (t.length + 1) 0) (hI : AllIn w.heap.size w.heap.size W0 xs W) (hA : recsR.At W W0.heap.size (xs.map FE.r) [.slice V xs.length c]) (hB : Below w.heap.size w W) :
    AllPost t w (.returned (.tuple #[.slice V xs.length c, .int .i64 (endOf xs), .int .i64 0])) W := by
  unfold AllPost
  rw [← hS, keys_len, keys_r, keys_end]
  refine ⟨.inl ⟨fun p hp => ?_, V, c, rfl, recsR.mono hA hI.kp.lo⟩, hB⟩
  obtain ⟨x, hx, rfl⟩ := List.mem_map.1 hp
  exact hI.ng x hx
theorem post_bad {t : Bs} {w W : World} {pre : List FE} (hS : keys pre <+: fr t (t.length + 1) 0) (hn : ∃ x ∈ pre, x.e < 0) (hB : Below w.heap.size w W) : AllPost t w (.returned (.tuple #[.slice none 0 0, .int .i64 0, .int .i64 290])) W := by
  obtain ⟨x, hx, h⟩ := hn
  exact ⟨.inr ⟨⟨x.key, hS.subset (List.mem_map.2 ⟨x, hx, rfl⟩), h⟩, rfl⟩, hB⟩
theorem fr_len (t : Bs) : ∀ f k, (fr t f k).length ≤ f
  | 0, k => by simp [fr]
  | f + 1, k => by
    unfold fr
    have := fr_len t f (k + 8 + (num4 (t.drop k)).toNat)
    split
    · simp
    split
    · simp
    split
    · simp
    split
    · simp; omega
    · simp
theorem r_info : (Try.prog.info? RECT).map (fun i => (i.zero, i.size, i.bytes)) = some (some (.agg zA), 45, 464) := by kernel_rfl
set_option maxRecDepth 100000 in
set_option maxHeartbeats 6000000 in
theorem all_any (X : Option Addr) (c : Nat) (t : Bs) (ho : Oct t) (hc : t.length ≤ c) (hm : c ≤ maxLen) (hl : t.length ≤ 1000000000) (w : World) (hX : TxtAt w X t) :
    Calls Try.prog 39 #[.slice X t.length c] w fun e w' => AllPost t w e w' := by
  refine (callsIn_wide (n := 5)).1 ?_
  refine callsIn_of_wp_marks Try.func39 rfl trivial ?_ rfl
  simp only [Try.ntmps39, List.size_toArray, List.length_cons, List.length_nil, Nat.reduceAdd, Nat.reduceSub, Array.replicate_succ, Array.replicate_zero, List.push_toArray, List.append_toArray, List.nil_append, List.cons_append]
  obtain ⟨i0, hi0, hz0, hz1, hz2⟩ := info_parts r_info
  have HI := Lib.hid (And.intro hi0 (And.intro hz0 (And.intro hz1 hz2)))
  clear hi0 hz0 hz1 hz2
  have HX := Lib.hid hX
  have HC := Lib.hid (And.intro hc (And.intro hm hl))
  clear hX hc hm hl
  gi_wp2_with (refine ⟨trivial, ?_⟩; gi_at_call 70; refine (frames_in Fence.wide 4 trivial rfl _ _ rfl).mono ?_; rintro e w' ⟨rfl, rfl⟩)
  have k0 : Blk ((((w.alloc (.cells #[.slice none 0 0] LT)).alloc (.cells #[.int .i64 0] INT)).alloc (.cells #[.int .i64 0] ET)).alloc (.cells #[.slice X t.length c] 37)) w.heap.size LT #[.slice none 0 0] := (((Blk.new w LT _).alloc _).alloc _).alloc _
  have k1 : Blk ((((w.alloc (.cells #[.slice none 0 0] LT)).alloc (.cells #[.int .i64 0] INT)).alloc (.cells #[.int .i64 0] ET)).alloc (.cells #[.slice X t.length c] 37)) (w.heap.size + 1) INT #[.int .i64 0] := by
    have h := ((Blk.new (w.alloc (.cells #[.slice none 0 0] LT)) INT #[.int .i64 0]).alloc (.cells #[.int .i64 0] ET)).alloc (.cells #[.slice X t.length c] 37)
    rwa [World.size_alloc] at h
  have k2 : Blk ((((w.alloc (.cells #[.slice none 0 0] LT)).alloc (.cells #[.int .i64 0] INT)).alloc (.cells #[.int .i64 0] ET)).alloc (.cells #[.slice X t.length c] 37)) (w.heap.size + 2) ET #[.int .i64 0] := by
    have h := (Blk.new ((w.alloc (.cells #[.slice none 0 0] LT)).alloc (.cells #[.int .i64 0] INT)) ET #[.int .i64 0]).alloc (.cells #[.slice X t.length c] 37)
    rwa [World.size_alloc, World.size_alloc] at h
  have k3 : Blk ((((w.alloc (.cells #[.slice none 0 0] LT)).alloc (.cells #[.int .i64 0] INT)).alloc (.cells #[.int .i64 0] ET)).alloc (.cells #[.slice X t.length c] 37)) (w.heap.size + 3) 37 #[.slice X t.length c] := by
    have h := Blk.new (((w.alloc (.cells #[.slice none 0 0] LT)).alloc (.cells #[.int .i64 0] INT)).alloc (.cells #[.int .i64 0] ET)) 37 #[.slice X t.length c]
    rwa [World.size_alloc, World.size_alloc, World.size_alloc] at h
  have hB0 : Below w.heap.size w ((((w.alloc (.cells #[.slice none 0 0] LT)).alloc (.cells #[.int .i64 0] INT)).alloc (.cells #[.int .i64 0] ET)).alloc (.cells #[.slice X t.length c] 37)) := below_alloc (below_alloc (below_alloc (below_alloc (Below.refl _ w))))
  have hs0 : ((((w.alloc (.cells #[.slice none 0 0] LT)).alloc (.cells #[.int .i64 0] INT)).alloc (.cells #[.int .i64 0] ET)).alloc (.cells #[.slice X t.length c] 37)).heap.size = w.heap.size + 4 := by simp only [World.size_alloc]
  generalize (((w.alloc (.cells #[.slice none 0 0] LT)).alloc (.cells #[.int .i64 0] INT)).alloc (.cells #[.int .i64 0] ET)).alloc (.cells #[.slice X t.length c] 37) = w0 at *
  have kp0 : Kpt w.heap.size (w.heap.size + 3) w0 w0 := ⟨Below.refl _ _, rfl, by omega, by omega⟩
  refine range_given rfl (by omega) (gf := 99) (lb := #[.pointer (some ⟨w.heap.size + 3, 0, none⟩)]) rfl trivial (enters_of Try.func99 (by kernel_rfl) rfl)
    (frames_seq (w.heap.size + 3) X c t ho HC.out.1 HC.out.2.1 (by have := HC.out.2.2; omega) w w0 hB0 (by omega) (k3.cell 0) HX.out) Kpt.trans
    (fun W l o o' hl ho1 ho2 ho3 => ⟨belowK_b (w := w0) hB0.size W l o o' hl ho1 ho2 ho3, World.putObj_heap_other (by omega), by have := (Array.getElem?_eq_some_iff.1 ho1).1; omega, by have := (Array.getElem?_eq_some_iff.1 ho1).1; omega⟩)
    (Below.refl _ _) (fun _ => rfl)
    (AllIn w.heap.size w.heap.size w0) (fun c pre W => c = .ret ∧ AllX w.heap.size w.heap.size w0 pre W)
    (own_in _ _ _) (fun c => own_x _ _ _ c) (own_r w0)
    ⟨⟨none, 0, k0, list_nil⟩, k1, k2, fun x hx => by simp at hx, kp0⟩
    (fun x a' W => ∃ eb, w0.heap.size ≤ eb ∧ Blk W eb RECT (rL x.r x.x x.Y x.cy).toArray ∧ a' = { tmps := #[.slice X t.length c, undef, .pointer (some ⟨w.heap.size, 0, none⟩), .pointer (some ⟨w.heap.size + 1, 0, none⟩), .pointer (some ⟨w.heap.size + 2, 0, none⟩), .int .i64 x.e, .pointer (some ⟨eb, 0, none⟩), .slice X t.length c, .func (.func 99) #[] #[.pointer (some ⟨w.heap.size + 3, 0, none⟩)], .int .i64 x.e, .agg (rL x.r x.x x.Y x.cy).toArray, undef, undef, undef, undef, undef, undef, undef], defers := [] })
    (fun x a' _ Y Z row hs hg hr => by
      obtain ⟨eb, h1, h2, h3⟩ := hs
      exact ⟨eb, h1, own_blk h2 hg hr, h3⟩)
    ?assign ?body ?done ?stop
  case assign =>
    rintro l pre x W K hI hR hK
    have HK := Lib.hid hK
    have H1 := Lib.hid (And.intro hI hR)
    have hsz : w0.heap.size ≤ W.heap.size := hI.kp.b.size
    have x5 := box_full (W := W) RECT #[.int .i64 0, .int .i64 0, .int .i64 0, .int .i64 0, .int .i64 0, .int .i64 0, .int .i64 0, .int .i64 0, .slice none 0 0, .int .i64 0, .int .i64 0, .slice none 0 0, .slice none 0 0, .slice none 0 0, .slice none 0 0, .slice none 0 0, .slice none 0 0, .int .u8 0, .int .i64 0, .int .i64 0, .int .i64 0, .int .i64 0, .int .i64 0, .int .i64 0, .bool false, .bool false, .bool false, .bool false, .int .i64 0, .int .i64 0, .bool false, .slice none 0 0, .int .u8 0, .int .i64 0, .int .i64 0, .int .i64 0, .int .i64 0, .int .i64 0, .int .i64 0, .int .i64 0, .int .i64 0, .int .i64 0, .int .i64 0, .int .i64 0, .bool false] (vs := rL x.r x.x x.Y x.cy) rfl
    clear hK hI hR k0 k1 k2 k3
    unfold FE.enc
    gi_wp2_with (first | (refine wpListIn_store_mid rfl RECT _ _ rfl W.heap.size 0 (rL x.r x.x x.Y x.cy).toArray rfl rfl (there_of (Blk.new W RECT #[.int .i64 0, .int .i64 0, .int .i64 0, .int .i64 0, .int .i64 0, .int .i64 0, .int .i64 0, .int .i64 0, .slice none 0 0, .int .i64 0, .int .i64 0, .slice none 0 0, .slice none 0 0, .slice none 0 0, .slice none 0 0, .slice none 0 0, .slice none 0 0, .int .u8 0, .int .i64 0, .int .i64 0, .int .i64 0, .int .i64 0, .int .i64 0, .int .i64 0, .bool false, .bool false, .bool false, .bool false, .int .i64 0, .int .i64 0, .bool false, .slice none 0 0, .int .u8 0, .int .i64 0, .int .i64 0, .int .i64 0, .int .i64 0, .int .i64 0, .int .i64 0, .int .i64 0, .int .i64 0, .int .i64 0, .int .i64 0, .int .i64 0, .bool false]) (Nat.le_of_ble_eq_true rfl)) (by kernel_rfl) (by kernel_rfl) ?_; simp only [List.toList_toArray]; generalize World.setCells _ _ _ _ = W5 at *; (try simp only [Act.put])) | gi_in)
    exact HK.out _ W5 (keeps_below x5.2) (Kpt.of (by omega) (by omega) x5.2) (H1.out.1.up x5.2) (at_below H1.out.2 x5.2) ⟨W.heap.size, hsz, x5.1, rfl⟩
  case body =>
    rintro l pre x a' W hl ⟨r, hr⟩ hI hR ⟨eb, heb, bX, rfl⟩ hsp
    obtain ⟨V, cv, hb0, V', cv', xs, heq, hown, hels⟩ := hI.row
    rw [List.length_map] at hown heq
    injection heq with heq _
    injection heq with e1 _ e3
    subst e1 e3
    have c0 : W.cell? ⟨w.heap.size, 0, none⟩ = some (.slice V pre.length cv) := hb0.cell 0
    have f0 := hb0.frozen 0
    have c1 : W.cell? ⟨w.heap.size + 1, 0, none⟩ = some (.int .i64 (endOf pre)) := hI.c1.cell 0
    have f1 := hI.c1.frozen 0
    have c2 : W.cell? ⟨w.heap.size + 2, 0, none⟩ = some (.int .i64 0) := hI.c2.cell 0
    have f2 := hI.c2.frozen 0
    have hpn : pre.length ≤ 1000000000 := by
      have h1 := hsp.length_le
      have h2 := fr_len t (t.length + 1) 0
      have h3 := HC.out.2.2
      simp [keys] at h1
      omega
    clear hsp
    have hsW : w0.heap.size ≤ W.heap.size := hI.kp.b.size
    have H1 := Lib.hid (And.intro hI (And.intro hR (And.intro hb0 (And.intro hown hels))))
    have HX1 := Lib.hid bX
    clear hI hR hb0 hown hels bX hr k0 k1 k2 k3
    obtain ⟨xe, hxe⟩ : ∃ n, n = x.e := ⟨_, rfl⟩
    rw [← hxe]
    have HXE := Lib.hid hxe
    clear hxe
    by_cases hneg : xe < 0
    · have hn1 : decide (xe < 0) = true := decide_eq_true hneg
      have HN := Lib.hid hneg
      clear hneg
      gi_wp2
      refine ⟨?_, rfl, ?_⟩
      · exact (((KeepsOthers.setCell _ _ _).trans (KeepsOthers.setCell _ _ _)).trans (KeepsOthers.setCell _ _ _)).from _
      · refine ⟨?_, ?_, ?_, ⟨x, by simp, by rw [← HXE.out]; exact HN.out⟩, ?_⟩
        · exact ((H1.out.2.2.1.set_ 0 (.slice none 0 0)).far (p := ⟨w.heap.size + 1, 0, none⟩) (by show w.heap.size ≠ w.heap.size + 1; omega) _).far (p := ⟨w.heap.size + 2, 0, none⟩) (by show w.heap.size ≠ w.heap.size + 2; omega) _
        · exact ((H1.out.1.c1.far (p := ⟨w.heap.size, 0, none⟩) (by show w.heap.size + 1 ≠ w.heap.size; omega) _).set_ 0 (.int .i64 0)).far (p := ⟨w.heap.size + 2, 0, none⟩) (by show w.heap.size + 1 ≠ w.heap.size + 2; omega) _
        · exact ((H1.out.1.c2.far (p := ⟨w.heap.size, 0, none⟩) (by show w.heap.size + 2 ≠ w.heap.size; omega) _).far (p := ⟨w.heap.size + 1, 0, none⟩) (by show w.heap.size + 2 ≠ w.heap.size + 1; omega) _).set_ 0 (.int .i64 290)
        · refine H1.out.1.kp.trans ⟨?_, ?_, by omega, by omega⟩
          · exact (((Below.refl _ _).setCell (p := ⟨w.heap.size, 0, none⟩) (Nat.le_refl _) _).setCell (p := ⟨w.heap.size + 1, 0, none⟩) (Nat.le_add_right _ _) _).setCell (p := ⟨w.heap.size + 2, 0, none⟩) (Nat.le_add_right _ _) _
          · rw [Below.heap_setCell _ _ _ _ (by simp), Below.heap_setCell _ _ _ _ (by simp), Below.heap_setCell _ _ _ _ (by simp)]
    · have hn1 : decide (xe < 0) = false := decide_eq_false hneg
      have HN := Lib.hid hneg
      clear hneg
      have R6 := Lib.hid (show W.rangeAt eb 0 (rL x.r x.x x.Y x.cy) from range_part (n := 45) HX1.out rfl)
      gi_wp2_with (first
        | (refine wpListIn_load_mid rfl RECT _ rfl eb 0 rfl (rL x.r x.x x.Y x.cy) _ R6.out Try.underlying51 rfl (by kernel_rfl) ?_)
        | (gi_at_builtin
           refine wpListIn_append_own _ rfl _ _ LT rfl w0.heap.size RECT i0 (.agg zA) 45 464 Try.underlying86 HI.out.1 HI.out.2.1 HI.out.2.2.1 HI.out.2.2.2 rfl (by decide) _ _ _ rfl (H1.out.2.2.2.1.alloc _) ⟨W.heap.size, 0, none⟩ 1 1 (rL x.r x.x x.Y x.cy) rfl rfl (fun j u hu => by rw [add_flat, Nat.zero_add, (Blk.new W RECT (rL x.r x.x x.Y x.cy).toArray).cell j]; simpa using hu) (one_rec _ _ _ _ H1.out.2.1) (by unfold maxLen; omega) (by omega) (by simp; omega) ?_
           intro v' w3 hown' hg3 _
           obtain ⟨V2, cc2, rfl⟩ := own_form2 hown'
           have HP := Lib.hid (push (n0 := w.heap.size) (Nat.le_refl _) hs0 H1.out.1 H1.out.2.2.1 H1.out.2.2.2.1 H1.out.2.2.2.2 H1.out.2.1 (by rw [← HXE.out]; exact HN.out) hown' hg3)
           have ca := HP.out.1.cell 0
           have fa := HP.out.1.frozen 0
           have cb := HP.out.2.1.cell 0
           have fb := HP.out.2.1.frozen 0
           clear hown' hg3
           simp only [Act.put, List.setIfInBounds_toArray, List.set_cons_succ, List.set_cons_zero])
        | gi_in)
      rw [HXE.out]
      refine ⟨?_, HP.out.2.2.2.1, HP.out.2.2.2.2⟩
      have hk := HP.out.2.2.1
      rw [hs0] at hk
      exact hk
  case done =>
    rintro D xs W hD hS hI hK
    have hI2 := (own_in w.heap.size w.heap.size w0).putObj (o' := .deferred none) hI hD hK rfl
    have hBD : Below w.heap.size w (W.putObj D (.deferred none)) := hB0.trans hI2.kp.b
    have H2 := Lib.hid (And.intro hI2 (And.intro hBD hS))
    clear hI hI2 hBD hS k0 k1 k2 k3
    gi_wp2
    refine ⟨by simp, .inl ⟨_, _, rfl, run_takeDeferred hK, ?_⟩⟩
    obtain ⟨V, cv, h0, hA⟩ := H2.out.1.row
    exact ⟨_, results_three rfl _ _ w.heap.size (w.heap.size + 1) (w.heap.size + 2) (.slice V xs.length cv) (.int .i64 (endOf xs)) (.int .i64 0) rfl rfl rfl (h0.cell 0) (H2.out.1.c1.cell 0) (H2.out.1.c2.cell 0) Try.underlying86 Try.underlying3 Try.underlying38, post_ok H2.out.2.2 H2.out.1 hA H2.out.2.1⟩
  case stop =>
    rintro D c pre W hD hSp ⟨rfl, hX⟩ hK
    have hI2 := (own_x w.heap.size w.heap.size w0 .ret).putObj (o' := .deferred none) (⟨rfl, hX⟩ : (Code.ret = .ret ∧ AllX w.heap.size w.heap.size w0 pre W)) hD hK rfl
    have hBD : Below w.heap.size w (W.putObj D (.deferred none)) := hB0.trans hI2.2.kp.b
    have H2 := Lib.hid (And.intro hI2.2 (And.intro hBD hSp))
    clear hX hI2 hBD hSp k0 k1 k2 k3
    gi_wp2
    refine ⟨by simp, .inl ⟨_, _, rfl, run_takeDeferred hK, ?_⟩⟩
    exact ⟨_, results_three rfl _ _ w.heap.size (w.heap.size + 1) (w.heap.size + 2) (.slice none 0 0) (.int .i64 0) (.int .i64 290) rfl rfl rfl (H2.out.1.c0.cell 0) (H2.out.1.c1.cell 0) (H2.out.1.c2.cell 0) Try.underlying86 Try.underlying3 Try.underlying38, post_bad H2.out.2.2 H2.out.1.ng H2.out.2.1⟩
end Go.Proofs.Ytfdldbfjeamlcaa.LogAllV
/-! Frames of records, in plain Lean. No conditions but those named. -/
namespace Go.Proofs.Ytfdldbfjeamlcaa.LogPlain
open Go Go.RowKit MarkMath Mem RecMem RecByte RecNum RecMath RecCod RecVal RecSame RecWr0 RecRecC RecRead RecAll LogFour LogJoin LogWrap LogFrm
set_option linter.unusedVariables false
set_option linter.unusedSimpArgs false

theorem num4_four {n : Int} (h0 : 0 ≤ n) (h1 : n < 4294967296) (u : Bs) : num4 (fourB n ++ u) = n := numb_four h0 h1
theorem fourB_len (n : Int) : (fourB n).length = 4 := rfl
theorem drop_at (P Q : Bs) (k : Nat) : (P ++ Q).drop (P.length + k) = Q.drop k := by
  rw [List.drop_append]
  simp
/-- A whole frame. -/
theorem fr_wrap (P Q : Bs) {r : RV} (h : okR r) (hl : (recB r).length ≤ 65536) (f : Nat) :
    fr (P ++ (wrapB r ++ Q)) (f + 1) P.length = (((P.length + (wrapB r).length : Nat) : Int), r) :: fr (P ++ (wrapB r ++ Q)) f (P.length + (wrapB r).length) := by
  have hm := mk_in (t := recB r)
  have e0 : (P ++ (wrapB r ++ Q)).drop P.length = wrapB r ++ Q := List.drop_left
  have hw : wrapB r ++ Q = fourB ((recB r).length : Int) ++ (fourB (mk 0 (recB r)) ++ (recB r ++ Q)) := by unfold wrapB; simp
  have n0 : num4 ((P ++ (wrapB r ++ Q)).drop P.length) = ((recB r).length : Int) := by rw [e0, hw]; exact num4_four (by omega) (by omega) _
  have n4 : num4 ((P ++ (wrapB r ++ Q)).drop (P.length + 4)) = mk 0 (recB r) := by
    rw [drop_at, hw, show 4 = (fourB ((recB r).length : Int)).length from rfl, List.drop_left]
    exact num4_four hm.1 (by omega) _
  have n8 : frT (P ++ (wrapB r ++ Q)) P.length = recB r := by
    unfold frT
    rw [n0, drop_at, hw, ← List.append_assoc, show 8 = (fourB ((recB r).length : Int) ++ fourB (mk 0 (recB r))).length from rfl, List.drop_left, Int.toNat_natCast, List.take_left]
  have hlen : (P ++ (wrapB r ++ Q)).length = P.length + ((recB r).length + 8) + Q.length := by rw [List.length_append, List.length_append, wrapB_len]; omega
  have hok : frOk (P ++ (wrapB r ++ Q)) P.length := by
    unfold frOk
    rw [n8, n4, readV_back h hl]
    exact ⟨rfl, rfl⟩
  rw [fr_ok (by omega) (by rw [n0]; omega) (by rw [n0]; omega) hok, n0, n8, readV_back h hl, wrapB_len, Int.toNat_natCast]
  congr 2
  · push_cast; omega
  · omega
/-- The beginning of one. -/
theorem fr_part (P : Bs) {r : RV} (hl : (recB r).length ≤ 65536) {m : Nat} (hm : m < (wrapB r).length) (f : Nat) : fr (P ++ (wrapB r).take m) (f + 1) P.length = [] := by
  have hlen : (P ++ (wrapB r).take m).length = P.length + m := by rw [List.length_append, List.length_take]; omega
  rw [wrapB_len] at hm
  by_cases h8 : m < 8
  · exact fr_end (by omega)
  have n0 : num4 ((P ++ (wrapB r).take m).drop P.length) = ((recB r).length : Int) := by
    rw [List.drop_left]
    have hw : wrapB r = fourB ((recB r).length : Int) ++ (fourB (mk 0 (recB r)) ++ recB r) := by unfold wrapB; simp
    rw [hw, List.take_append, List.take_of_length_le (show (fourB ((recB r).length : Int)).length ≤ m by rw [fourB_len]; omega)]
    exact num4_four (by omega) (by omega) _
  exact fr_cut (by omega) (by rw [n0]; omega) (by rw [n0]; omega)
end Go.Proofs.Ytfdldbfjeamlcaa.LogPlain
/-! Layer 29's first examples. No conditions. -/
namespace Go.Proofs.Ytfdldbfjeamlcaa.LogAlive
open Go.RowKit MarkMath Mem RecMem RecByte RecNum RecEach RecMath RecPort RecCommand RecCod RecVal RecSame RecRd RecRL0 RecWr0 RecRecC RecWOk RecOwn RecCmdJ RecRead RecAll RecAlive2 LogFour LogJoin LogWrap LogFrm LogAllV LogPlain
set_option linter.unusedVariables false
set_option linter.unusedSimpArgs false

abbrev rT : RV := ⟨0, SV.z, cTick⟩
theorem rT_bytes : recB rT = [0, 0, 0, 0, 0, 0, 0, 0, 7, 5, 0, 0, 0, 0, 0, 0, 0] := by rw [recB_cmd rfl]; exact tick_bytes
theorem rT_ok : okR rT := okR_of tick_wf (by decide) (by decide) (by decide)
theorem rT_mk : mk 0 [0, 0, 0, 0, 0, 0, 0, 0, 7, 5, 0, 0, 0, 0, 0, 0, 0] = 2469451442 := by decide +kernel
theorem rT_frame : wrapB rT = [17, 0, 0, 0, 178, 214, 48, 147, 0, 0, 0, 0, 0, 0, 0, 0, 7, 5, 0, 0, 0, 0, 0, 0, 0] := by unfold wrapB; rw [rT_bytes, rT_mk]; decide +kernel
/-- One frame and most of another. -/
theorem fr_one : fr (wrapB rT ++ (wrapB rT).take 24) 50 0 = [(25, rT)] := by
  have h := fr_wrap [] ((wrapB rT).take 24) rT_ok (by rw [rT_bytes]; decide) 49
  have h2 := fr_part (wrapB rT) (r := rT) (by rw [rT_bytes]; decide) (m := 24) (by rw [rT_frame]; decide) 48
  simp only [List.nil_append, List.length_nil, Nat.zero_add] at h
  rw [h, h2, rT_frame]
  rfl
abbrev bad25 : Bs := [17, 0, 0, 0, 178, 214, 48, 147, 0, 0, 1, 0, 0, 0, 0, 0, 7, 5, 0, 0, 0, 0, 0, 0, 0]
theorem fr_bad25 : fr bad25 26 0 = [(-1, RV.z)] := by
  have n0 : num4 (bad25.drop 0) = 17 := by decide +kernel
  refine fr_bad (by decide) (by rw [n0]; decide) (by rw [n0]; decide) fun h => ?_
  have h2 := h.2
  unfold frT at h2
  rw [n0] at h2
  exact absurd h2 (by decide +kernel)
theorem all_49 {B c : Nat} {Y : Option Addr} {T : Bs} (hT : T = wrapB rT) (w : World) (h : w.ownsRow B 5 1 (.slice Y 49 c) 49 (T.map (Value.int .u8) ++ (T.take 24).map (Value.int .u8))) :
    Calls Try.prog 39 #[.slice Y 49 c] w fun e w' => (∃ V c', e = .returned (.tuple #[.slice V 1 c', .int .i64 25, .int .i64 0])) ∧ Below w.heap.size w w' := by
  subst hT
  have hl : (wrapB rT ++ (wrapB rT).take 24).length = 49 := by rw [rT_frame]; rfl
  have hx : TxtAt w Y (wrapB rT ++ (wrapB rT).take 24) := txt_of (n := 49) (by have := Reads.of_own h; rw [List.map_append]; exact this)
  have ho : Oct (wrapB rT ++ (wrapB rT).take 24) := by rw [rT_frame]; unfold Oct; decide +kernel
  have hcap := RecWrite0.row_cap h
  have h := all_any Y c _ ho (by rw [hl]; exact hcap.1) hcap.2 (by rw [hl]; decide) w hx
  unfold AllPost at h
  rw [hl, fr_one] at h
  refine h.mono ?_
  rintro e w' ⟨⟨_, V, c', rfl, _⟩ | ⟨⟨p, hp, hn⟩, _⟩, hB⟩
  · exact ⟨⟨V, c', rfl⟩, hB⟩
  · simp at hp
    subst hp
    simp at hn
theorem all_25 {c g : Nat} (w : World) (hx : TxtAt w (some ⟨g, 0, none⟩) bad25) (h25 : 25 ≤ c) (hm : c ≤ maxLen) :
    Calls Try.prog 39 #[.slice (some ⟨g, 0, none⟩) 25 c] w fun e w' => e = .returned (.tuple #[.slice none 0 0, .int .i64 0, .int .i64 290]) ∧ Below w.heap.size w w' := by
  have ho : Oct bad25 := by unfold Oct; decide +kernel
  have h := all_any (some ⟨g, 0, none⟩) c bad25 ho h25 hm (by decide) w hx
  unfold AllPost at h
  rw [show bad25.length = 25 from rfl, fr_bad25] at h
  refine h.mono ?_
  rintro e w' ⟨⟨hn, _⟩ | ⟨_, rfl⟩, hB⟩
  · exact absurd (by decide) (hn (-1, RV.z) (by simp))
  · exact ⟨rfl, hB⟩
theorem txt_turned {w : World} {g : Nat} {B c : Nat} (h : Fresh B w g [17, 0, 0, 0, 178, 214, 48, 147, 0, 0, 0, 0, 0, 0, 0, 0, 7, 5, 0, 0, 0, 0, 0, 0, 0] c) : TxtAt (w.setCell ⟨g, 10, none⟩ (.int .u8 1)) (some ⟨g, 0, none⟩) bad25 := fun i x hi => by
  refine ⟨g, 0, rfl, by simpa using h.lt, ?_⟩
  rw [Nat.zero_add]
  by_cases h10 : i = 10
  · subst h10
    have e : x = 1 := by simpa using hi.symm
    subst e
    exact World.cell?_setCell_same' _ _ _ (by rw [h.cell 10 _ rfl]; rfl)
  · rw [World.cell?_setCell_other _ _ _ _ (fun e => h10 (by injection e with _ e _; exact e.symm))]
    refine h.cell i x ?_
    match i, h10 with
    | 0, _ | 1, _ | 2, _ | 3, _ | 4, _ | 5, _ | 6, _ | 7, _ | 8, _ | 9, _ | 11, _ | 12, _ | 13, _ | 14, _ | 15, _ | 16, _ | 17, _ | 18, _ | 19, _ | 20, _ | 21, _ | 22, _ | 23, _ | 24, _ => exact hi
    | 10, h => exact absurd rfl h
    | k + 25, _ => simp at hi
set_option maxRecDepth 100000 in
set_option maxHeartbeats 2000000 in
theorem ltick (w : World) : Calls Try.prog 73 #[] w fun e w' => e = .returned (.agg (recA cTick none 0)) ∧ Below w.heap.size w w' := by
  have x5 := box_full (W := w) 51 #[.int .i64 0, .int .i64 0, .int .i64 0, .int .i64 0, .int .i64 0, .int .i64 0, .int .i64 0, .int .i64 0, .slice none 0 0, .int .i64 0, .int .i64 0, .slice none 0 0, .slice none 0 0, .slice none 0 0, .slice none 0 0, .slice none 0 0, .slice none 0 0, .int .u8 0, .int .i64 0, .int .i64 0, .int .i64 0, .int .i64 0, .int .i64 0, .int .i64 0, .bool false, .bool false, .bool false, .bool false, .int .i64 0, .int .i64 0, .bool false, .slice none 0 0, .int .u8 0, .int .i64 0, .int .i64 0, .int .i64 0, .int .i64 0, .int .i64 0, .int .i64 0, .int .i64 0, .int .i64 0, .int .i64 0, .int .i64 0, .int .i64 0, .bool false] (vs := (recA cTick none 0).toList) rfl
  go_enter Try.func73, Try.ntmps73
  go_wp2_with (first | (refine wpList_store_mid rfl 51 _ _ rfl w.heap.size 0 (recA cTick none 0) rfl rfl (there_of (Blk.new w 51 #[.int .i64 0, .int .i64 0, .int .i64 0, .int .i64 0, .int .i64 0, .int .i64 0, .int .i64 0, .int .i64 0, .slice none 0 0, .int .i64 0, .int .i64 0, .slice none 0 0, .slice none 0 0, .slice none 0 0, .slice none 0 0, .slice none 0 0, .slice none 0 0, .int .u8 0, .int .i64 0, .int .i64 0, .int .i64 0, .int .i64 0, .int .i64 0, .int .i64 0, .bool false, .bool false, .bool false, .bool false, .int .i64 0, .int .i64 0, .bool false, .slice none 0 0, .int .u8 0, .int .i64 0, .int .i64 0, .int .i64 0, .int .i64 0, .int .i64 0, .int .i64 0, .int .i64 0, .int .i64 0, .int .i64 0, .int .i64 0, .int .i64 0, .bool false]) (Nat.le_of_ble_eq_true rfl)) (by kernel_rfl) (by kernel_rfl) ?_; generalize World.setCells _ _ _ _ = W5 at *; (try simp only [Act.put])))
  exact bodyPost_ret (v := .agg (recA cTick none 0)) (results_cell_row rfl _ _ w.heap.size 51 (recA cTick none 0) (0, 0) _ rfl x5.1 Try.underlying51 rfl (by kernel_rfl)) rfl ⟨rfl, x5.2⟩
set_option maxRecDepth 100000 in
set_option maxHeartbeats 2000000 in
theorem alive29 (w : World) : Calls Try.prog 42 #[] w fun e w' => e = .returned (.bool true) ∧ Below w.heap.size w w' := by
  go_enter Try.func42, Try.ntmps42
  go_wp2_with fail
  refine (ltick w).mono ?_
  rintro e w1 ⟨rfl, hB1⟩
  have HB1 := Lib.hid hB1
  have HW1 := Lib.hid hB1.size
  clear hB1
  go_wp2_with fail
  refine Calls.mono (show Calls Try.prog 37 #[.agg (recA cTick none 0)] w1 _ from wrap_v rT SA.z none 0 (facts_of tick_wf (by decide)) w1 ⟨StAt.z, IntsAt.nil, Nat.zero_le _⟩) ?_
  rintro e w2 ⟨⟨v, X, n, c, rfl, hV, _, h0⟩, hB2⟩
  have e0 : v = 0 := hV.ok.2 ⟨rT_ok, by rw [rT_bytes]; decide⟩
  subst e0
  obtain ⟨g, rfl, hn0, hF⟩ := h0 rfl
  have hn : n = 25 := by rw [hn0, rT_frame]; rfl
  clear hn0
  subst hn
  rw [rT_frame] at hF
  have HF := Lib.hid hF
  have HB2 := Lib.hid (below_up HB1.out hB2)
  clear hV h0 hF hB2 HB1
  have q0 : w2.cell? ⟨g, 0, none⟩ = some (.int .u8 17) := HF.out.cell 0 _ rfl
  have q1 : w2.cell? ⟨g, 1, none⟩ = some (.int .u8 0) := HF.out.cell 1 _ rfl
  have q2 : w2.cell? ⟨g, 2, none⟩ = some (.int .u8 0) := HF.out.cell 2 _ rfl
  have q3 : w2.cell? ⟨g, 3, none⟩ = some (.int .u8 0) := HF.out.cell 3 _ rfl
  have hc25 : 25 ≤ c := HF.out.cap
  have hcm : c ≤ 9223372036854775807 := by have := HF.out.top; simpa [maxLen] using this
  have HW2 := Lib.hid (And.intro HF.out.txt (And.intro HF.out.lt HB2.out))
  go_wp2_with fail
  have kq0 := cell_regrown q0
  have kq1 := cell_regrown q1
  have kq2 := cell_regrown q2
  have kq3 := cell_regrown q3
  refine wp_region_quiet_below (by kernel_rfl) (by kernel_rfl) ?_
  repeat (go_big_quiet_step (first | fail))
  refine wpQuiet_nil ?_
  intro _ hw'
  obtain ⟨⟨dq, osq⟩, hw''⟩ := hw'
  subst hw''
  have hBq := below_regrown w2 dq osq
  clear kq0 kq1 kq2 kq3 q0 q1 q2 q3
  generalize Sort.grow (redrawn w2 dq) osq = W3 at *
  have HF3 := Lib.hid (HF.out.up hBq)
  have HB3 := Lib.hid (below_up HB2.out hBq)
  clear hBq HF HB2 HW2
  go_upto_region 4 with fail
  obtain ⟨i0, hi0, hz0, hz1, hz2⟩ := info_parts RecByte.byte_info
  have HI0 := Lib.hid (And.intro hi0 (And.intro hz0 (And.intro hz1 hz2)))
  clear hi0 hz0 hz1 hz2
  obtain ⟨T, hT⟩ : ∃ T : Bs, T = [17, 0, 0, 0, 178, 214, 48, 147, 0, 0, 0, 0, 0, 0, 0, 0, 7, 5, 0, 0, 0, 0, 0, 0, 0] := ⟨_, rfl⟩
  have hTl : T.length = 25 := by rw [hT]; rfl
  have hcells : ∀ l : Bs, ∀ u ∈ l.map (Value.int .u8), u.oneCell' = true := fun l u hu => by
    obtain ⟨n, _, rfl⟩ := List.mem_map.1 hu
    rfl
  have hR3 : ∀ W : World, Below W3.heap.size W3 W → Reads W W3.heap.size 1 (some ⟨g, 0, none⟩) 25 (T.map (Value.int .u8)) ∧ Reads W W3.heap.size 1 (some ⟨g, 0, none⟩) 24 ((T.take 24).map (Value.int .u8)) := fun W hW => by
    have h0 : Reads W3 W3.heap.size 1 (some ⟨g, 0, none⟩) 25 (T.map (Value.int .u8)) := by have := txt_bytes HF3.out.txt; rw [hT]; exact this
    have h1 : Reads W3 W3.heap.size 1 (some ⟨g, 0, none⟩) 24 ((T.take 24).map (Value.int .u8)) := by have := txt_bytes (LogFrm.TxtAt.take HF3.out.txt 24); rw [hT]; exact this
    exact ⟨h0.below hW, h1.below hW⟩
  have HT := Lib.hid hT
  clear hT
  have HR3 := Lib.hid hR3
  clear hR3
  have hc24 : 24 ≤ c := by omega
  have hc0 : ¬ c = 0 := by omega
  have hci : (24 : Int) ≤ (c : Int) := by omega
  go_region_law (first
    | (refine step_append_any _ rfl (.tmp 42) (.tmp 43) _ rfl W3.heap.size 5 i0 (.int .u8 0) 1 1 Try.underlying37 HI0.out.1 HI0.out.2.1 HI0.out.2.2.1 HI0.out.2.2.2 rfl (by decide) (.slice (some ⟨W3.heap.size, 0, none⟩) 0 0) 0 [] (by simp [Act.eval, Act.put]) (World.ownsRow_made W3.drew #[] 0 (Nat.le_refl _) (Nat.zero_le _) (by simp)) W3.heap.size (some ⟨g, 0, none⟩) 25 c (T.map (Value.int .u8)) (by simp [Act.eval, Act.put]) ((HR3.out _ (below_alloc (Below.drew (Below.refl _ W3)))).1) (hcells T) (by simp only [maxLen]; omega) (by omega) (by simp) ?_; intro v7 w7 hown0 hg hat; have hown : w7.ownsRow W3.heap.size 5 1 v7 25 (T.map (Value.int .u8)) := (by simpa using hown0); clear hown0; obtain ⟨Y7, c7, rfl⟩ := own_slice hown; have H7 := Lib.hid (And.intro hown (And.intro hg ((below_alloc (Below.drew (Below.refl _ W3))).grown hg (by simp) (by intro k hk; cases hk; exact Nat.le_refl _)))); clear hown hg hat)
    | (refine step_append_any _ rfl (.tmp 44) (.tmp 46) _ rfl W3.heap.size 5 i0 (.int .u8 0) 1 1 Try.underlying37 HI0.out.1 HI0.out.2.1 HI0.out.2.2.1 HI0.out.2.2.2 rfl (by decide) _ 25 (T.map (Value.int .u8)) (by simp [Act.eval, Act.put]) H7.out.1 W3.heap.size (some ⟨g, 0, none⟩) 24 c ((T.take 24).map (Value.int .u8)) (by simp [Act.eval, Act.put]) ((HR3.out _ H7.out.2.2).2) (hcells _) (by simp only [maxLen]; omega) (by omega) H7.out.2.2.size ?_; intro v8 w8 hown hg hat; obtain ⟨Y8, c8, rfl⟩ := own_slice hown; have H8 := Lib.hid (And.intro (show w8.ownsRow W3.heap.size 5 1 (.slice Y8 49 c8) 49 (T.map (Value.int .u8) ++ (T.take 24).map (Value.int .u8)) from hown) (H7.out.2.2.grown hg (by have := H7.out.2.2.size; omega) (fun k hk => (H7.out.1.lt k hk).1))); clear hown hg hat)
    | (go_simp; refine (all_49 (HT.out.trans rT_frame.symm) w8 H8.out.1).mono ?_; rintro e w9 ⟨⟨V9, c9, rfl⟩, hB9⟩; have HB9 := Lib.hid (below_up H8.out.2 hB9); clear hB9))
  have HF9 := Lib.hid (HF3.out.up HB9.out)
  have HBZ := Lib.hid (below_up HB3.out HB9.out)
  have p10 : w9.cell? ⟨g, 10, none⟩ = some (.int .u8 0) := HF9.out.cell 10 _ rfl
  have z10 : w9.frozen? ⟨g, 10, none⟩ = false := HF9.out.free 10 (by omega)
  clear HB9 HB3 HF3 HR3 H7 H8
  go_wp2_with fail
  have hx := txt_turned HF9.out
  refine (all_25 _ hx hc25 HF9.out.top).mono ?_
  rintro e w10 ⟨rfl, hB10⟩
  have HBE := Lib.hid (below_up (HBZ.out.setCell (p := ⟨g, 10, none⟩) (Nat.le_trans HW1.out HF9.out.le) _) hB10)
  clear hB10 p10 z10 hx
  go_wp2_with fail
  go_ret
  exact ⟨rfl, HBE.out⟩
end Go.Proofs.Ytfdldbfjeamlcaa.LogAlive
/-! Frames of bytes that are cut off, in plain Lean. No conditions but those named. -/
namespace Go.Proofs.Ytfdldbfjeamlcaa.LogCutP
open Go Go.RowKit MarkMath Mem RecMem RecByte RecNum RecMath RecCod RecVal RecSame RecWr0 RecRecC RecRead RecAll LogFour LogJoin LogWrap LogFrm LogPlain
set_option linter.unusedVariables false
set_option linter.unusedSimpArgs false

theorem num4_take {t : Bs} {m : Nat} (h : 4 ≤ m) (hl : 4 ≤ t.length) : num4 (t.take m) = num4 t := by
  obtain ⟨a, b, d, f, u, rfl⟩ := four_of hl
  obtain ⟨j, rfl⟩ : ∃ j, m = j + 4 := ⟨m - 4, by omega⟩
  rfl
theorem num4_cut {t : Bs} {c k : Nat} (h : k + 4 ≤ c) (hc : c ≤ t.length) : num4 ((t.take c).drop k) = num4 (t.drop k) := by
  rw [List.drop_take]
  exact num4_take (by omega) (by rw [List.length_drop]; omega)
theorem frT_cut {t : Bs} {c k : Nat} (h : (k : Int) + 8 + num4 (t.drop k) ≤ c) (hc : c ≤ t.length) (h0 : 0 ≤ num4 (t.drop k)) : frT (t.take c) k = frT t k := by
  have h1 : k + 4 ≤ c := by omega
  unfold frT
  rw [num4_cut h1 hc, List.drop_take, List.take_take, Nat.min_eq_left (by omega)]
theorem frOk_cut {t : Bs} {c k : Nat} (h : (k : Int) + 8 + num4 (t.drop k) ≤ c) (hc : c ≤ t.length) (h0 : 0 ≤ num4 (t.drop k)) : frOk (t.take c) k ↔ frOk t k := by
  unfold frOk
  rw [frT_cut h hc h0, num4_cut (by omega) hc]
/-- Frames of what is cut off: those that end ahead of it. -/
theorem fr_take {t : Bs} (ho : Oct t) : ∀ (f k f' c : Nat), (∀ p ∈ fr t f k, ¬ p.1 < 0) → t.length < k + f → c < k + f' → k ≤ c → c ≤ t.length →
    fr (t.take c) f' k = (fr t f k).takeWhile (fun p => decide (p.1 ≤ (c : Int)))
  | 0, k, f', c, hn, hf, hf', hk, hc => by omega
  | f + 1, k, 0, c, hn, hf, hf', hk, hc => by omega
  | f + 1, k, f' + 1, c, hn, hf, hf', hk, hc => by
    have hlc : (t.take c).length = c := by rw [List.length_take]; omega
    have hN := num4_in (Oct.drop ho k)
    by_cases h8 : c < k + 8
    · rw [fr_end (t := t.take c) (by omega)]
      by_cases t8 : t.length < k + 8
      · rw [fr_end t8]; rfl
      by_cases tb : 65536 < num4 (t.drop k)
      · rw [fr_big t8 tb] at hn; exact absurd (by decide) (hn (-1, RV.z) (by simp))
      by_cases tc : (t.length : Int) < (k : Int) + 8 + num4 (t.drop k)
      · rw [fr_cut t8 tb tc]; rfl
      by_cases tk : frOk t k
      · rw [fr_ok t8 tb tc tk, List.takeWhile_cons_of_neg (by simp; omega)]
      · rw [fr_bad t8 tb tc tk] at hn; exact absurd (by decide) (hn (-1, RV.z) (by simp))
    · have t8 : ¬ t.length < k + 8 := by omega
      have en := num4_cut (t := t) (c := c) (k := k) (by omega) hc
      by_cases tb : 65536 < num4 (t.drop k)
      · rw [fr_big t8 tb] at hn; exact absurd (by decide) (hn (-1, RV.z) (by simp))
      by_cases tc : (t.length : Int) < (k : Int) + 8 + num4 (t.drop k)
      · rw [fr_cut t8 tb tc, fr_cut (t := t.take c) (by omega) (by omega) (by omega)]; rfl
      by_cases tk : frOk t k
      · by_cases cc : (c : Int) < (k : Int) + 8 + num4 (t.drop k)
        · rw [fr_cut (t := t.take c) (by omega) (by omega) (by omega), fr_ok t8 tb tc tk, List.takeWhile_cons_of_neg (by simp; omega)]
        · have ck : frOk (t.take c) k := (frOk_cut (by omega) hc hN.1).2 tk
          have hr := frT_cut (t := t) (c := c) (k := k) (by omega) hc hN.1
          rw [fr_ok t8 tb tc tk] at hn ⊢
          rw [fr_ok (t := t.take c) (by omega) (by omega) (by omega) ck, List.takeWhile_cons_of_pos (by simp; omega), en, hr,
            fr_take ho f (k + 8 + (num4 (t.drop k)).toNat) f' c (fun p hp => hn p (List.mem_cons_of_mem _ hp)) (by omega) (by omega) (by omega) hc]
      · rw [fr_bad t8 tb tc tk] at hn; exact absurd (by decide) (hn (-1, RV.z) (by simp))
/-- Frames end behind where they begin, within the bytes, one after another. -/
theorem fr_sorted {t : Bs} (ho : Oct t) : ∀ (f k : Nat), (∀ p ∈ fr t f k, ¬ p.1 < 0) → (∀ p ∈ fr t f k, (k : Int) < p.1 ∧ p.1 ≤ t.length) ∧ (fr t f k).Pairwise (fun p q => p.1 < q.1)
  | 0, k, _ => ⟨fun p hp => by simp [fr] at hp, by simp [fr]⟩
  | f + 1, k, hn => by
    have hN := num4_in (Oct.drop ho k)
    by_cases t8 : t.length < k + 8
    · rw [fr_end t8]; exact ⟨fun p hp => by simp at hp, List.Pairwise.nil⟩
    by_cases tb : 65536 < num4 (t.drop k)
    · rw [fr_big t8 tb] at hn; exact absurd (by decide) (hn (-1, RV.z) (by simp))
    by_cases tc : (t.length : Int) < (k : Int) + 8 + num4 (t.drop k)
    · rw [fr_cut t8 tb tc]; exact ⟨fun p hp => by simp at hp, List.Pairwise.nil⟩
    by_cases tk : frOk t k
    · rw [fr_ok t8 tb tc tk] at hn ⊢
      obtain ⟨h1, h2⟩ := fr_sorted ho f (k + 8 + (num4 (t.drop k)).toNat) (fun p hp => hn p (List.mem_cons_of_mem _ hp))
      refine ⟨fun p hp => ?_, List.Pairwise.cons (fun p hp => ?_) h2⟩
      · rcases List.mem_cons.1 hp with rfl | hp
        · simp; omega
        · have := h1 p hp; omega
      · have := h1 p hp
        show (k : Int) + 8 + num4 (t.drop k) < p.1
        omega
    · rw [fr_bad t8 tb tc tk] at hn; exact absurd (by decide) (hn (-1, RV.z) (by simp))
/-- Records of frames have numbers that are machine words. -/
theorem fr_facts {t : Bs} (ho : Oct t) : ∀ (f k : Nat), ∀ p ∈ fr t f k, RFacts p.2
  | 0, k, p, hp => by simp [fr] at hp
  | f + 1, k, p, hp => by
    by_cases t8 : t.length < k + 8
    · rw [fr_end t8] at hp; simp at hp
    by_cases tb : 65536 < num4 (t.drop k)
    · rw [fr_big t8 tb] at hp; simp at hp; subst hp; exact z_facts
    by_cases tc : (t.length : Int) < (k : Int) + 8 + num4 (t.drop k)
    · rw [fr_cut t8 tb tc] at hp; simp at hp
    by_cases tk : frOk t k
    · rw [fr_ok t8 tb tc tk] at hp
      rcases List.mem_cons.1 hp with rfl | hp
      · exact readV_facts _ (Oct.take (Oct.drop ho _) _)
      · exact fr_facts ho f _ p hp
    · rw [fr_bad t8 tb tc tk] at hp; simp at hp; subst hp; exact z_facts

/-! All the frames of bytes. -/
abbrev frs (t : Bs) : List (Int × RV) := fr t (t.length + 1) 0
def endV (l : List (Int × RV)) : Int := (l.getLast?.map (·.1)).getD 0
abbrev Whole (t : Bs) : Prop := ∀ p ∈ frs t, ¬ p.1 < 0
theorem endV_snoc (l : List (Int × RV)) (p : Int × RV) : endV (l ++ [p]) = p.1 := by simp [endV]
theorem frs_take {t : Bs} (ho : Oct t) (hn : Whole t) {c : Nat} (hc : c ≤ t.length) : frs (t.take c) = (frs t).takeWhile (fun p => decide (p.1 ≤ (c : Int))) := by
  have hlc : (t.take c).length = c := by rw [List.length_take]; omega
  unfold frs
  rw [hlc]
  exact fr_take ho (t.length + 1) 0 (c + 1) c hn (by omega) (by omega) (by omega) hc
theorem end_in {t : Bs} (ho : Oct t) (hn : Whole t) : 0 ≤ endV (frs t) ∧ endV (frs t) ≤ t.length := by
  have h := (fr_sorted ho (t.length + 1) 0 hn).1
  rcases List.eq_nil_or_concat (frs t) with e | ⟨l, p, e⟩
  · rw [e]; simp [endV]
  · rw [List.concat_eq_append] at e
    rw [e, endV_snoc]
    have := h p (by rw [show fr t (t.length + 1) 0 = frs t from rfl, e]; simp)
    omega
theorem le_end {t : Bs} (ho : Oct t) (hn : Whole t) {p : Int × RV} (hp : p ∈ frs t) : p.1 ≤ endV (frs t) := by
  have h := (fr_sorted ho (t.length + 1) 0 hn).2
  rcases List.eq_nil_or_concat (frs t) with e | ⟨l, q, e⟩
  · rw [e] at hp; simp at hp
  · rw [List.concat_eq_append] at e
    rw [e, endV_snoc]
    rw [show fr t (t.length + 1) 0 = frs t from rfl, e, List.pairwise_append] at h
    rw [e] at hp
    rcases List.mem_append.1 hp with h1 | h1
    · have := h.2.2 p h1 q (by simp); omega
    · simp at h1; subst h1; exact Int.le_refl _
theorem mem_takeWhile {α : Type} {q : α → Bool} : ∀ {l : List α} {x : α}, x ∈ l.takeWhile q → q x = true ∧ x ∈ l
  | [], x, h => by simp at h
  | a :: l, x, h => by
    by_cases ha : q a = true
    · rw [List.takeWhile_cons_of_pos ha] at h
      rcases List.mem_cons.1 h with rfl | h
      · exact ⟨ha, by simp⟩
      · exact ⟨(mem_takeWhile h).1, List.mem_cons_of_mem _ (mem_takeWhile h).2⟩
    · rw [List.takeWhile_cons_of_neg ha] at h; simp at h
theorem takeWhile_all {α : Type} {q : α → Bool} : ∀ {l : List α}, (∀ x ∈ l, q x = true) → l.takeWhile q = l
  | [], _ => rfl
  | a :: l, h => by rw [List.takeWhile_cons_of_pos (h a (by simp)), takeWhile_all fun x hx => h x (by simp [hx])]
/-- What is cut off is not broken, tells the first records, and no farther. -/
theorem cut_law {t : Bs} (ho : Oct t) (hn : Whole t) {c : Nat} (hc : c ≤ t.length) : Whole (t.take c) ∧ (∃ j, j ≤ (frs t).length ∧ frs (t.take c) = (frs t).take j) ∧ endV (frs (t.take c)) ≤ c ∧ endV (frs (t.take c)) ≤ endV (frs t) ∧ (endV (frs t) ≤ c → frs (t.take c) = frs t) := by
  have h := frs_take ho hn hc
  have hm : ∀ p ∈ frs (t.take c), p.1 ≤ (c : Int) ∧ p ∈ frs t := fun p hp => by
    rw [h] at hp
    have := mem_takeWhile hp
    exact ⟨of_decide_eq_true this.1, this.2⟩
  have hw : Whole (t.take c) := fun p hp => hn p (hm p hp).2
  refine ⟨hw, ⟨(frs (t.take c)).length, ?_, ?_⟩, ?_, ?_, fun he => ?_⟩
  · rw [h]; exact (List.takeWhile_prefix _).length_le
  · rw [h]; exact List.prefix_iff_eq_take.1 (List.takeWhile_prefix _)
  · have := (end_in (Oct.take ho c) hw).2
    rw [List.length_take] at this
    omega
  · rcases List.eq_nil_or_concat (frs (t.take c)) with e | ⟨l, p, e⟩
    · rw [e]; have := (end_in ho hn).1; simpa [endV] using this
    · rw [List.concat_eq_append] at e
      have := le_end ho hn (hm p (by rw [e]; simp)).2
      rw [e, endV_snoc]; exact this
  · rw [h]
    refine takeWhile_all fun p hp => ?_
    have := le_end ho hn hp
    simp; omega
/-- Cut off where they are whole they tell all. -/
theorem cut_end {t : Bs} (ho : Oct t) (hn : Whole t) {n : Nat} (he : endV (frs t) = n) : frs (t.take n) = frs t := (cut_law ho hn (by have := (end_in ho hn).2; omega)).2.2.2.2 (by omega)
end Go.Proofs.Ytfdldbfjeamlcaa.LogCutP
