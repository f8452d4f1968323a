/- The contracts of pos.strides and of the iterator that it returns: the axes with their strides, for dimensions that may be. -/
import Derived.Outline
import Derived.Test.YthapginaphdmjaaPosMany
import Derived.Test.YthapginaphdmjaaSeqKit
namespace Go.Proofs.Ythapginaphdmjaa.PosSeq
open Go.RowKit Go.Shelf PosMath PosCheck PosMany Mem SeqKit
attribute [local go_sem] Oper.semAt_some
set_option linter.unusedVariables false

/-- An axis. -/
abbrev Ax := Option Bool
/-- Its number, and its stride; one of three. -/
def axn : Ax → Int
  | none => 0
  | some false => 1
  | some true => 2
def sd (a b : Int) : Ax → Int
  | none => 1
  | some false => a
  | some true => a * b
def of3 (p q r : Int) : Ax → Int
  | none => p
  | some false => q
  | some true => r
def enc3 (a b : Int) (x : Ax) : Array Value := #[.int .i64 (axn x), .int .i64 (sd a b x)]
def axes : List Ax := [none, some false, some true]

/-- A box stays as it is. -/
def KeepB (B : Nat) (W W' : World) : Prop := ∀ i v, W.cell? ⟨B, i, none⟩ = some v → W'.cell? ⟨B, i, none⟩ = some v
theorem KeepB.refl (B : Nat) (W : World) : KeepB B W W := fun _ _ h => h
theorem KeepB.trans {B : Nat} {X Y Z : World} (h : KeepB B X Y) (k : KeepB B Y Z) : KeepB B X Z := fun i v e => k i v (h i v e)
theorem KeepB.set_ {B : Nat} (W : World) {p : Addr} (hp : p.block ≠ B) (u : Value) : KeepB B W (W.setCell p u) := fun i v e => by
  rw [World.cell?_setCell_other _ _ _ _ (fun h => hp (by rw [h]))]; exact e
theorem KeepB.below {B n : Nat} {W W' : World} (h : Below n W W') (hB : B < n) : KeepB B W W' := fun i v e => (h.cell (p := ⟨B, i, none⟩) hB).trans e
theorem blk_own {β : Type} (g : Nat) (t : TypeId) (f : β → Array Value) : Own (fun s W => Blk W g t (f s)) := fun s X Y row hs hg hrow =>
  (hg.block g (Blk.lt hs) (fun e => by
    obtain ⟨o, ho, hc⟩ := hrow g e.symm
    have hs' : X.heap[g]? = _ := hs
    rw [hs'] at ho; cases ho; cases hc)).trans hs
theorem keepB_b {B : Nat} (W : World) (l : Nat) (o o' : Obj) (h : W.heap[l]? = some o) (ho : o.isCells = false) : KeepB B W (W.putObj l o') := fun i v e =>
  cell_kept e (grownBy_putObj' W l o') (fun r hr => by cases hr; exact ⟨o, h, ho⟩)

/-- pos.strides boxes its dimensions; the iterator holds the box. -/
theorem strides_in (F : Fence) (n : Nat) (hf : F.fn 25) (hro : F.round = none) (a b c : Int) (w : World) :
    CallsIn F n Try.prog 25 #[.agg #[.int .i64 a, .int .i64 b, .int .i64 c]] w fun e w' => e = .returned (.func (.func 30) #[] #[.pointer (some ⟨w.heap.size, 0, none⟩)]) ∧ w' = w.alloc (.cells #[.int .i64 a, .int .i64 b, .int .i64 c] 23) := by
  refine callsIn_of_wp Try.func25 rfl hf ?_ hro
  simp only [Try.ntmps25, List.size_toArray, List.length_cons, List.length_nil, Nat.reduceAdd, Nat.reduceSub, Array.replicate_succ, Array.replicate_zero, List.push_toArray, List.append_toArray, List.nil_append, List.cons_append]
  gi_wp2
  go_ret
  exact ⟨rfl, rfl⟩

/-- The loop's state, where an axis is come to. -/
def Rel (a b c : Int) (J : List (Ax) → World → Prop) (i v : Value) (wr : World) : Prop :=
  (i = .int .i64 0 ∧ v = .int .i64 1 ∧ J [] wr) ∨ (i = .int .i64 1 ∧ v = .int .i64 a ∧ J [none] wr) ∨ (i = .int .i64 2 ∧ v = .int .i64 (a * b) ∧ J [none, some false] wr) ∨ (i = .int .i64 3 ∧ v = .int .i64 (a * b * c) ∧ J [none, some false, some true] wr)

set_option maxRecDepth 100000 in
set_option maxHeartbeats 2000000 in
theorem strides1_in (F : Fence) (n : Nat) (hf : F.fn 30) (hro : F.round = none) (hn : 1 ≤ n) (l Bp : Nat) (a b c : Int) (hm : May a b c)
    (J Jx : List (Ax) → World → Prop)
    (hY : ∀ pre x W, J pre W → pre.length < 3 → YieldAt F (n - 1) Try.prog l (enc3 a b x) W fun e W' =>
      (e = .returned (.bool true) ∧ J (pre ++ [x]) W' ∧ KeepB Bp W W') ∨ (e = .returned (.bool false) ∧ Jx (pre ++ [x]) W'))
    (W : World) (h0 : W.cell? ⟨Bp, 0, none⟩ = some (.int .i64 a)) (h1 : W.cell? ⟨Bp, 1, none⟩ = some (.int .i64 b)) (h2 : W.cell? ⟨Bp, 2, none⟩ = some (.int .i64 c)) (hJ0 : J [] W) :
    CallsIn F n Try.prog 30 #[.func (.yield l) #[] #[], .pointer (some ⟨Bp, 0, none⟩)] W fun e W' => (∃ v, e = .returned v) ∧
      ((∃ ys, ys = axes ∧ J ys W') ∨ (∃ pre, True ∧ Jx pre W')) := by
  obtain ⟨⟨hb1, hb2⟩, ⟨hb3, hb4⟩⟩ := num_bounds hm
  obtain ⟨⟨ha1, ha2⟩, ⟨hbb1, hbb2⟩, ⟨hc1, hc2⟩⟩ := hm
  have HY := Lib.hid hY
  clear hY
  refine callsIn_of_wp Try.func30 rfl hf ?_ hro
  simp only [Try.ntmps30, List.size_toArray, List.length_cons, List.length_nil, Nat.reduceAdd, Nat.reduceSub, Array.replicate_succ, Array.replicate_zero, List.push_toArray, List.append_toArray, List.nil_append, List.cons_append]
  gi_wp2
  gi_loopw [3, 4] (fun i v wr => Rel a b c J i v wr ∧ wr.cell? ⟨Bp, 0, none⟩ = some (.int .i64 a) ∧ wr.cell? ⟨Bp, 1, none⟩ = some (.int .i64 b) ∧ wr.cell? ⟨Bp, 2, none⟩ = some (.int .i64 c))
    (fun i _ _ => 3 - (intOf i).toNat)
  case atStart => exact ⟨.inl ⟨rfl, rfl, hJ0⟩, h0, h1, h2⟩
  case round =>
    obtain ⟨hr, c0, c1, c2⟩ := hrel
    clear h0 h1 h2
    rcases hr with ⟨rfl, rfl, hJ⟩ | ⟨rfl, rfl, hJ⟩ | ⟨rfl, rfl, hJ⟩ | ⟨rfl, rfl, hJ⟩
    · obtain ⟨fn, tmps, assign, body, hy0, hR⟩ := HY.out [] none wr hJ (by simp)
      have hy : (Instr.yield l #[.int .i64 0, .int .i64 (1)]).run Try.prog wr = .ok (.round l fn tmps assign body) wr := hy0
      have HR := Lib.hid hR
      clear hR hy0
      gi_wp2
      refine HR.out.mono ?_
      rintro e W3 (⟨rfl, hJ3, hk3⟩ | ⟨rfl, hJx3⟩)
      · have d0 := hk3 _ _ c0
        have d1 := hk3 _ _ c1
        have d2 := hk3 _ _ c2
        have HJ := Lib.hid hJ3
        clear c0 c1 c2 hk3 hJ3 hJ
        gi_wp2
        go_roundw
        case rel => exact ⟨.inr (.inl ⟨rfl, rfl, HJ.out⟩), d0, d1, d2⟩
        case measure => simp [intOf]
      · have HJ3 := Lib.hid hJx3
        clear hJx3
        gi_wp2
        go_end0
        exact ⟨⟨_, rfl⟩, .inr ⟨_, trivial, HJ3.out⟩⟩
    · obtain ⟨fn, tmps, assign, body, hy0, hR⟩ := HY.out [none] (some false) wr hJ (by simp)
      have hy : (Instr.yield l #[.int .i64 1, .int .i64 (a)]).run Try.prog wr = .ok (.round l fn tmps assign body) wr := hy0
      have HR := Lib.hid hR
      clear hR hy0
      gi_wp2
      refine HR.out.mono ?_
      rintro e W3 (⟨rfl, hJ3, hk3⟩ | ⟨rfl, hJx3⟩)
      · have d0 := hk3 _ _ c0
        have d1 := hk3 _ _ c1
        have d2 := hk3 _ _ c2
        have HJ := Lib.hid hJ3
        clear c0 c1 c2 hk3 hJ3 hJ
        gi_wp2
        go_roundw
        case rel => exact ⟨.inr (.inr (.inl ⟨rfl, rfl, HJ.out⟩)), d0, d1, d2⟩
        case measure => simp [intOf]
      · have HJ3 := Lib.hid hJx3
        clear hJx3
        gi_wp2
        go_end0
        exact ⟨⟨_, rfl⟩, .inr ⟨_, trivial, HJ3.out⟩⟩
    · obtain ⟨fn, tmps, assign, body, hy0, hR⟩ := HY.out [none, some false] (some true) wr hJ (by simp)
      have hy : (Instr.yield l #[.int .i64 2, .int .i64 (a * b)]).run Try.prog wr = .ok (.round l fn tmps assign body) wr := hy0
      have HR := Lib.hid hR
      clear hR hy0
      gi_wp2
      refine HR.out.mono ?_
      rintro e W3 (⟨rfl, hJ3, hk3⟩ | ⟨rfl, hJx3⟩)
      · have d0 := hk3 _ _ c0
        have d1 := hk3 _ _ c1
        have d2 := hk3 _ _ c2
        have HJ := Lib.hid hJ3
        clear c0 c1 c2 hk3 hJ3 hJ
        gi_wp2
        go_roundw
        case rel => exact ⟨.inr (.inr (.inr ⟨rfl, rfl, HJ.out⟩)), d0, d1, d2⟩
        case measure => simp [intOf]
      · have HJ3 := Lib.hid hJx3
        clear hJx3
        gi_wp2
        go_end0
        exact ⟨⟨_, rfl⟩, .inr ⟨_, trivial, HJ3.out⟩⟩
    · have HJ := Lib.hid hJ
      clear hJ
      gi_wp2
      all_goals
        refine ⟨fun f h => (by cases h), ?_⟩
        gi_wp2
        go_end0
        exact ⟨⟨_, rfl⟩, .inl ⟨_, rfl, HJ.out⟩⟩

/-- The iterator's contract. -/
theorem strides_stops (F : Fence) (n : Nat) (hf : F.fn 30) (hro : F.round = none) (hn : 1 ≤ n) (Bp : Nat) (a b c : Int) (hm : May a b c) (w : World) (hBp : Bp < w.heap.size)
    (h0 : w.cell? ⟨Bp, 0, none⟩ = some (.int .i64 a)) (h1 : w.cell? ⟨Bp, 1, none⟩ = some (.int .i64 b)) (h2 : w.cell? ⟨Bp, 2, none⟩ = some (.int .i64 c)) :
    SeqStopsK F n Try.prog 30 #[.pointer (some ⟨Bp, 0, none⟩)] (enc3 a b) (KeepB Bp) (fun ys => ys = axes) (fun _ => True) 3 w := fun l J Jx W hW _ _ hY hJ0 =>
  strides1_in F n hf hro hn l Bp a b c hm J Jx hY W ((hW.cell (p := ⟨Bp, 0, none⟩) hBp).trans h0) ((hW.cell (p := ⟨Bp, 1, none⟩) hBp).trans h1) ((hW.cell (p := ⟨Bp, 2, none⟩) hBp).trans h2) hJ0
end Go.Proofs.Ythapginaphdmjaa.PosSeq
