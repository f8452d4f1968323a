/- deps.states, and what the closures read of it. -/
import Derived.Maps.Own
import Derived.Maps.OwnOps
import Derived.Maps.OwnSet
import Derived.Maps.Views
import Derived.BigQuiet
import Derived.Deep.QuietTactic
import Derived.Deep.MidRow
import Derived.Test.YtfpljpdjohmbaaaJobMem
import Derived.Test.YtfpljpdjohmbaaaJobIndex
namespace Go.Proofs.Ytfpljpdjohmbaaa.DepsStates
open Go.Maps Go.RowKit Mem PosMath PartMath TurnMath JobMath JobMem
set_option linter.unusedVariables false
set_option linter.unusedSimpArgs false

theorem law : Keyed Try.prog 3 := int_keyed Try.underlying3
theorem zeroU (w : World) : (zeroValue 5).run Try.prog w = .ok (.int .u8 0) w := by kernel_rfl
/-- A map of states in memory: f says each number's; a number that it has not has 0. -/
def StAt (w : World) (b : Nat) (f : Int → Int) (n : Nat) : Prop := ∃ D : DataW Unit, w.ownsMap Try.prog 3 (plainElem Try.prog 5) b n D ∧ IsMap D ∧ ∀ k : Int, D.atKey (.int .i64 k) (.lit (.int .u8 0)) = .lit (.int .u8 (f k))
theorem StAt.new (w : World) : StAt (w.alloc (.map #[] 0)) w.heap.size (fun _ => 0) 0 := ⟨.map [], World.ownsMap_made _ _ _ _, isMap_empty, fun k => rfl⟩
theorem StAt.up {w w' : World} {b n : Nat} {f : Int → Int} (h : StAt w b f n) (hB : Below w.heap.size w w') : StAt w' b f n := by
  obtain ⟨D, ⟨es, clock, hb, h2⟩, h3⟩ := h
  exact ⟨D, ⟨es, clock, (hB.block b (Array.getElem?_eq_some_iff.1 hb).1).trans hb, h2⟩, h3⟩
theorem StAt.lt {w : World} {b n : Nat} {f : Int → Int} (h : StAt w b f n) : b < w.heap.size := by
  obtain ⟨D, h1, _⟩ := h
  exact h1.lt
theorem StAt.far {w : World} {b n : Nat} {f : Int → Int} (h : StAt w b f n) {p : Addr} (hp : b ≠ p.block) (u : Value) : StAt (w.setCell p u) b f n := by
  obtain ⟨D, ⟨es, clock, hb, h2⟩, h3⟩ := h
  exact ⟨D, ⟨es, clock, (Below.heap_setCell w p u b hp).trans hb, h2⟩, h3⟩
def stUpd (f : Int → Int) (k v : Int) : Int → Int := fun n => if n = k then v else f n
theorem StAt.put {w w' : World} {b n : Nat} {f : Int → Int} {D : DataW Unit} {k v : Int} (hD : IsMap D) (hat : ∀ k : Int, D.atKey (.int .i64 k) (.lit (.int .u8 0)) = .lit (.int .u8 (f k)))
    (hown : w'.ownsMap Try.prog 3 (plainElem Try.prog 5) b (n + 1) (D.put (.int .i64 k) (.lit (.int .u8 v)))) : StAt w' b (stUpd f k v) (n + 1) := by
  refine ⟨_, hown, ?_, fun m => ?_⟩
  · obtain ⟨es, rfl⟩ := hD
    exact ⟨_, rfl⟩
  · unfold stUpd
    by_cases h : m = k
    · subst h
      rw [if_pos rfl]
      exact atKey_put_same (k := .int .i64 m) hD (show WideAt.IsKeyLit (.int .i64 m) from trivial) _ _
    · rw [if_neg h, atKey_put_other (by simpa using h)]
      exact hat m
/-- The states of a table's jobs. -/
def stOf (l : List JV) : Int → Int := l.foldl (fun f j => stUpd f j.id j.st) (fun _ => 0)
theorem stOf_snoc (l : List JV) (x : JV) : stOf (l ++ [x]) = stUpd (stOf l) x.id x.st := by
  unfold stOf
  rw [List.foldl_append]
  rfl
set_option maxRecDepth 100000 in
set_option maxHeartbeats 4000000 in
theorem states_any (X : Option Addr) (cap : Nat) (l : List JV) (hl : l.length ≤ 1000) (hw : ∀ j ∈ l, (Lit.int .i64 j.id).wf = true ∧ (Lit.int .u8 j.st).wf = true) (w : World) (hX : JobsAt w X l) :
    Calls Try.prog 71 #[.slice X l.length cap] w fun e w' => ∃ b, e = .returned (.map (some b)) ∧ w.heap.size ≤ b ∧ StAt w' b (stOf l) l.length ∧ Below w.heap.size w w' := by
  have hmm := @run_makeMap Try.prog
  have HX := Lib.hid hX
  have HW := Lib.hid hw
  clear hX hw
  go_enter Try.func71, Try.ntmps71
  go_wp2_with fail
  go_loopw [9] (fun i wr => ∃ k : Nat, k ≤ l.length ∧ i = .int .i64 k ∧ Hid (StAt wr w.heap.size (stOf (l.take k)) k) ∧ Hid (Below w.heap.size w wr))
    (fun i _ => l.length - (intOf i).toNat)
  case atStart => exact ⟨0, Nat.zero_le _, rfl, StAt.new w, below_alloc (Below.refl _ _)⟩
  case round =>
    obtain ⟨k, hk, rfl, hS, hB⟩ := hrel
    clear hmm
    by_cases hlt : k < l.length
    · have hg : l[k]? = some l[k] := List.getElem?_eq_getElem hlt
      generalize l[k] = x at hg
      have hki : (k : Int) < (l.length : Int) := by omega
      have hki0 : (0 : Int) ≤ (k : Int) := by omega
      obtain ⟨b, o, Y, c, rfl, hb, hJ, hY⟩ := HX.out.up hB.out k x hg
      obtain ⟨D, hown, hD, hat⟩ := hS.out
      have hwx := HW.out x (List.mem_of_getElem? hg)
      have htk : l.take (k + 1) = l.take k ++ [x] := by rw [List.take_add_one, hg]; rfl
      have HJ := Lib.hid hJ
      have HT := Lib.hid (And.intro htk (And.intro hD hat))
      have HO := Lib.hid (And.intro (hown.alloc (.cells #[.int .i64 x.id, .int .i64 x.us, .int .i64 x.cl, .int .i64 x.x.a, .int .i64 x.x.b, .int .i64 x.x.c, .bool x.x.p, .bool x.x.q, .bool x.x.r, .bool x.x.tn, .int .i64 x.wa, .int .i64 x.pr, .bool x.he, .slice Y x.af.length c, .int .u8 x.st, .int .i64 x.ca] 33)) hwx)
      clear hg hJ hY hown hD hat hwx htk
      go_wp2_with (first | (refine wpList_load_mid rfl 33 _ rfl _ _ rfl _ _ HJ.out.range Try.underlying33 rfl (by kernel_rfl) ?_) | (at_mapUpdate; refine wpList_mapUpdate_own _ rfl _ _ _ 94 rfl 3 5 law Try.underlying94 _ w.heap.size k D rfl HO.out.1 (by unfold maxLen; omega) _ _ _ rfl rfl (keyOf_int_mk Try.underlying3 HO.out.2.1) _ [] (plainElem_int Try.underlying5 HO.out.2.2) ?_; intro w1 hown1 hgrow1; have H1 := Lib.hid (And.intro hown1 hgrow1); clear hown1 hgrow1))
      go_roundw
      case rel => exact ⟨k + 1, by omega, by go_num, by rw [HT.out.1, stOf_snoc]; exact StAt.put (w := w1) HT.out.2.1 HT.out.2.2 H1.out.1, (below_alloc hB.out).grown H1.out.2 (below_alloc (o := .cells #[.int .i64 x.id, .int .i64 x.us, .int .i64 x.cl, .int .i64 x.x.a, .int .i64 x.x.b, .int .i64 x.x.c, .bool x.x.p, .bool x.x.q, .bool x.x.r, .bool x.x.tn, .int .i64 x.wa, .int .i64 x.pr, .bool x.he, .slice Y x.af.length c, .int .u8 x.st, .int .i64 x.ca] 33) hB.out).size (fun j hj => by cases hj; exact Nat.le_refl _)⟩
      case measure => simp [intOf]; omega
    · obtain rfl : k = l.length := by omega
      have hS2 := hS.out
      rw [List.take_length] at hS2
      have HS2 := Lib.hid hS2
      clear hS2
      go_wp2_with fail
      go_ret
      exact ⟨_, rfl, Nat.le_refl _, HS2.out, hB.out⟩
theorem ready_step (gm b : Nat) (f : Int → Int) (m : Nat) (n : Int) (hn : (Lit.int .i64 n).wf = true) (w : World) (cm : w.cell? ⟨gm, 0, none⟩ = some (.map (some b))) (hS : StAt w b f m) :
    Calls Try.prog 72 #[.int .i64 n, .pointer (some ⟨gm, 0, none⟩)] w fun e w' => e = .returned (.bool (f n != 3)) ∧ w' = w := by
  obtain ⟨D, hown, hD, hat⟩ := hS
  have hatn := hat n
  generalize f n = q at *
  have HO := Lib.hid (And.intro hown hatn)
  clear hown hD hat hatn
  go_enter Try.func72, Try.ntmps72
  go_wp2_with (at_lookup; refine wpList_lookup_own_int (H := Unit) _ rfl _ _ 94 rfl 3 5 .u8 law Try.underlying94 Try.underlying5 (zeroU _) b m D rfl HO.out.1 _ _ rfl (keyOf_int_mk Try.underlying3 hn) ?_; intro c hat hwc; (obtain rfl : c = q := by have := hat.symm.trans HO.out.2; simpa using this); clear hat hwc)
  go_ret
  exact ⟨rfl, rfl⟩
theorem settle_step (gm b : Nat) (f : Int → Int) (m : Nat) (n : Int) (hn : (Lit.int .i64 n).wf = true) (w : World) (cm : w.cell? ⟨gm, 0, none⟩ = some (.map (some b))) (hS : StAt w b f m) :
    Calls Try.prog 75 #[.int .i64 n, .pointer (some ⟨gm, 0, none⟩)] w fun e w' => e = .returned (.bool (decide (3 < f n))) ∧ w' = w := by
  obtain ⟨D, hown, hD, hat⟩ := hS
  have hatn := hat n
  generalize f n = q at *
  have HO := Lib.hid (And.intro hown hatn)
  clear hown hD hat hatn
  go_enter Try.func75, Try.ntmps75
  go_wp2_with (at_lookup; refine wpList_lookup_own_int (H := Unit) _ rfl _ _ 94 rfl 3 5 .u8 law Try.underlying94 Try.underlying5 (zeroU _) b m D rfl HO.out.1 _ _ rfl (keyOf_int_mk Try.underlying3 hn) ?_; intro c hat hwc; (obtain rfl : c = q := by have := hat.symm.trans HO.out.2; simpa using this); clear hat hwc)
  go_ret
  exact ⟨rfl, rfl⟩
end Go.Proofs.Ytfpljpdjohmbaaa.DepsStates
