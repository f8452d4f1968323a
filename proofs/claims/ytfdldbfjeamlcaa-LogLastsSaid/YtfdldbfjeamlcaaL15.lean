/- Several texts joined: rec.Read. -/
import Derived.Deep.DeepCutAuto
import Derived.Defers
import Derived.Recover
import Derived.Laws.Pointers
import Derived.Laws.Rows
import Derived.Test.YtfdldbfjeamlcaaG14
import Derived.Test.YtfdldbfjeamlcaaG13
import Derived.BigQuiet
import Derived.Test.YtfdldbfjeamlcaaG4
import Derived.RangeFuncNested
import Derived.RangeFuncBound
import Derived.RangeFuncCalls
import Derived.RangeFuncLeaves
import Derived.Shelf.Abstract
import Derived.Shelf.RegionOpen
import Derived.WalkKit
import Derived.OwnWalkIn
import Derived.TacticsInMore
import Derived.LoopNIn
import Derived.LoopIn
import Derived.Test.YtfdldbfjeamlcaaG1
import Derived.Below
import Derived.Test.YtfdldbfjeamlcaaRows
import Derived.Outline
import Derived.IntWalk
import Derived.Lib.Hide
import Derived.Laws.BitsAllLaws
import Derived.Laws.BitsLemmas
import Derived.Lib.SlBytesConst
import Derived.Deep.QuietTactic
import Derived.Lib.QuietBelow
/-! rec.Read. -/
namespace Go.Proofs.Ytfdldbfjeamlcaa.RecRead
open Go.RowKit Mem RecMem RecByte RecNum RecEach RecMath RecCod RecCods RecPort RecCommand RecCmdJ RecVal RecSame RecOwn RecRd RecRByte RecRNum RecREach RecRFlat RecRClass RecRL0 RecRListI RecRAsk RecRJob RecRList RecRListE RecRListP RecRListJ RecRState RecRCmd RecRRec
set_option linter.unusedVariables false
set_option linter.unusedSimpArgs false

/-- A record of nothing. -/
abbrev zA : Array Value := recA CV.z none 0
theorem FrR.sets {gp b : Nat} {w : World} : ∀ {vs : List Value} {w' : World} {i : Nat}, FrR gp b w w' → FrR gp b w (World.setCells w' gp i vs)
  | [], w', i, h => h
  | v :: vs, w', i, h => FrR.sets (vs := vs) (h.set_ (p := ⟨gp, i, none⟩) (.inl rfl) v)
set_option maxRecDepth 100000 in
set_option maxHeartbeats 1000000 in
theorem catch1 (g h : Nat) (cs : Array Value) (T2 : TypeId) (v1 : Value) (older : List PanicEntry) (w : World) (hg : Blk w g 51 cs) (hcs : cs.size = 45) (hh : Blk w h T2 #[v1]) (hne : g ≠ h) :
    CallsD Try.prog 51 #[.pointer (some ⟨g, 0, none⟩), .pointer (some ⟨h, 0, none⟩)] (.panicking ({ v := .iface 115 (.agg #[]), recovered := false } :: older)) w fun e u' w' =>
      e = .returned (.tuple #[]) ∧ u' = .panicking ({ v := .iface 115 (.agg #[]), recovered := true } :: older) ∧ Blk w' g 51 zA ∧ Blk w' h T2 #[.int .i64 8] ∧ FrR g h w w' := by
  refine callsD_of_wpS Try.func51 rfl fun c₀ cs₀ hu => ?_
  apply wpS_seq
  apply wpS_region
  simp [wpOpsS, go_sem, recoverD, hu, Try.ntmps51, Exit.thenS]
  refine wpS_of_wp ?_
  have hta : ∀ W : World, (Instr.typeAssert (.iface 115 (.agg #[])) 20 115 true).run Try.prog W = .ok (.tuple #[.agg #[], .bool true]) W := fun W => by kernel_rfl
  change Code.wp Try.prog _ _ ⟨#[.pointer (some ⟨g, 0, none⟩), .pointer (some ⟨h, 0, none⟩), .iface 115 (.agg #[]), undef, undef, .iface 115 (.agg #[]), undef, undef, undef, undef, undef, undef, undef, undef, undef, undef, undef], []⟩ w
  go_upto_region 5 with fail
  have kg := hg.alloc (.cells #[] 115)
  have kh := hh.alloc (.cells #[] 115)
  have kf := (FrR.refl g h w).alloc (.cells #[] 115)
  clear hg hh hta
  generalize w.alloc (.cells #[] 115) = W0 at *
  have k1 : Blk (World.setCells W0 g 0 [.int .i64 0, .int .i64 0, .int .i64 0, .int .i64 0, .int .i64 0, .int .i64 0, .int .i64 0, .int .i64 0, .slice none 0 0, .int .i64 0, .int .i64 0, .slice none 0 0, .slice none 0 0, .slice none 0 0, .slice none 0 0, .slice none 0 0, .slice none 0 0, .int .u8 0, .int .i64 0, .int .i64 0, .int .i64 0, .int .i64 0, .int .i64 0, .int .i64 0, .bool false, .bool false, .bool false, .bool false, .int .i64 0, .int .i64 0, .bool false, .slice none 0 0, .int .u8 0, .int .i64 0, .int .i64 0, .int .i64 0, .int .i64 0, .int .i64 0, .int .i64 0, .int .i64 0, .int .i64 0, .int .i64 0, .int .i64 0, .int .i64 0, .bool false]) g 51 (List.toArray [.int .i64 0, .int .i64 0, .int .i64 0, .int .i64 0, .int .i64 0, .int .i64 0, .int .i64 0, .int .i64 0, .slice none 0 0, .int .i64 0, .int .i64 0, .slice none 0 0, .slice none 0 0, .slice none 0 0, .slice none 0 0, .slice none 0 0, .slice none 0 0, .int .u8 0, .int .i64 0, .int .i64 0, .int .i64 0, .int .i64 0, .int .i64 0, .int .i64 0, .bool false, .bool false, .bool false, .bool false, .int .i64 0, .int .i64 0, .bool false, .slice none 0 0, .int .u8 0, .int .i64 0, .int .i64 0, .int .i64 0, .int .i64 0, .int .i64 0, .int .i64 0, .int .i64 0, .int .i64 0, .int .i64 0, .int .i64 0, .int .i64 0, .bool false]) := blk_all kg (setA_full (by rw [hcs]; rfl))
  have k2 : Blk (World.setCells W0 g 0 [.int .i64 0, .int .i64 0, .int .i64 0, .int .i64 0, .int .i64 0, .int .i64 0, .int .i64 0, .int .i64 0, .slice none 0 0, .int .i64 0, .int .i64 0, .slice none 0 0, .slice none 0 0, .slice none 0 0, .slice none 0 0, .slice none 0 0, .slice none 0 0, .int .u8 0, .int .i64 0, .int .i64 0, .int .i64 0, .int .i64 0, .int .i64 0, .int .i64 0, .bool false, .bool false, .bool false, .bool false, .int .i64 0, .int .i64 0, .bool false, .slice none 0 0, .int .u8 0, .int .i64 0, .int .i64 0, .int .i64 0, .int .i64 0, .int .i64 0, .int .i64 0, .int .i64 0, .int .i64 0, .int .i64 0, .int .i64 0, .int .i64 0, .bool false]) h T2 #[v1] := blk_sets_far hne.symm kh
  have k3 : FrR g h w (World.setCells W0 g 0 [.int .i64 0, .int .i64 0, .int .i64 0, .int .i64 0, .int .i64 0, .int .i64 0, .int .i64 0, .int .i64 0, .slice none 0 0, .int .i64 0, .int .i64 0, .slice none 0 0, .slice none 0 0, .slice none 0 0, .slice none 0 0, .slice none 0 0, .slice none 0 0, .int .u8 0, .int .i64 0, .int .i64 0, .int .i64 0, .int .i64 0, .int .i64 0, .int .i64 0, .bool false, .bool false, .bool false, .bool false, .int .i64 0, .int .i64 0, .bool false, .slice none 0 0, .int .u8 0, .int .i64 0, .int .i64 0, .int .i64 0, .int .i64 0, .int .i64 0, .int .i64 0, .int .i64 0, .int .i64 0, .int .i64 0, .int .i64 0, .int .i64 0, .bool false]) := FrR.sets kf
  go_wp2_with (first | (refine wpList_store_mid rfl 51 _ _ rfl g 0 (List.toArray [.int .i64 0, .int .i64 0, .int .i64 0, .int .i64 0, .int .i64 0, .int .i64 0, .int .i64 0, .int .i64 0, .slice none 0 0, .int .i64 0, .int .i64 0, .slice none 0 0, .slice none 0 0, .slice none 0 0, .slice none 0 0, .slice none 0 0, .slice none 0 0, .int .u8 0, .int .i64 0, .int .i64 0, .int .i64 0, .int .i64 0, .int .i64 0, .int .i64 0, .bool false, .bool false, .bool false, .bool false, .int .i64 0, .int .i64 0, .bool false, .slice none 0 0, .int .u8 0, .int .i64 0, .int .i64 0, .int .i64 0, .int .i64 0, .int .i64 0, .int .i64 0, .int .i64 0, .int .i64 0, .int .i64 0, .int .i64 0, .int .i64 0, .bool false]) rfl rfl (there_of kg (by rw [hcs]; exact Nat.le_of_ble_eq_true rfl)) (by kernel_rfl) (by kernel_rfl) ?_; simp only [List.toList_toArray]; generalize World.setCells _ _ _ _ = W3 at *; have ch : W3.cell? ⟨h, 0, none⟩ = some v1 := k2.cell 0; have fh := k2.frozen 0; have hK := Lib.hid (And.intro k1 (And.intro k2 k3)); clear k1 k2 k3 kg kh kf; (try simp only [Act.put])))
  exact ⟨rfl, _, rfl, _, results_none rfl _ _ _, rfl, rfl, hK.out.1.far (p := ⟨h, 0, none⟩) hne _, hK.out.2.1.set_ 0 _, hK.out.2.2.set_ (p := ⟨h, 0, none⟩) (.inr (.inl rfl)) _⟩
set_option maxRecDepth 100000 in
set_option maxHeartbeats 1000000 in
theorem catch0 (g h : Nat) (w : World) :
    CallsD Try.prog 51 #[.pointer (some ⟨g, 0, none⟩), .pointer (some ⟨h, 0, none⟩)] .returning w fun e u' w' => e = .returned (.tuple #[]) ∧ u' = .returning ∧ w' = w := by
  refine callsD_of_wpS Try.func51 rfl fun c₀ cs₀ hu => ?_
  apply wpS_seq
  apply wpS_region
  simp [wpOpsS, go_sem, recoverD, hu, Try.ntmps51, Exit.thenS]
  refine wpS_of_wp ?_
  change Code.wp Try.prog _ _ ⟨#[.pointer (some ⟨g, 0, none⟩), .pointer (some ⟨h, 0, none⟩), .nilIface, undef, undef, .nilIface, undef, undef, undef, undef, undef, undef, undef, undef, undef, undef, undef], []⟩ w
  go_wp2_with fail
  refine ⟨rfl, .returning, ?_, _, results_none rfl _ _ _, rfl, rfl, rfl⟩
  cases c₀
  simp only at hu
  subst hu
  rfl
theorem loadVar_int {P : Program} {w : World} {ty : TypeId} {k : IntKind} {a : Addr} {v : Value} (hu : P.underlying ty = some (.int k)) (hc : w.cell? a = some v) : (loadVar ty a).run P w = .ok v w := by
  simp [loadVar, isAgg, run_underlying hu, go_sem, hc]
theorem results_two {P : Program} {fn : Func} {p q : Tmp} {ty ty2 : TypeId} {k : IntKind} (h : fn.results = #[.cell p ty, .cell q ty2]) (tmps : Array Value) (w : World) (g g2 : Nat) (t : TypeId) (cs : Array Value) (fr : Nat × Nat) (d : TypeDesc) (v : Value)
    (hp : tmps.getD p undef = .pointer (some ⟨g, 0, none⟩)) (hq : tmps.getD q undef = .pointer (some ⟨g2, 0, none⟩)) (hg : w.heap[g]? = some (.cells cs t fr)) (hc : w.cell? ⟨g2, 0, none⟩ = some v)
    (hu : P.underlying ty = some d) (hd : (match d with | .struct _ | .array _ _ => true | _ => false) = true) (hi : (P.info? ty).map (·.size) = some cs.size) (hu2 : P.underlying ty2 = some (.int k)) :
    (results fn tmps).run P w = .ok (.tuple #[.agg cs, v]) w := by
  have hp' : tmps[p]?.getD undef = .pointer (some ⟨g, 0, none⟩) := by simpa using hp
  have hq' : tmps[q]?.getD undef = .pointer (some ⟨g2, 0, none⟩) := by simpa using hq
  simp [results, h, hp', hq', asAddr, run_loadVar_row w g t ty cs fr d hg hu hd hi, loadVar_int hu2 hc]
/-- A text that lies in memory. -/
def TxtAt (w : World) (X : Option Addr) (t : Bs) : Prop := ∀ i x, t[i]? = some x → ∃ tb o, X = some ⟨tb, o, none⟩ ∧ tb < w.heap.size ∧ w.cell? ⟨tb, o + i, none⟩ = some (.int .u8 x)
theorem TxtAt.up {w w' : World} {X : Option Addr} {t : Bs} (h : TxtAt w X t) (hB : Below w.heap.size w w') : TxtAt w' X t := fun i x hi => by
  obtain ⟨tb, o, e, h1, h2⟩ := h i x hi
  exact ⟨tb, o, e, Nat.lt_of_lt_of_le h1 hB.size, keep_cell h2 hB⟩
/-- What Read answers. -/
def readV (t : Bs) : RV × Int :=
  if 65536 < t.length then (RV.z, 4) else match recDec t with
    | some (r, []) => (r, 0)
    | _ => (RV.z, 8)
theorem readV_long {t : Bs} (h : 65536 < t.length) : readV t = (RV.z, 4) := by unfold readV; rw [if_pos h]
theorem readV_none {t : Bs} (h : ¬ 65536 < t.length) (hd : recDec t = none) : readV t = (RV.z, 8) := by unfold readV; rw [if_neg h, hd]
theorem readV_more {t u : Bs} {r : RV} {x : Int} (h : ¬ 65536 < t.length) (hd : recDec t = some (r, x :: u)) : readV t = (RV.z, 8) := by unfold readV; rw [if_neg h, hd]
theorem readV_ok {t : Bs} {r : RV} (h : ¬ 65536 < t.length) (hd : recDec t = some (r, [])) : readV t = (r, 0) := by unfold readV; rw [if_neg h, hd]
/-- Cells that are one word each. -/
def One {α : Type} (R : Rep α) : Prop := ∀ (w : World) (F : Nat) (x : α) (vs : List Value), R.At w F x vs → ∀ u ∈ vs, u.oneCell' = true
theorem one_flat {α : Type} {n : Nat} {L : α → List Value} {h : ∀ x, (L x).length = n} (hL : ∀ x, ∀ u ∈ L x, u.oneCell' = true) : One (flatR n L h) := fun w F x vs e => by
  have e2 : vs = L x := e
  subst e2
  exact hL x
theorem one_pair {α β : Type} {R : Rep α} {S : Rep β} (h : One R) (k : One S) : One (R.pair S) := by
  rintro w F x vs ⟨a, b, rfl, h1, h2⟩ u hu
  rcases List.mem_append.1 hu with e | e
  · exact h _ _ _ _ h1 u e
  · exact k _ _ _ _ h2 u e
theorem one_iso {α β : Type} {R : Rep α} {g : β → α} (h : One R) : One (R.iso g) := fun w F x vs h1 => h w F (g x) vs h1
theorem one_list {α : Type} {R : Rep α} {e : TypeId} : One (listR R e) := by
  rintro w F l vs ⟨V, c, xs, rfl, _⟩ u hu
  simp at hu
  subst hu
  rfl
theorem one_num : One numR := one_flat fun x u hu => by simp at hu; subst hu; rfl
theorem one_state : One stateR := one_iso (one_pair (one_pair (one_pair (one_pair (one_pair (one_pair (one_pair (one_pair (one_pair (one_pair (one_pair (one_pair (one_pair (one_flat fun x u hu => by simp at hu; rcases hu with rfl | rfl | rfl <;> rfl) one_num) one_num) one_num) one_num) one_list) one_num) one_num) one_list) one_list) one_list) one_list) one_list) one_list)
theorem one_cmd : One cmdR := by
  rintro w F c vs ⟨Y, cy, rfl, _⟩ u hu
  simp only [List.mem_cons, List.not_mem_nil, or_false] at hu
  rcases hu with rfl | rfl | rfl | rfl | rfl | rfl | rfl | rfl | rfl | rfl | rfl | rfl | rfl | rfl | rfl | rfl | rfl | rfl | rfl | rfl | rfl | rfl | rfl | rfl | rfl | rfl | rfl | rfl <;> rfl
theorem one_rec : One recR := by
  rintro w F r vs ⟨s, c, rfl, h1, h2⟩ u hu
  rcases List.mem_append.1 hu with e | e
  · simp at e; subst e; rfl
  · rcases List.mem_append.1 e with e | e
    · exact one_state _ _ _ _ h1 u e
    · exact one_cmd _ _ _ _ h2 u e
def RdPost (t : Bs) (w : World) (e : Ending) (w' : World) : Prop := ∃ vs : List Value, e = .returned (.tuple #[.agg vs.toArray, .int .i64 (readV t).2]) ∧ recR.At w' w.heap.size (readV t).1 vs ∧ Below w.heap.size w w'
theorem recR_nil {w : World} {F : Nat} : recR.At w F RV.z zA.toList := ⟨[.int .i64 0, .int .i64 0, .int .i64 0, .int .i64 0, .int .i64 0, .int .i64 0, .int .i64 0, .slice none 0 0, .int .i64 0, .int .i64 0, .slice none 0 0, .slice none 0 0, .slice none 0 0, .slice none 0 0, .slice none 0 0, .slice none 0 0], [.int .u8 0, .int .i64 0, .int .i64 0, .int .i64 0, .int .i64 0, .int .i64 0, .int .i64 0, .bool false, .bool false, .bool false, .bool false, .int .i64 0, .int .i64 0, .bool false, .slice none 0 0, .int .u8 0, .int .i64 0, .int .i64 0, .int .i64 0, .int .i64 0, .int .i64 0, .int .i64 0, .int .i64 0, .int .i64 0, .int .i64 0, .int .i64 0, .int .i64 0, .bool false], rfl, stateR_nil, cmdR_nil rfl⟩
set_option maxRecDepth 100000 in
set_option maxHeartbeats 3000000 in
theorem rread (X : Option Addr) (t : Bs) (c : Nat) (w : World) (hX : TxtAt w X t) (ho : Oct t) (hc : t.length ≤ c) (hm : c ≤ maxLen) :
    Calls Try.prog 19 #[.slice X t.length c] w fun e w' => RdPost t w e w' := by
  have HX := Lib.hid (And.intro hX (And.intro ho (And.intro hc hm)))
  have hm2 := hm
  simp only [maxLen] at hm2
  have hlm : t.length ≤ 9223372036854775807 := by omega
  clear hX ho hc hm hm2
  have hmf : ∀ (fn : Fn) (first cap : Array Value) (w : World), (Instr.makeFunc fn first cap).run Try.prog w = .ok (.func fn first cap) w := fun _ _ _ _ => rfl
  go_enter_defers Try.func19, Try.ntmps19
  go_upto_region 1 with fail
  have K0 := Lib.hid ((Blk.new w 51 (List.toArray [.int .i64 0, .int .i64 0, .int .i64 0, .int .i64 0, .int .i64 0, .int .i64 0, .int .i64 0, .int .i64 0, .slice none 0 0, .int .i64 0, .int .i64 0, .slice none 0 0, .slice none 0 0, .slice none 0 0, .slice none 0 0, .slice none 0 0, .slice none 0 0, .int .u8 0, .int .i64 0, .int .i64 0, .int .i64 0, .int .i64 0, .int .i64 0, .int .i64 0, .bool false, .bool false, .bool false, .bool false, .int .i64 0, .int .i64 0, .bool false, .slice none 0 0, .int .u8 0, .int .i64 0, .int .i64 0, .int .i64 0, .int .i64 0, .int .i64 0, .int .i64 0, .int .i64 0, .int .i64 0, .int .i64 0, .int .i64 0, .int .i64 0, .bool false])).alloc (.cells #[.int .i64 0] 38))
  have K1 := Lib.hid (blk1 w 38 #[.int .i64 0] (o := .cells (List.toArray [.int .i64 0, .int .i64 0, .int .i64 0, .int .i64 0, .int .i64 0, .int .i64 0, .int .i64 0, .int .i64 0, .slice none 0 0, .int .i64 0, .int .i64 0, .slice none 0 0, .slice none 0 0, .slice none 0 0, .slice none 0 0, .slice none 0 0, .slice none 0 0, .int .u8 0, .int .i64 0, .int .i64 0, .int .i64 0, .int .i64 0, .int .i64 0, .int .i64 0, .bool false, .bool false, .bool false, .bool false, .int .i64 0, .int .i64 0, .bool false, .slice none 0 0, .int .u8 0, .int .i64 0, .int .i64 0, .int .i64 0, .int .i64 0, .int .i64 0, .int .i64 0, .int .i64 0, .int .i64 0, .int .i64 0, .int .i64 0, .int .i64 0, .bool false]) 51))
  have HB := Lib.hid (below_alloc (o := .cells #[.int .i64 0] 38) (below_alloc (o := .cells (List.toArray [.int .i64 0, .int .i64 0, .int .i64 0, .int .i64 0, .int .i64 0, .int .i64 0, .int .i64 0, .int .i64 0, .slice none 0 0, .int .i64 0, .int .i64 0, .slice none 0 0, .slice none 0 0, .slice none 0 0, .slice none 0 0, .slice none 0 0, .slice none 0 0, .int .u8 0, .int .i64 0, .int .i64 0, .int .i64 0, .int .i64 0, .int .i64 0, .int .i64 0, .bool false, .bool false, .bool false, .bool false, .int .i64 0, .int .i64 0, .bool false, .slice none 0 0, .int .u8 0, .int .i64 0, .int .i64 0, .int .i64 0, .int .i64 0, .int .i64 0, .int .i64 0, .int .i64 0, .int .i64 0, .int .i64 0, .int .i64 0, .int .i64 0, .bool false]) 51) (Below.refl w.heap.size w)))
  have hsz : ((w.alloc (.cells (List.toArray [.int .i64 0, .int .i64 0, .int .i64 0, .int .i64 0, .int .i64 0, .int .i64 0, .int .i64 0, .int .i64 0, .slice none 0 0, .int .i64 0, .int .i64 0, .slice none 0 0, .slice none 0 0, .slice none 0 0, .slice none 0 0, .slice none 0 0, .slice none 0 0, .int .u8 0, .int .i64 0, .int .i64 0, .int .i64 0, .int .i64 0, .int .i64 0, .int .i64 0, .bool false, .bool false, .bool false, .bool false, .int .i64 0, .int .i64 0, .bool false, .slice none 0 0, .int .u8 0, .int .i64 0, .int .i64 0, .int .i64 0, .int .i64 0, .int .i64 0, .int .i64 0, .int .i64 0, .int .i64 0, .int .i64 0, .int .i64 0, .int .i64 0, .bool false]) 51)).alloc (.cells #[.int .i64 0] 38)).heap.size = w.heap.size + 2 := by simp
  generalize (w.alloc (.cells (List.toArray [.int .i64 0, .int .i64 0, .int .i64 0, .int .i64 0, .int .i64 0, .int .i64 0, .int .i64 0, .int .i64 0, .slice none 0 0, .int .i64 0, .int .i64 0, .slice none 0 0, .slice none 0 0, .slice none 0 0, .slice none 0 0, .slice none 0 0, .slice none 0 0, .int .u8 0, .int .i64 0, .int .i64 0, .int .i64 0, .int .i64 0, .int .i64 0, .int .i64 0, .bool false, .bool false, .bool false, .bool false, .int .i64 0, .int .i64 0, .bool false, .slice none 0 0, .int .u8 0, .int .i64 0, .int .i64 0, .int .i64 0, .int .i64 0, .int .i64 0, .int .i64 0, .int .i64 0, .int .i64 0, .int .i64 0, .int .i64 0, .int .i64 0, .bool false]) 51)).alloc (.cells #[.int .i64 0] 38) = W0 at *
  have HSZ := Lib.hid hsz
  clear hsz
  by_cases hlen : 65536 < t.length
  · have hl2 : (65536 : Int) < (t.length : Int) := by omega
    have HL := Lib.hid hlen
    clear hlen
    have HR := Lib.hid (show W0.rangeAt w.heap.size 0 [.int .i64 0, .int .i64 0, .int .i64 0, .int .i64 0, .int .i64 0, .int .i64 0, .int .i64 0, .int .i64 0, .slice none 0 0, .int .i64 0, .int .i64 0, .slice none 0 0, .slice none 0 0, .slice none 0 0, .slice none 0 0, .slice none 0 0, .slice none 0 0, .int .u8 0, .int .i64 0, .int .i64 0, .int .i64 0, .int .i64 0, .int .i64 0, .int .i64 0, .bool false, .bool false, .bool false, .bool false, .int .i64 0, .int .i64 0, .bool false, .slice none 0 0, .int .u8 0, .int .i64 0, .int .i64 0, .int .i64 0, .int .i64 0, .int .i64 0, .int .i64 0, .int .i64 0, .int .i64 0, .int .i64 0, .int .i64 0, .int .i64 0, .bool false] from range_part (n := 45) K0.out rfl)
    have k1 : Blk (World.setCells W0 w.heap.size 0 [.int .i64 0, .int .i64 0, .int .i64 0, .int .i64 0, .int .i64 0, .int .i64 0, .int .i64 0, .int .i64 0, .slice none 0 0, .int .i64 0, .int .i64 0, .slice none 0 0, .slice none 0 0, .slice none 0 0, .slice none 0 0, .slice none 0 0, .slice none 0 0, .int .u8 0, .int .i64 0, .int .i64 0, .int .i64 0, .int .i64 0, .int .i64 0, .int .i64 0, .bool false, .bool false, .bool false, .bool false, .int .i64 0, .int .i64 0, .bool false, .slice none 0 0, .int .u8 0, .int .i64 0, .int .i64 0, .int .i64 0, .int .i64 0, .int .i64 0, .int .i64 0, .int .i64 0, .int .i64 0, .int .i64 0, .int .i64 0, .int .i64 0, .bool false]) w.heap.size 51 (List.toArray [.int .i64 0, .int .i64 0, .int .i64 0, .int .i64 0, .int .i64 0, .int .i64 0, .int .i64 0, .int .i64 0, .slice none 0 0, .int .i64 0, .int .i64 0, .slice none 0 0, .slice none 0 0, .slice none 0 0, .slice none 0 0, .slice none 0 0, .slice none 0 0, .int .u8 0, .int .i64 0, .int .i64 0, .int .i64 0, .int .i64 0, .int .i64 0, .int .i64 0, .bool false, .bool false, .bool false, .bool false, .int .i64 0, .int .i64 0, .bool false, .slice none 0 0, .int .u8 0, .int .i64 0, .int .i64 0, .int .i64 0, .int .i64 0, .int .i64 0, .int .i64 0, .int .i64 0, .int .i64 0, .int .i64 0, .int .i64 0, .int .i64 0, .bool false]) := blk_all K0.out (setA_full rfl)
    have k2 : Blk (World.setCells W0 w.heap.size 0 [.int .i64 0, .int .i64 0, .int .i64 0, .int .i64 0, .int .i64 0, .int .i64 0, .int .i64 0, .int .i64 0, .slice none 0 0, .int .i64 0, .int .i64 0, .slice none 0 0, .slice none 0 0, .slice none 0 0, .slice none 0 0, .slice none 0 0, .slice none 0 0, .int .u8 0, .int .i64 0, .int .i64 0, .int .i64 0, .int .i64 0, .int .i64 0, .int .i64 0, .bool false, .bool false, .bool false, .bool false, .int .i64 0, .int .i64 0, .bool false, .slice none 0 0, .int .u8 0, .int .i64 0, .int .i64 0, .int .i64 0, .int .i64 0, .int .i64 0, .int .i64 0, .int .i64 0, .int .i64 0, .int .i64 0, .int .i64 0, .int .i64 0, .bool false]) (w.heap.size + 1) 38 #[.int .i64 0] := blk_sets_far (by omega) K1.out
    have k3 : Below w.heap.size w (World.setCells W0 w.heap.size 0 [.int .i64 0, .int .i64 0, .int .i64 0, .int .i64 0, .int .i64 0, .int .i64 0, .int .i64 0, .int .i64 0, .slice none 0 0, .int .i64 0, .int .i64 0, .slice none 0 0, .slice none 0 0, .slice none 0 0, .slice none 0 0, .slice none 0 0, .slice none 0 0, .int .u8 0, .int .i64 0, .int .i64 0, .int .i64 0, .int .i64 0, .int .i64 0, .int .i64 0, .bool false, .bool false, .bool false, .bool false, .int .i64 0, .int .i64 0, .bool false, .slice none 0 0, .int .u8 0, .int .i64 0, .int .i64 0, .int .i64 0, .int .i64 0, .int .i64 0, .int .i64 0, .int .i64 0, .int .i64 0, .int .i64 0, .int .i64 0, .int .i64 0, .bool false]) := below_sets (Nat.le_refl _) HB.out
    go_wp2_with (first | (refine wpList_load_mid rfl 51 _ rfl _ _ rfl _ _ HR.out Try.underlying51 rfl (by kernel_rfl) ?_) | (refine wpList_store_mid rfl 51 _ _ rfl w.heap.size 0 (List.toArray [.int .i64 0, .int .i64 0, .int .i64 0, .int .i64 0, .int .i64 0, .int .i64 0, .int .i64 0, .int .i64 0, .slice none 0 0, .int .i64 0, .int .i64 0, .slice none 0 0, .slice none 0 0, .slice none 0 0, .slice none 0 0, .slice none 0 0, .slice none 0 0, .int .u8 0, .int .i64 0, .int .i64 0, .int .i64 0, .int .i64 0, .int .i64 0, .int .i64 0, .bool false, .bool false, .bool false, .bool false, .int .i64 0, .int .i64 0, .bool false, .slice none 0 0, .int .u8 0, .int .i64 0, .int .i64 0, .int .i64 0, .int .i64 0, .int .i64 0, .int .i64 0, .int .i64 0, .int .i64 0, .int .i64 0, .int .i64 0, .int .i64 0, .bool false]) rfl rfl (there_of K0.out (Nat.le_of_ble_eq_true rfl)) (by kernel_rfl) (by kernel_rfl) ?_; simp only [List.toList_toArray]; generalize World.setCells _ _ _ _ = W3 at *; have ch : W3.cell? ⟨w.heap.size + 1, 0, none⟩ = some (.int .i64 0) := k2.cell 0; have fh := k2.frozen 0; have hK := Lib.hid (And.intro k1 (And.intro k2 k3)); clear k1 k2 k3; (try simp only [Act.put])))
    have h3 := hK.out
    refine ⟨_, results_two rfl _ _ w.heap.size (w.heap.size + 1) 51 zA (0, 0) _ (.int .i64 4) rfl rfl (h3.1.far (p := ⟨w.heap.size + 1, 0, none⟩) (by simp) _) ((h3.2.1.set_ 0 (.int .i64 4)).cell 0) Try.underlying51 rfl (by kernel_rfl) Try.underlying38, zA.toList, ?_, ?_, ?_⟩
    · rw [readV_long HL.out]
    · rw [readV_long HL.out]; exact recR_nil
    · exact h3.2.2.setCell (by simp) _
  · have hl2 : (t.length : Int) ≤ 65536 := by omega
    have HL := Lib.hid hlen
    clear hlen
    have hp : PR w.heap.size (W0.alloc (.cells #[.slice X t.length c, .bool true, .bool false] PT)) W0.heap.size X t c false := ⟨Blk.new _ _ _, HX.out.2.2.1, HX.out.2.2.2, HX.out.2.1, by have := HSZ.out; omega, fun i x hi => by
      obtain ⟨tb, o, e, h1, h2⟩ := HX.out.1 i x hi
      exact ⟨tb, o, e, h1, cell_over _ (keep_cell h2 HB.out)⟩⟩
    have HC := Lib.hid (rrecord w.heap.size W0.heap.size X t c w.heap.size 0 51 (List.toArray [.int .i64 0, .int .i64 0, .int .i64 0, .int .i64 0, .int .i64 0, .int .i64 0, .int .i64 0, .int .i64 0, .slice none 0 0, .int .i64 0, .int .i64 0, .slice none 0 0, .slice none 0 0, .slice none 0 0, .slice none 0 0, .slice none 0 0, .slice none 0 0, .int .u8 0, .int .i64 0, .int .i64 0, .int .i64 0, .int .i64 0, .int .i64 0, .int .i64 0, .bool false, .bool false, .bool false, .bool false, .int .i64 0, .int .i64 0, .bool false, .slice none 0 0, .int .u8 0, .int .i64 0, .int .i64 0, .int .i64 0, .int .i64 0, .int .i64 0, .int .i64 0, .int .i64 0, .int .i64 0, .int .i64 0, .int .i64 0, .int .i64 0, .bool false]) _ hp (K0.out.alloc _) (fun i v hi => by simpa using hi) (Nat.le_refl _) (by have := HSZ.out; omega))
    clear hp
    go_wp2_with fail
    refine HC.out.mono ?_
    rintro e w2 (⟨rfl, hd, hf⟩ | ⟨⟨r2, rfl⟩, X2, c2, t2, od2, x, vs, hP, hK, hM⟩)
    · obtain ⟨cs', he', hk'⟩ := hf.shape _ _ _ (K0.out.alloc (.cells #[.slice X t.length c, .bool true, .bool false] PT))
      have HD := Lib.hid (And.intro (readV_none HL.out (hd rfl)) (And.intro hk' (And.intro (hf.blk (K1.out.alloc (.cells #[.slice X t.length c, .bool true, .bool false] PT)) (by have := HSZ.out; omega) (by omega)) (And.intro ((below_alloc (o := .cells #[.slice X t.length c, .bool true, .bool false] PT) HB.out).trans (hf.below (by have := HSZ.out; omega) (Nat.le_refl _) (by have := HSZ.out; simp; omega))) he'))))
      clear hd hf HC hk'
      go_wp2_with fail
      refine leaves_cons (f := 51) (args := #[.pointer (some ⟨w.heap.size, 0, none⟩), .pointer (some ⟨w.heap.size + 1, 0, none⟩)]) (by simp) (by simp [go_sem]) ?_
      refine (catch1 w.heap.size (w.heap.size + 1) cs' 38 (.int .i64 0) [] _ HD.out.2.1 HD.out.2.2.2.2 HD.out.2.2.1 (by omega)).mono ?_
      rintro e u' w3 ⟨rfl, rfl, k1, k2, k3⟩
      change Leaves Try.prog _ _ _ [] .returning w3
      refine ⟨_, results_two rfl _ _ w.heap.size (w.heap.size + 1) 51 zA (0, 0) _ (.int .i64 8) rfl rfl k1 (Blk.cell k2 0) Try.underlying51 rfl (by kernel_rfl) Try.underlying38, zA.toList, ?_, ?_, ?_⟩
      · rw [HD.out.1]
      · rw [HD.out.1]; exact recR_nil
      · exact HD.out.2.2.2.1.trans (k3.below (Nat.le_refl _) (by omega) HD.out.2.2.2.1.size)
    · have hP0 := hP
      have hl := recR.len hM.at_
      rw [setA_full (by rw [hl]; rfl)] at hK
      have kh : Blk w2 (w.heap.size + 1) 38 #[.int .i64 0] := hM.fr.blk (K1.out.alloc (.cells #[.slice X t.length c, .bool true, .bool false] PT)) (by have := HSZ.out; omega) (by omega)
      have hB2 : Below w.heap.size w w2 := (below_alloc (o := .cells #[.slice X t.length c, .bool true, .bool false] PT) HB.out).trans (hM.fr.below (by have := HSZ.out; omega) (Nat.le_refl _) (by have := HSZ.out; simp; omega))
      have p2 : w2.cell? ⟨W0.heap.size, 2, none⟩ = some (.bool od2) := hP.blk.cell 2
      have p0 : w2.cell? ⟨W0.heap.size, 0, none⟩ = some (.slice X2 t2.length c2) := hP.blk.cell 0
      have HO := Lib.hid (one_rec _ _ _ _ hM.at_)
      have HVS := Lib.hid (show (List.toArray vs).size = 45 from (by rw [List.size_toArray]; exact hl))
      have HM := Lib.hid (And.intro hM (And.intro hK (And.intro kh (And.intro hB2 hl))))
      clear hP hP0 hK hM kh hB2 HC hl
      -- where the answer is an error
      have bad : ∀ (hr : readV t = (RV.z, 8)) (W : World), Blk W w.heap.size 51 zA → Blk W (w.heap.size + 1) 38 #[.int .i64 8] → Below w.heap.size w W → ∀ tm : Array Value, tm.getD 2 undef = .pointer (some ⟨w.heap.size, 0, none⟩) → tm.getD 3 undef = .pointer (some ⟨w.heap.size + 1, 0, none⟩) → Leaves Try.prog Try.f19 tm (fun e w' => RdPost t w e w') [] .returning W := fun hr W h1 h2 h3 tm e1 e2 => by
        refine ⟨_, results_two rfl _ _ w.heap.size (w.heap.size + 1) 51 zA (0, 0) _ (.int .i64 8) e1 e2 h1 (Blk.cell h2 0) Try.underlying51 rfl (by kernel_rfl) Try.underlying38, zA.toList, ?_, ?_, h3⟩
        · rw [hr]
        · rw [hr]; exact recR_nil
      have BAD := Lib.hid bad
      clear bad
      have hcase : (od2 = true ∧ readV t = (RV.z, 8)) ∨ (od2 = false ∧ (∃ y u, t2 = y :: u) ∧ readV t = (RV.z, 8)) ∨ (od2 = false ∧ t2 = [] ∧ readV t = (x, 0)) := by
        cases od2 with
        | true => exact .inl ⟨rfl, readV_none HL.out (HM.out.1.bad rfl rfl)⟩
        | false =>
          have hdec := (HM.out.1.ok rfl).2
          cases t2 with
          | nil => exact .inr (.inr ⟨rfl, rfl, readV_ok HL.out hdec⟩)
          | cons y u => exact .inr (.inl ⟨rfl, ⟨y, u, rfl⟩, readV_more HL.out hdec⟩)
      rcases hcase with ⟨rfl, hr⟩ | ⟨rfl, ⟨y, u, rfl⟩, hr⟩ | ⟨rfl, rfl, hr⟩
      · have HR := Lib.hid (BAD.out hr)
        clear hr BAD p0
        have k1 : Blk (World.setCells w2 w.heap.size 0 [.int .i64 0, .int .i64 0, .int .i64 0, .int .i64 0, .int .i64 0, .int .i64 0, .int .i64 0, .int .i64 0, .slice none 0 0, .int .i64 0, .int .i64 0, .slice none 0 0, .slice none 0 0, .slice none 0 0, .slice none 0 0, .slice none 0 0, .slice none 0 0, .int .u8 0, .int .i64 0, .int .i64 0, .int .i64 0, .int .i64 0, .int .i64 0, .int .i64 0, .bool false, .bool false, .bool false, .bool false, .int .i64 0, .int .i64 0, .bool false, .slice none 0 0, .int .u8 0, .int .i64 0, .int .i64 0, .int .i64 0, .int .i64 0, .int .i64 0, .int .i64 0, .int .i64 0, .int .i64 0, .int .i64 0, .int .i64 0, .int .i64 0, .bool false]) w.heap.size 51 (List.toArray [.int .i64 0, .int .i64 0, .int .i64 0, .int .i64 0, .int .i64 0, .int .i64 0, .int .i64 0, .int .i64 0, .slice none 0 0, .int .i64 0, .int .i64 0, .slice none 0 0, .slice none 0 0, .slice none 0 0, .slice none 0 0, .slice none 0 0, .slice none 0 0, .int .u8 0, .int .i64 0, .int .i64 0, .int .i64 0, .int .i64 0, .int .i64 0, .int .i64 0, .bool false, .bool false, .bool false, .bool false, .int .i64 0, .int .i64 0, .bool false, .slice none 0 0, .int .u8 0, .int .i64 0, .int .i64 0, .int .i64 0, .int .i64 0, .int .i64 0, .int .i64 0, .int .i64 0, .int .i64 0, .int .i64 0, .int .i64 0, .int .i64 0, .bool false]) := blk_all HM.out.2.1 (setA_full (by rw [List.size_toArray, HM.out.2.2.2.2]; rfl))
        have k2 : Blk (World.setCells w2 w.heap.size 0 [.int .i64 0, .int .i64 0, .int .i64 0, .int .i64 0, .int .i64 0, .int .i64 0, .int .i64 0, .int .i64 0, .slice none 0 0, .int .i64 0, .int .i64 0, .slice none 0 0, .slice none 0 0, .slice none 0 0, .slice none 0 0, .slice none 0 0, .slice none 0 0, .int .u8 0, .int .i64 0, .int .i64 0, .int .i64 0, .int .i64 0, .int .i64 0, .int .i64 0, .bool false, .bool false, .bool false, .bool false, .int .i64 0, .int .i64 0, .bool false, .slice none 0 0, .int .u8 0, .int .i64 0, .int .i64 0, .int .i64 0, .int .i64 0, .int .i64 0, .int .i64 0, .int .i64 0, .int .i64 0, .int .i64 0, .int .i64 0, .int .i64 0, .bool false]) (w.heap.size + 1) 38 #[.int .i64 0] := blk_sets_far (by omega) HM.out.2.2.1
        have k3 : Below w.heap.size w (World.setCells w2 w.heap.size 0 [.int .i64 0, .int .i64 0, .int .i64 0, .int .i64 0, .int .i64 0, .int .i64 0, .int .i64 0, .int .i64 0, .slice none 0 0, .int .i64 0, .int .i64 0, .slice none 0 0, .slice none 0 0, .slice none 0 0, .slice none 0 0, .slice none 0 0, .slice none 0 0, .int .u8 0, .int .i64 0, .int .i64 0, .int .i64 0, .int .i64 0, .int .i64 0, .int .i64 0, .bool false, .bool false, .bool false, .bool false, .int .i64 0, .int .i64 0, .bool false, .slice none 0 0, .int .u8 0, .int .i64 0, .int .i64 0, .int .i64 0, .int .i64 0, .int .i64 0, .int .i64 0, .int .i64 0, .int .i64 0, .int .i64 0, .int .i64 0, .int .i64 0, .bool false]) := below_sets (Nat.le_refl _) HM.out.2.2.2.1
        go_upto_region 7 with fail
        go_wp2_with (first | (refine wpList_store_mid rfl 51 _ _ rfl w.heap.size 0 (List.toArray [.int .i64 0, .int .i64 0, .int .i64 0, .int .i64 0, .int .i64 0, .int .i64 0, .int .i64 0, .int .i64 0, .slice none 0 0, .int .i64 0, .int .i64 0, .slice none 0 0, .slice none 0 0, .slice none 0 0, .slice none 0 0, .slice none 0 0, .slice none 0 0, .int .u8 0, .int .i64 0, .int .i64 0, .int .i64 0, .int .i64 0, .int .i64 0, .int .i64 0, .bool false, .bool false, .bool false, .bool false, .int .i64 0, .int .i64 0, .bool false, .slice none 0 0, .int .u8 0, .int .i64 0, .int .i64 0, .int .i64 0, .int .i64 0, .int .i64 0, .int .i64 0, .int .i64 0, .int .i64 0, .int .i64 0, .int .i64 0, .int .i64 0, .bool false]) rfl rfl (there_of HM.out.2.1 (by rw [HVS.out]; exact Nat.le_of_ble_eq_true rfl)) (by kernel_rfl) (by kernel_rfl) ?_; simp only [List.toList_toArray]; generalize World.setCells _ _ _ _ = W3 at *; have ch : W3.cell? ⟨w.heap.size + 1, 0, none⟩ = some (.int .i64 0) := k2.cell 0; have fh := k2.frozen 0; have hK := Lib.hid (And.intro k1 (And.intro k2 k3)); clear k1 k2 k3; (try simp only [Act.put])))
        refine leaves_cons (f := 51) (args := #[.pointer (some ⟨w.heap.size, 0, none⟩), .pointer (some ⟨w.heap.size + 1, 0, none⟩)]) (by simp) (by simp [go_sem]) ?_
        refine (catch0 w.heap.size (w.heap.size + 1) _).mono ?_
        rintro e u' w3 ⟨rfl, rfl, rfl⟩
        exact HR.out _ (hK.out.1.far (p := ⟨w.heap.size + 1, 0, none⟩) (by simp) _) (hK.out.2.1.set_ 0 _) (hK.out.2.2.setCell (by simp) _) _ rfl rfl
      · have HR := Lib.hid (BAD.out hr)
        have p0' : w2.cell? ⟨W0.heap.size, 0, none⟩ = some (.slice X2 (u.length + 1) c2) := p0
        have hk0 : (0 : Int) < (u.length : Int) + 1 := by omega
        clear hr BAD p0
        have k1 : Blk (World.setCells w2 w.heap.size 0 [.int .i64 0, .int .i64 0, .int .i64 0, .int .i64 0, .int .i64 0, .int .i64 0, .int .i64 0, .int .i64 0, .slice none 0 0, .int .i64 0, .int .i64 0, .slice none 0 0, .slice none 0 0, .slice none 0 0, .slice none 0 0, .slice none 0 0, .slice none 0 0, .int .u8 0, .int .i64 0, .int .i64 0, .int .i64 0, .int .i64 0, .int .i64 0, .int .i64 0, .bool false, .bool false, .bool false, .bool false, .int .i64 0, .int .i64 0, .bool false, .slice none 0 0, .int .u8 0, .int .i64 0, .int .i64 0, .int .i64 0, .int .i64 0, .int .i64 0, .int .i64 0, .int .i64 0, .int .i64 0, .int .i64 0, .int .i64 0, .int .i64 0, .bool false]) w.heap.size 51 (List.toArray [.int .i64 0, .int .i64 0, .int .i64 0, .int .i64 0, .int .i64 0, .int .i64 0, .int .i64 0, .int .i64 0, .slice none 0 0, .int .i64 0, .int .i64 0, .slice none 0 0, .slice none 0 0, .slice none 0 0, .slice none 0 0, .slice none 0 0, .slice none 0 0, .int .u8 0, .int .i64 0, .int .i64 0, .int .i64 0, .int .i64 0, .int .i64 0, .int .i64 0, .bool false, .bool false, .bool false, .bool false, .int .i64 0, .int .i64 0, .bool false, .slice none 0 0, .int .u8 0, .int .i64 0, .int .i64 0, .int .i64 0, .int .i64 0, .int .i64 0, .int .i64 0, .int .i64 0, .int .i64 0, .int .i64 0, .int .i64 0, .int .i64 0, .bool false]) := blk_all HM.out.2.1 (setA_full (by rw [List.size_toArray, HM.out.2.2.2.2]; rfl))
        have k2 : Blk (World.setCells w2 w.heap.size 0 [.int .i64 0, .int .i64 0, .int .i64 0, .int .i64 0, .int .i64 0, .int .i64 0, .int .i64 0, .int .i64 0, .slice none 0 0, .int .i64 0, .int .i64 0, .slice none 0 0, .slice none 0 0, .slice none 0 0, .slice none 0 0, .slice none 0 0, .slice none 0 0, .int .u8 0, .int .i64 0, .int .i64 0, .int .i64 0, .int .i64 0, .int .i64 0, .int .i64 0, .bool false, .bool false, .bool false, .bool false, .int .i64 0, .int .i64 0, .bool false, .slice none 0 0, .int .u8 0, .int .i64 0, .int .i64 0, .int .i64 0, .int .i64 0, .int .i64 0, .int .i64 0, .int .i64 0, .int .i64 0, .int .i64 0, .int .i64 0, .int .i64 0, .bool false]) (w.heap.size + 1) 38 #[.int .i64 0] := blk_sets_far (by omega) HM.out.2.2.1
        have k3 : Below w.heap.size w (World.setCells w2 w.heap.size 0 [.int .i64 0, .int .i64 0, .int .i64 0, .int .i64 0, .int .i64 0, .int .i64 0, .int .i64 0, .int .i64 0, .slice none 0 0, .int .i64 0, .int .i64 0, .slice none 0 0, .slice none 0 0, .slice none 0 0, .slice none 0 0, .slice none 0 0, .slice none 0 0, .int .u8 0, .int .i64 0, .int .i64 0, .int .i64 0, .int .i64 0, .int .i64 0, .int .i64 0, .bool false, .bool false, .bool false, .bool false, .int .i64 0, .int .i64 0, .bool false, .slice none 0 0, .int .u8 0, .int .i64 0, .int .i64 0, .int .i64 0, .int .i64 0, .int .i64 0, .int .i64 0, .int .i64 0, .int .i64 0, .int .i64 0, .int .i64 0, .int .i64 0, .bool false]) := below_sets (Nat.le_refl _) HM.out.2.2.2.1
        go_upto_region 7 with fail
        go_wp2_with (first | (refine wpList_store_mid rfl 51 _ _ rfl w.heap.size 0 (List.toArray [.int .i64 0, .int .i64 0, .int .i64 0, .int .i64 0, .int .i64 0, .int .i64 0, .int .i64 0, .int .i64 0, .slice none 0 0, .int .i64 0, .int .i64 0, .slice none 0 0, .slice none 0 0, .slice none 0 0, .slice none 0 0, .slice none 0 0, .slice none 0 0, .int .u8 0, .int .i64 0, .int .i64 0, .int .i64 0, .int .i64 0, .int .i64 0, .int .i64 0, .bool false, .bool false, .bool false, .bool false, .int .i64 0, .int .i64 0, .bool false, .slice none 0 0, .int .u8 0, .int .i64 0, .int .i64 0, .int .i64 0, .int .i64 0, .int .i64 0, .int .i64 0, .int .i64 0, .int .i64 0, .int .i64 0, .int .i64 0, .int .i64 0, .bool false]) rfl rfl (there_of HM.out.2.1 (by rw [HVS.out]; exact Nat.le_of_ble_eq_true rfl)) (by kernel_rfl) (by kernel_rfl) ?_; simp only [List.toList_toArray]; generalize World.setCells _ _ _ _ = W3 at *; have ch : W3.cell? ⟨w.heap.size + 1, 0, none⟩ = some (.int .i64 0) := k2.cell 0; have fh := k2.frozen 0; have hK := Lib.hid (And.intro k1 (And.intro k2 k3)); clear k1 k2 k3; (try simp only [Act.put])))
        refine leaves_cons (f := 51) (args := #[.pointer (some ⟨w.heap.size, 0, none⟩), .pointer (some ⟨w.heap.size + 1, 0, none⟩)]) (by simp) (by simp [go_sem]) ?_
        refine (catch0 w.heap.size (w.heap.size + 1) _).mono ?_
        rintro e u' w3 ⟨rfl, rfl, rfl⟩
        exact HR.out _ (hK.out.1.far (p := ⟨w.heap.size + 1, 0, none⟩) (by simp) _) (hK.out.2.1.set_ 0 _) (hK.out.2.2.setCell (by simp) _) _ rfl rfl
      · have HR := Lib.hid hr
        clear hr BAD
        have hr9 : w2.rangeAt w.heap.size 0 vs := range_part (n := 45) HM.out.2.1 (by rw [List.drop_zero, List.toList_toArray, List.take_of_length_le (by rw [HM.out.2.2.2.2]; exact Nat.le_refl _)])
        have HRG := Lib.hid hr9
        have k1 : Blk (World.setCells w2 w.heap.size 0 vs) w.heap.size 51 (List.toArray vs) := blk_all HM.out.2.1 (setA_full (by simp))
        have k2 : Blk (World.setCells w2 w.heap.size 0 vs) (w.heap.size + 1) 38 #[.int .i64 0] := blk_sets_far (by omega) HM.out.2.2.1
        have k3 : FrR w.heap.size (w.heap.size + 1) w2 (World.setCells w2 w.heap.size 0 vs) := FrR.sets (FrR.refl _ _ _)
        have p0' : w2.cell? ⟨W0.heap.size, 0, none⟩ = some (.slice X2 0 c2) := p0
        clear hr9 p0
        have HI45 := Lib.hid (show (Try.prog.info? 51).map (·.size) = some vs.length from (by rw [show vs.length = 45 from HM.out.2.2.2.2]; kernel_rfl))
        go_upto_region 8 with fail
        go_wp2_with (first | (refine wpList_load_mid rfl 51 _ rfl _ _ rfl vs _ HRG.out Try.underlying51 rfl HI45.out ?_) | (refine wpList_store_mid rfl 51 _ _ rfl w.heap.size 0 (List.toArray vs) rfl rfl (there_of HM.out.2.1 (by rw [HVS.out]; exact Nat.le_of_ble_eq_true rfl)) (by rw [HVS.out]; kernel_rfl) (all_oneCell_toArray HO.out) ?_; simp only [List.toList_toArray]; generalize World.setCells _ _ _ _ = W3 at *; have ch : W3.cell? ⟨w.heap.size + 1, 0, none⟩ = some (.int .i64 0) := k2.cell 0; have fh := k2.frozen 0; have hK := Lib.hid (And.intro k1 (And.intro k2 k3)); clear k1 k2 k3; (try simp only [Act.put])))
        refine leaves_cons (f := 51) (args := #[.pointer (some ⟨w.heap.size, 0, none⟩), .pointer (some ⟨w.heap.size + 1, 0, none⟩)]) (by simp) (by simp [go_sem]) ?_
        refine (catch0 w.heap.size (w.heap.size + 1) _).mono ?_
        rintro e u' w3 ⟨rfl, rfl, rfl⟩
        change Leaves Try.prog _ _ _ [] .returning _
        have hfin : FrR w.heap.size (w.heap.size + 1) w2 (W3.setCell ⟨w.heap.size + 1, 0, none⟩ (.int .i64 0)) := hK.out.2.2.set_ (p := ⟨w.heap.size + 1, 0, none⟩) (.inr (.inl rfl)) _
        refine ⟨_, results_two rfl _ _ w.heap.size (w.heap.size + 1) 51 (List.toArray vs) (0, 0) _ (.int .i64 0) rfl rfl (hK.out.1.far (p := ⟨w.heap.size + 1, 0, none⟩) (by simp) _) (Blk.cell (hK.out.2.1.set_ 0 (.int .i64 0)) 0) Try.underlying51 rfl (by rw [HVS.out]; kernel_rfl) Try.underlying38, vs, ?_, ?_, ?_⟩
        · rw [HR.out]
        · rw [HR.out]
          refine recR.mono (recR.keep HM.out.1.at_ (fun k h1 h2 => hfin.block k h2 ?_ ?_) hfin.size) ?_
          · have := HSZ.out; simp at h1; omega
          · have := HSZ.out; simp at h1; omega
          · have := HSZ.out; simp; omega
        · exact HM.out.2.2.2.1.trans (hfin.below (Nat.le_refl _) (by omega) HM.out.2.2.2.1.size)
end Go.Proofs.Ytfdldbfjeamlcaa.RecRead
/-! What was read, as it lies in memory: its slices. No conditions. -/
namespace Go.Proofs.Ytfdldbfjeamlcaa.RecAt
open Go.RowKit Mem RecMem RecByte RecNum RecEach RecMath RecCod RecCods RecPort RecCommand RecCmdJ RecVal RecSame RecOwn RecRd RecRByte RecRNum RecREach RecRFlat RecRClass RecRL0 RecRListI RecRAsk RecRJob RecRList RecRListE RecRListP RecRListJ RecRState RecRCmd RecRRec RecRead
set_option linter.unusedVariables false
set_option linter.unusedSimpArgs false

theorem slc_of_list {α : Type} {R : Rep α} {e : TypeId} {w : World} {F : Nat} {l : List α} {vs : List Value} (rep : World → α → List Value → Prop) (hrep : ∀ x cs, R.At w F x cs → rep w x cs) (h : (listR R e).At w F l vs) :
    ∃ V c, vs = [.slice V l.length c] ∧ l.length ≤ c ∧ c ≤ maxLen ∧ SlcAt R.n rep w V l := by
  obtain ⟨V, c, xs, rfl, ho, hx⟩ := h
  rcases ho.2 with ⟨e1, e2⟩ | ⟨g, cap, cur, e1, e2, e3, e4, e5, e6, e7⟩
  · obtain rfl : l = [] := List.eq_nil_of_length_eq_zero e2
    refine ⟨V, c, rfl, by simp, ?_, SlcAt.nil⟩
    injection e1 with _ _ e1
    subst e1
    simp [maxLen]
  · injection e1 with e1 _ e8
    subst e1 e8
    refine ⟨_, c, rfl, e4, e5, fun i x hi => ?_⟩
    have hil : i < l.length := (List.getElem?_eq_some_iff.1 hi).1
    have hr := hx i x hi
    refine ⟨g, 0, _, rfl, (Array.getElem?_eq_some_iff.1 e3).1, R.len hr, fun j v hj => ?_, hrep _ _ hr⟩
    have hjn : j < R.n := by rw [← R.len hr]; exact (List.getElem?_eq_some_iff.1 hj).1
    rw [List.getElem?_take_of_lt hjn, List.getElem?_drop, ← e7] at hj
    have hlt : i * R.n + j < l.length * R.n := by
      have : (i + 1) * R.n ≤ l.length * R.n := Nat.mul_le_mul_right _ hil
      rw [Nat.add_mul, Nat.one_mul] at this
      omega
    rw [List.getElem?_take_of_lt hlt] at hj
    rw [cell_of_row w g (0 + i * R.n + j) cur e (0, 0) e3, Nat.zero_add]
    simpa using hj
theorem ints_of_af {w : World} {F : Nat} {l : List Int} {V : Option Addr} {n c : Nat} (h : afR.At w F l [.slice V n c]) : n = l.length ∧ l.length ≤ c ∧ c ≤ maxLen ∧ IntsAt w V l := by
  obtain ⟨V2, c2, e, h1, h2, h3⟩ := slc_of_list (fun w x cs => cs = [.int .i64 x]) (fun x cs h => h) h
  injection e with e _
  injection e with e1 e2 e3
  subst e1 e2 e3
  refine ⟨rfl, h1, h2, fun i v hi => ?_⟩
  obtain ⟨b, o, cs, e, g1, g2, g3, g4⟩ := h3 i v hi
  subst g4
  refine ⟨b, o, e, g1, ?_⟩
  have := g3 0 _ rfl
  rwa [Nat.add_zero, show numR.n = 1 from rfl, Nat.mul_one] at this
theorem jrep_of {w : World} {F : Nat} {x : JV} {cs : List Value} (h : jobR.At w F x cs) : jRep w x cs := by
  obtain ⟨v1, v2, rfl, ⟨v3, v4, rfl, ⟨v5, v6, rfl, h5, h6⟩, h4⟩, h2⟩ := h
  obtain ⟨V, c, rfl, hA⟩ := ask_form h6
  have e7 : v5 = [.int .i64 _] := h5
  have e8 : v4 = [.int .u8 _] := h4
  have e9 : v2 = [.int .i64 _] := h2
  subst e7 e8 e9
  obtain ⟨_, g1, _, g2⟩ := ints_of_af hA
  exact ⟨V, c, rfl, g1, g2⟩
/-- A state that was read. -/
theorem state_at {w : World} {F : Nat} {s : SV} {vs : List Value} (h : stateR.At w F s vs) : ∃ x, vs = sL s x ∧ StAt w s x := by
  obtain ⟨a1, b1, rfl, ⟨a2, b2, rfl, ⟨a3, b3, rfl, ⟨a4, b4, rfl, ⟨a5, b5, rfl, ⟨a6, b6, rfl, ⟨a7, b7, rfl, ⟨a8, b8, rfl, ⟨a9, b9, rfl, ⟨a10, b10, rfl, ⟨a11, b11, rfl, ⟨a12, b12, rfl, ⟨a13, b13, rfl, g14, g13⟩, g12⟩, g11⟩, g10⟩, g9⟩, g8⟩, g7⟩, g6⟩, g5⟩, g4⟩, g3⟩, g2⟩, g1⟩ := h
  have e14 : a13 = n3L _ := g14
  have e13 : b13 = [.int .i64 _] := g13
  have e12 : b12 = [.int .i64 _] := g12
  have e11 : b11 = [.int .i64 _] := g11
  have e10 : b10 = [.int .i64 _] := g10
  have e8 : b8 = [.int .i64 _] := g8
  have e7 : b7 = [.int .i64 _] := g7
  subst e14 e13 e12 e11 e10 e8 e7
  obtain ⟨VC, cC, rfl, lC, mC, hC⟩ := slc_of_list kRep (fun x cs h => h) g9
  obtain ⟨VJ, cJ, rfl, lJ, mJ, hJ⟩ := slc_of_list jRep (fun x cs h => jrep_of h) g6
  obtain ⟨VP, cP, rfl, lP, mP, hP⟩ := slc_of_list pRep (fun x cs h => h) g5
  obtain ⟨VK, cK, rfl, lK, mK, hK⟩ := slc_of_list eRep (fun x cs h => h) g4
  obtain ⟨VD, cD, xD, rfl, hD⟩ := g3
  obtain ⟨VS, cS, xS, rfl, hS⟩ := g2
  obtain ⟨VU, cU, xU, rfl, hU⟩ := g1
  have iD := ints_of_af (w := w) (F := F) (l := s.dn) (V := VD) (n := s.dn.length) (c := cD) ⟨VD, cD, xD, rfl, hD⟩
  have iS := ints_of_af (w := w) (F := F) (l := s.sh) (V := VS) (n := s.sh.length) (c := cS) ⟨VS, cS, xS, rfl, hS⟩
  have iU := ints_of_af (w := w) (F := F) (l := s.cu) (V := VU) (n := s.cu.length) (c := cU) ⟨VU, cU, xU, rfl, hU⟩
  exact ⟨⟨VC, cC, VJ, cJ, VP, cP, VK, cK, VD, cD, VS, cS, VU, cU⟩, rfl, ⟨hC, hJ, hP, hK, iD.2.2.2, iS.2.2.2, iU.2.2.2, lC, lJ, lP, lK, iD.2.1, iS.2.1, iU.2.1⟩⟩
/-- A record that was read. -/
theorem rec_at {w : World} {F : Nat} {r : RV} {vs : List Value} (h : recR.At w F r vs) : ∃ x Y cy, vs = rL r x Y cy ∧ StAt w r.s x ∧ r.c.af.length ≤ cy ∧ cy ≤ maxLen ∧ IntsAt w Y r.c.af := by
  obtain ⟨s, c, rfl, h1, Y, cy, rfl, h2⟩ := h
  obtain ⟨x, rfl, hx⟩ := state_at h1
  obtain ⟨_, g1, g2, g3⟩ := ints_of_af h2
  exact ⟨x, Y, cy, rfl, hx, g1, g2, g3⟩
end Go.Proofs.Ytfdldbfjeamlcaa.RecAt
/-! rec.Write and rec.Read of anything, in one sentence each. No conditions but those named. -/
namespace Go.Proofs.Ytfdldbfjeamlcaa.RecAll
open Go.RowKit Mem RecMem RecByte RecNum RecEach RecMath RecCod RecCods RecPort RecCommand RecCmdJ RecVal RecSame RecWr0 RecWrite RecOwn RecRecC RecWAt RecWOk RecSameA RecWrite0 RecWriteC RecWriteL RecWriteS RecRd RecRRec RecRead RecAt
set_option linter.unusedVariables false
set_option linter.unusedSimpArgs false

/-- What a record's numbers and lists are. -/
structure RFacts (r : RV) : Prop where
  hs : SWf r.s
  hc : CWf r.c
  hg : W64 r.g
  ht : RTop r
  hL : r.c.af.length ≤ 17592186044416
/-- Where a record's lists lie. -/
structure RIs (w : World) (r : RV) (x : SA) (Y : Option Addr) (cy : Nat) : Prop where
  st : StAt w r.s x
  af : IntsAt w Y r.c.af
  cap : r.c.af.length ≤ cy
theorem RIs.up {w w' : World} {r : RV} {x : SA} {Y : Option Addr} {cy : Nat} (h : RIs w r x Y cy) (hB : Below w.heap.size w w') : RIs w' r x Y cy := ⟨h.st.up hB, h.af.up hB, h.cap⟩
theorem RIs.z {w : World} : RIs w RV.z SA.z none 0 := ⟨StAt.z, IntsAt.nil, Nat.le_refl _⟩
theorem z_facts : RFacts RV.z := ⟨z_wf, zc_wf, z64, ⟨Nat.zero_le _, Nat.zero_le _, Nat.zero_le _, Nat.zero_le _, Nat.zero_le _, Nat.zero_le _, Nat.zero_le _, (fun j hj => by cases hj), Nat.zero_le _⟩, Nat.zero_le _⟩

/-! What can be written has numbers that are machine words. -/
theorem u8_of {x : Int} (h : 0 ≤ x ∧ x < 256) : W8 x := by
  show (Lit.int .u8 x).wf = true
  simp [Lit.wf, IntKind.min, IntKind.max, IntKind.signed, IntKind.bits]
  omega
theorem class_wf {x : KV} (h : classC.ok x) : KWf x := ⟨h.1.1.1, h.1.1.2, h.1.2, h.2⟩
theorem ask_wf {x : QV} (h : askC.ok x) : QWf x ∧ x.af.length ≤ 1000 := by
  obtain ⟨⟨⟨⟨⟨⟨x2, x3⟩, ⟨⟨⟨⟨x4, x5⟩, x6⟩, _⟩, _⟩⟩, x7⟩, x8⟩, _⟩, hl, hw⟩ := h
  exact ⟨⟨x2, x3, x4, x5, x6, x7, x8, hw⟩, hl⟩
theorem job_wf {x : JV} (h : jobC.ok x) : JWf x ∧ x.q.af.length ≤ 1000 := by
  obtain ⟨⟨⟨h1, h2⟩, h3⟩, h4⟩ := h
  exact ⟨⟨h1, (ask_wf h2).1, u8_of h3, h4⟩, (ask_wf h2).2⟩
theorem part_wf {x : PV} (h : partC.ok x) : PWf x := by
  obtain ⟨⟨⟨⟨h1, ⟨⟨⟨⟨h2, h3⟩, h4⟩, ⟨⟨h5, h6⟩, h7⟩⟩, _⟩⟩, h8⟩, h9⟩, h10⟩ := h
  exact ⟨h1, h2, h3, h4, h5, h6, h7, u8_of h8, h9, h10⟩
theorem keep_wf {x : EV} (h : keepC.ok x) : EWf x := by
  obtain ⟨⟨h1, ⟨⟨⟨h2, h3⟩, h4⟩, ⟨⟨h5, h6⟩, h7⟩⟩⟩, ⟨h8, h9⟩⟩ := h
  exact ⟨h1, h2, h3, h4, h5, h6, h7, h8, h9⟩
theorem state_wf {s : SV} (h : stateC.ok s) : SWf s ∧ s.cs.length ≤ 1000 ∧ s.js.length ≤ 1000 ∧ s.ps.length ≤ 1000 ∧ s.ks.length ≤ 1000 ∧ s.dn.length ≤ 1000 ∧ s.sh.length ≤ 1000 ∧ s.cu.length ≤ 1000 ∧ ∀ j ∈ s.js, j.q.af.length ≤ 1000 := by
  obtain ⟨⟨⟨⟨⟨⟨⟨⟨⟨⟨⟨⟨⟨⟨⟨w1, w2⟩, w3⟩, w4⟩, w5⟩, w6⟩, w7⟩, h1⟩, w8⟩, w9⟩, h2⟩, h3⟩, h4⟩, h5⟩, h6⟩, h7⟩ := h
  exact ⟨⟨⟨w1, w2, w3, w4, w5, w6, w7, w8, w9⟩, fun x hx => class_wf (h1.2 x hx), fun x hx => (job_wf (h2.2 x hx)).1, fun x hx => part_wf (h3.2 x hx), fun x hx => keep_wf (h4.2 x hx), h5.2, h6.2, h7.2⟩,
    h1.1, h2.1, h3.1, h4.1, h5.1, h6.1, h7.1, fun x hx => (job_wf (h2.2 x hx)).2⟩
theorem ok_facts {r : RV} (h : okR r) : RFacts r := by
  obtain ⟨hg, h0, h1⟩ := h
  have hw : W64 r.g := i64_mk (by omega)
  by_cases e : r.g = 0
  · obtain ⟨⟨_, _, hc, hl⟩, hs⟩ := h0 e
    obtain ⟨g, s, c⟩ := r
    simp only at hs hc hl
    subst hs
    exact ⟨z_wf, hc, hw, ⟨Nat.zero_le _, Nat.zero_le _, Nat.zero_le _, Nat.zero_le _, Nat.zero_le _, Nat.zero_le _, Nat.zero_le _, (fun j hj => by cases hj), by show c.af.length ≤ _; omega⟩, by show c.af.length ≤ _; omega⟩
  · obtain ⟨hc, hs⟩ := h1 e
    obtain ⟨g, s, c⟩ := r
    simp only at hc hs
    subst hc
    obtain ⟨a, b1, b2, b3, b4, b5, b6, b7, b8⟩ := state_wf hs
    exact ⟨a, zc_wf, hw, ⟨by show s.cs.length ≤ _; omega, by show s.js.length ≤ _; omega, by show s.ps.length ≤ _; omega, by show s.ks.length ≤ _; omega, by show s.dn.length ≤ _; omega, by show s.sh.length ≤ _; omega, by show s.cu.length ≤ _; omega, (fun j hj => by have := b8 j hj; omega), Nat.zero_le _⟩, Nat.zero_le _⟩

/-! Writing. -/
/-- The error of Write. -/
structure WV (r : RV) (v : Int) : Prop where
  ok : v = 0 ↔ okR r ∧ (recB r).length ≤ 65536
  any : v = 0 ∨ v = 4 ∨ v = 8
  bad : v = 8 ↔ ¬ okR r
theorem write_any (r : RV) (x : SA) (Y : Option Addr) (cy : Nat) (F : RFacts r) (w : World) (h : RIs w r x Y cy) : Calls Try.prog 17 #[.agg (rL r x Y cy).toArray] w fun e w' => WrPost r w e w' := by
  by_cases h0 : r.g = 0
  · by_cases hn : (own r.c).af.length ≤ 1000
    · exact wwriteC r x Y cy F.hs F.hc F.hg F.ht F.hL w h.st h.af h0 hn
    · exact wwriteL r x Y cy F.hs F.hc F.hg F.ht F.hL w h.st h.af h0 hn
  · exact wwriteS r x Y cy F.hs F.hc F.hg F.ht F.hL w h.st h.af h0
theorem write_v (r : RV) (x : SA) (Y : Option Addr) (cy : Nat) (F : RFacts r) (w : World) (h : RIs w r x Y cy) : Calls Try.prog 17 #[.agg (rL r x Y cy).toArray] w fun e w' =>
    (∃ X n cc v, e = .returned (.tuple #[.slice X n cc, .int .i64 v]) ∧ WV r v ∧ n ≤ cc ∧ cc ≤ maxLen ∧ (v ≠ 0 → n = 0) ∧ (v = 0 → n = (recB r).length ∧ BytesAt w' X (recB r))) ∧ Below w.heap.size w w' := by
  refine (write_any r x Y cy F w h).mono ?_
  rintro e w' ⟨⟨h1, h2, X, n, cc, rfl, h3, h4, h5, h6⟩ | ⟨h1, rfl⟩ | ⟨h1, h2, rfl⟩, hB⟩
  · exact ⟨⟨X, n, cc, 0, rfl, ⟨⟨fun _ => ⟨h1, h2⟩, fun _ => rfl⟩, .inl rfl, ⟨fun e => (by cases e), fun e => absurd h1 e⟩⟩, h4, h5, fun e => absurd rfl e, fun _ => ⟨h3, h6⟩⟩, hB⟩
  · exact ⟨⟨none, 0, 0, 8, rfl, ⟨⟨fun e => (by cases e), fun e => absurd e.1 h1⟩, .inr (.inr rfl), ⟨fun _ => h1, fun _ => rfl⟩⟩, Nat.le_refl _, Nat.zero_le _, fun _ => rfl, fun e => (by cases e)⟩, hB⟩
  · exact ⟨⟨none, 0, 0, 4, rfl, ⟨⟨fun e => (by cases e), fun e => absurd e.2 (by omega)⟩, .inr (.inl rfl), ⟨fun e => (by cases e), fun e => absurd h1 e⟩⟩, Nat.le_refl _, Nat.zero_le _, fun _ => rfl, fun e => (by cases e)⟩, hB⟩

/-! Reading. -/
theorem txt_of {w : World} {X : Option Addr} {n : Nat} {t : Bs} (h : Reads w w.heap.size 1 X n (t.map (Value.int .u8))) : TxtAt w X t := fun i x hi => by
  have hl : i < t.length := (List.getElem?_eq_some_iff.1 hi).1
  have hn : 0 < n := by have := h.1; simp at this; omega
  obtain ⟨b, o, e, hb, hc⟩ := h.flat hn
  exact ⟨b, o, e, hb, hc i _ (by rw [List.getElem?_map, hi]; rfl)⟩
theorem oct_of {t : Bs} (h : ∀ n ∈ t, (Lit.int .u8 n).wf = true) : Oct t := fun n hn => u8_in (h n hn)
theorem txt_bytes {w : World} {X : Option Addr} {t : Bs} (h : TxtAt w X t) : BytesAt w X t := by
  refine ⟨by simp, fun hn => ?_⟩
  obtain ⟨b, o, e, hb, _⟩ := h 0 t[0] (List.getElem?_eq_getElem hn)
  refine ⟨_, e, hb, fun j u hu => ?_⟩
  rw [List.getElem?_map] at hu
  cases hj : t[j]? with
  | none => rw [hj] at hu; cases hu
  | some v =>
    rw [hj] at hu
    cases hu
    obtain ⟨b', o', e', _, x⟩ := h j v hj
    rw [e] at e'
    cases e'
    rw [add_flat]
    exact x
/-- What was read, and how. -/
theorem readV_cases (t : Bs) (ho : Oct t) : ((readV t).2 = 0 ∧ okR (readV t).1 ∧ t = recB (readV t).1 ∧ t.length ≤ 65536) ∨ ((readV t).1 = RV.z ∧ ((readV t).2 = 4 ∧ 65536 < t.length ∨ (readV t).2 = 8 ∧ t.length ≤ 65536)) := by
  by_cases hl : 65536 < t.length
  · rw [readV_long hl]; exact .inr ⟨rfl, .inl ⟨rfl, hl⟩⟩
  · cases hd : recDec t with
    | none => rw [readV_none hl hd]; exact .inr ⟨rfl, .inr ⟨rfl, by omega⟩⟩
    | some p =>
      obtain ⟨r, u⟩ := p
      cases u with
      | nil =>
        rw [readV_ok hl hd]
        obtain ⟨h1, h2⟩ := rec_good.only t r [] ho hd
        refine .inl ⟨rfl, h1, ?_, by omega⟩
        rw [List.append_nil] at h2
        exact h2
      | cons y u => rw [readV_more hl hd]; exact .inr ⟨rfl, .inr ⟨rfl, by omega⟩⟩
theorem readV_facts (t : Bs) (ho : Oct t) : RFacts (readV t).1 := by
  rcases readV_cases t ho with ⟨_, h, _⟩ | ⟨h, _⟩
  · exact ok_facts h
  · rw [h]; exact z_facts
theorem readV_back {r : RV} (h : okR r) (hl : (recB r).length ≤ 65536) : readV (recB r) = (r, 0) := by
  have := rec_good.back r [] h
  rw [List.append_nil] at this
  exact readV_ok (by omega) this
theorem recB_oct {r : RV} (h : okR r) : Oct (recB r) := rec_good.oct r h
theorem read_v (X : Option Addr) (t : Bs) (n c : Nat) (hn : n = t.length) (w : World) (hX : TxtAt w X t) (ho : Oct t) (hc : n ≤ c) (hm : c ≤ maxLen) :
    Calls Try.prog 19 #[.slice X n c] w fun e w' => (∃ x Y cy, e = .returned (.tuple #[.agg (rL (readV t).1 x Y cy).toArray, .int .i64 (readV t).2]) ∧ RIs w' (readV t).1 x Y cy) ∧ Below w.heap.size w w' := by
  subst hn
  refine (rread X t c w hX ho hc hm).mono ?_
  rintro e w' ⟨vs, rfl, hR, hB⟩
  obtain ⟨x, Y, cy, rfl, h1, h2, _, h3⟩ := rec_at hR
  exact ⟨⟨x, Y, cy, rfl, ⟨h1, h3, h2⟩⟩, hB⟩
end Go.Proofs.Ytfdldbfjeamlcaa.RecAll
/-! Layer 28's first examples. No conditions. -/
namespace Go.Proofs.Ytfdldbfjeamlcaa.RecAlive2
open Go.RowKit Mem RecMem RecByte RecNum RecEach RecMath RecPort RecCmd RecCommand RecCmdJ RecEq RecJobs RecSame RecWr0 RecVal RecRecC RecWOk RecAll LogMath
set_option linter.unusedVariables false
set_option linter.unusedSimpArgs false

def cTick : CV := { CV.z with kd := 7, n := 5 }
def cBoot : CV := { CV.z with kd := 8, ci := 1, we := true }
theorem tick_wf : CWf cTick := ⟨by decide, by decide⟩
theorem boot_wf : CWf cBoot := ⟨by decide, by decide⟩
theorem facts_of {c : CV} (h : CWf c) (hl : c.af.length ≤ 1000) : RFacts ⟨0, SV.z, c⟩ := ⟨RecWrite0.z_wf, h, RecRecC.z64, ⟨Nat.zero_le _, Nat.zero_le _, Nat.zero_le _, Nat.zero_le _, Nat.zero_le _, Nat.zero_le _, Nat.zero_le _, (fun j hj => by cases hj), by show c.af.length ≤ _; omega⟩, by show c.af.length ≤ _; omega⟩
theorem okR_of {c : CV} (h : CWf c) (hm : mayK c.kd = true) (hl : c.af.length ≤ 1000) (ho : own c = c) : okR ⟨0, SV.z, c⟩ := (okR_cmd rfl h).2 ⟨hm, hl, by rw [ho]⟩
theorem tick_bytes : nB 0 ++ cmdB cTick = [0, 0, 0, 0, 0, 0, 0, 0, 7, 5, 0, 0, 0, 0, 0, 0, 0] := by decide
theorem boot_bytes : nB 0 ++ cmdB cBoot = [0, 0, 0, 0, 0, 0, 0, 0, 8, 1, 0, 0, 0, 0, 0, 0, 0, 1] := by decide
/-- Records of the first examples. -/
theorem wtick (w : World) : Calls Try.prog 17 #[.agg (recA cTick none 0)] w fun e w' => (∃ X cc, e = .returned (.tuple #[.slice X 17 cc, .int .i64 0]) ∧ 17 ≤ cc ∧ cc ≤ maxLen ∧ BytesAt w' X [0, 0, 0, 0, 0, 0, 0, 0, 7, 5, 0, 0, 0, 0, 0, 0, 0]) ∧ Below w.heap.size w w' := by
  have h := write_v ⟨0, SV.z, cTick⟩ SA.z none 0 (facts_of tick_wf (by decide)) w ⟨StAt.z, IntsAt.nil, Nat.zero_le _⟩
  refine Calls.mono (show Calls Try.prog 17 #[.agg (recA cTick none 0)] w _ from h) ?_
  rintro e w' ⟨⟨X, n, cc, v, rfl, hV, h1, h2, _, h3⟩, hB⟩
  have hb : recB ⟨0, SV.z, cTick⟩ = [0, 0, 0, 0, 0, 0, 0, 0, 7, 5, 0, 0, 0, 0, 0, 0, 0] := by rw [recB_cmd rfl]; exact tick_bytes
  have e0 : v = 0 := hV.ok.2 ⟨okR_of tick_wf (by decide) (by decide) (by decide), by rw [hb]; decide⟩
  obtain ⟨h4, h5⟩ := h3 e0
  rw [hb] at h4 h5
  subst e0
  have h4 : n = 17 := h4
  subst h4
  exact ⟨⟨X, cc, rfl, h1, h2, h5⟩, hB⟩
theorem wboot (w : World) : Calls Try.prog 17 #[.agg (recA cBoot none 0)] w fun e w' => (∃ X cc, e = .returned (.tuple #[.slice X 18 cc, .int .i64 0]) ∧ 18 ≤ cc ∧ cc ≤ maxLen ∧ BytesAt w' X [0, 0, 0, 0, 0, 0, 0, 0, 8, 1, 0, 0, 0, 0, 0, 0, 0, 1]) ∧ Below w.heap.size w w' := by
  have h := write_v ⟨0, SV.z, cBoot⟩ SA.z none 0 (facts_of boot_wf (by decide)) w ⟨StAt.z, IntsAt.nil, Nat.zero_le _⟩
  refine Calls.mono (show Calls Try.prog 17 #[.agg (recA cBoot none 0)] w _ from h) ?_
  rintro e w' ⟨⟨X, n, cc, v, rfl, hV, h1, h2, _, h3⟩, hB⟩
  have hb : recB ⟨0, SV.z, cBoot⟩ = [0, 0, 0, 0, 0, 0, 0, 0, 8, 1, 0, 0, 0, 0, 0, 0, 0, 1] := by rw [recB_cmd rfl]; exact boot_bytes
  have e0 : v = 0 := hV.ok.2 ⟨okR_of boot_wf (by decide) (by decide) (by decide), by rw [hb]; decide⟩
  obtain ⟨h4, h5⟩ := h3 e0
  rw [hb] at h4 h5
  subst e0
  have h4 : n = 18 := h4
  subst h4
  exact ⟨⟨X, cc, rfl, h1, h2, h5⟩, hB⟩
set_option maxRecDepth 100000 in
set_option maxHeartbeats 2000000 in
theorem alive28 (w : World) : Calls Try.prog 15 #[] w fun e w' => e = .returned (.bool true) ∧ Below w.heap.size w w' := by
  go_enter Try.func15, Try.ntmps15
  go_wp2_with fail
  refine (wtick w).mono ?_
  rintro e w1 ⟨⟨X, cx, rfl, _, _, hX⟩, hB1⟩
  have H1 := Lib.hid (And.intro hX hB1)
  clear hX hB1
  go_wp2_with fail
  refine (wboot w1).mono ?_
  rintro e w2 ⟨⟨Y, cy, rfl, _, _, hY⟩, hB2⟩
  have k1 := run_strOf (n := 17) (c := cx) (H1.out.1.up hB2)
  have k2 := run_strOf (n := 18) (c := cy) hY
  rw [show strOf [0, 0, 0, 0, 0, 0, 0, 0, 7, 5, 0, 0, 0, 0, 0, 0, 0] = ⟨#[0, 0, 0, 0, 0, 0, 0, 0, 7, 5, 0, 0, 0, 0, 0, 0, 0]⟩ from rfl] at k1
  rw [show strOf [0, 0, 0, 0, 0, 0, 0, 0, 8, 1, 0, 0, 0, 0, 0, 0, 0, 1] = ⟨#[0, 0, 0, 0, 0, 0, 0, 0, 8, 1, 0, 0, 0, 0, 0, 0, 0, 1]⟩ from rfl] at k2
  have e1 : (([0, 0, 0, 0, 0, 0, 0, 0, 7, 5, 0, 0, 0, 0, 0, 0, 0] : List UInt8) == ((⟨#[0, 0, 0, 0, 0, 0, 0]⟩ : ByteArray) ++ ⟨#[0, 7, 5]⟩ ++ ⟨#[0, 0, 0, 0, 0, 0, 0]⟩).toList) = true := by decide +kernel
  have e2 : (([0, 0, 0, 0, 0, 0, 0, 0, 8, 1, 0, 0, 0, 0, 0, 0, 0, 1] : List UInt8) == ((⟨#[0, 0, 0, 0, 0, 0, 0]⟩ : ByteArray) ++ ⟨#[0, 8, 1]⟩ ++ ⟨#[0, 0, 0, 0, 0, 0, 0]⟩ ++ ⟨#[1]⟩).toList) = true := by decide +kernel
  have H2 := Lib.hid (below_up H1.out.2 hB2)
  clear hY hB2 H1
  go_wp2_with fail
  go_ret
  exact ⟨rfl, H2.out⟩
end Go.Proofs.Ytfdldbfjeamlcaa.RecAlive2
/-! Small words for a caller of an iterator: a new box's cell, kept over new blocks. No conditions but those named. -/
namespace Go.Proofs.Ytfdldbfjeamlcaa.SeqKit
open Go.RowKit Go.Shelf Mem
set_option linter.unusedVariables false

theorem box_new (W : World) (v : Value) (t : TypeId) : (W.alloc (.cells #[v] t)).cell? ⟨W.heap.size, 0, none⟩ = some v ∧ (W.alloc (.cells #[v] t)).frozen? ⟨W.heap.size, 0, none⟩ = false :=
  ⟨(Blk.new W t #[v]).cell 0, (Blk.new W t #[v]).frozen 0⟩
theorem frozen_over {W : World} {a : Addr} {v : Value} (o : Obj) (h : W.cell? a = some v) (hf : W.frozen? a = false) : (W.alloc o).frozen? a = false := by
  have hlt : a.block < W.heap.size := by
    rcases Nat.lt_or_ge a.block W.heap.size with h1 | h1
    · exact h1
    · simp [World.cell?, Array.getElem?_eq_none h1] at h
  rw [← hf]; exact ((Below.refl a.block.succ W).alloc (by omega) o).frozen (p := a) (by omega)
end Go.Proofs.Ytfdldbfjeamlcaa.SeqKit
/-! Plain arithmetic of the marks of bytes: folds modulo 4294967291, powers by squares, weights. No program in sight. No conditions but those that each lemma names. -/
namespace Go.Proofs.Ytfdldbfjeamlcaa.MarkMath

/-- One step of a mark. -/
def stp (m c : Int) : Int := (m * 65537 + c + 1) % 4294967291
/-- The mark of bytes behind a mark. -/
def mk (m : Int) (l : List Int) : Int := l.foldl stp m
def isBytes (l : List Int) : Prop := ∀ x ∈ l, 0 ≤ x ∧ x ≤ 255

theorem stp_lt (m c : Int) : 0 ≤ stp m c ∧ stp m c < 4294967291 := by unfold stp; omega
theorem mk_nil (m : Int) : mk m [] = m := rfl
theorem mk_cons (m c : Int) (l : List Int) : mk m (c :: l) = mk (stp m c) l := rfl
theorem mk_app (m : Int) (a b : List Int) : mk m (a ++ b) = mk (mk m a) b := by simp [mk]
theorem mk_snoc (m : Int) (a : List Int) (c : Int) : mk m (a ++ [c]) = stp (mk m a) c := by simp [mk]
theorem mk_range (l : List Int) : ∀ m, 0 ≤ m → m < 4294967291 → 0 ≤ mk m l ∧ mk m l < 4294967291 := by
  induction l with
  | nil => intro m h0 h1; exact ⟨h0, h1⟩
  | cons c l ih => intro m _ _; rw [mk_cons]; exact ih _ (stp_lt m c).1 (stp_lt m c).2

/-- Two numbers with one remainder. -/
def R (a b : Int) : Prop := a % 4294967291 = b % 4294967291
theorem R.refl (a : Int) : R a a := rfl
theorem R.symm {a b : Int} (h : R a b) : R b a := Eq.symm h
theorem R.trans {a b c : Int} (h : R a b) (k : R b c) : R a c := Eq.trans h k
theorem R.mod (a : Int) : R (a % 4294967291) a := Int.emod_emod_of_dvd _ (Int.dvd_refl _)
theorem R.add {a b c d : Int} (h : R a b) (k : R c d) : R (a + c) (b + d) := by unfold R at *; rw [Int.add_emod, h, k, ← Int.add_emod]
theorem R.mul {a b c d : Int} (h : R a b) (k : R c d) : R (a * c) (b * d) := by unfold R at *; rw [Int.mul_emod, h, k, ← Int.mul_emod]
theorem R.of_eq {a b : Int} (h : a = b) : R a b := by rw [h]; rfl
theorem R.cong {a b : Int} (h : R a b) : ∃ k : Int, a - b = 4294967291 * k :=
  Int.dvd_of_emod_eq_zero (Int.emod_eq_emod_iff_emod_sub_eq_zero.1 h)
/-- What is below the round is its own remainder. -/
theorem R.small {a b : Int} (h : R a b) (h0 : 0 ≤ a) (h1 : a < 4294967291) : a = b % 4294967291 := by unfold R at h; omega
theorem stp_R (m c : Int) : R (stp m c) (m * 65537 + c + 1) := R.mod _

theorem unit65537 {d k : Int} (h : 65537 * d = 4294967291 * k) : ∃ t, d = 4294967291 * t := by
  have e : (65537 : Int) * 3221241852 = 1 + 4294967291 * 49153 := by decide
  have h3 : d * (65537 * 3221241852) = 4294967291 * (k * 3221241852) := by
    rw [← Int.mul_assoc, Int.mul_comm d, h, Int.mul_assoc]
  rw [e, Int.mul_add, Int.mul_one, Int.mul_left_comm] at h3
  exact ⟨k * 3221241852 - d * 49153, by rw [Int.mul_sub, ← h3, Int.add_sub_cancel]⟩
/-- A step is one to one: 65537 has an inverse. -/
theorem stp_inj {m n c : Int} (hm0 : 0 ≤ m) (hm : m < 4294967291) (hn0 : 0 ≤ n) (hn : n < 4294967291) (h : stp m c = stp n c) : m = n := by
  obtain ⟨k, hk⟩ := R.cong h
  clear h
  have hk' : 65537 * (m - n) = 4294967291 * k := by rw [← hk, Int.mul_sub]; omega
  clear hk
  obtain ⟨t, ht⟩ := unit65537 hk'
  clear hk'
  omega

theorem mk_inj (l : List Int) : ∀ {m n : Int}, 0 ≤ m → m < 4294967291 → 0 ≤ n → n < 4294967291 → (mk m l = mk n l ↔ m = n) := by
  induction l with
  | nil => intro m n _ _ _ _; exact Iff.rfl
  | cons c l ih =>
    intro m n a b d e
    rw [mk_cons, mk_cons, ih (stp_lt m c).1 (stp_lt m c).2 (stp_lt n c).1 (stp_lt n c).2]
    exact ⟨fun h => stp_inj a b d e h, fun h => by rw [h]⟩

/-- Another byte, another mark. -/
theorem stp_byte {m x y : Int} (hx : 0 ≤ x ∧ x ≤ 255) (hy : 0 ≤ y ∧ y ≤ 255) : stp m x = stp m y ↔ x = y := by
  constructor
  · intro h
    obtain ⟨k, hk⟩ := R.cong h
    clear h
    omega
  · intro h; rw [h]
theorem stp_stp (m x y : Int) : R (stp (stp m x) y) ((m * 65537 + x + 1) * 65537 + y + 1) :=
  (stp_R _ _).trans ((((stp_R m x).mul (R.refl 65537)).add (R.refl y)).add (R.refl 1))
theorem stp_swap {m x y : Int} (hx : 0 ≤ x ∧ x ≤ 255) (hy : 0 ≤ y ∧ y ≤ 255) : stp (stp m x) y = stp (stp m y) x ↔ x = y := by
  constructor
  · intro h
    have h' : R ((m * 65537 + x + 1) * 65537 + y + 1) ((m * 65537 + y + 1) * 65537 + x + 1) := (stp_stp m x y).symm.trans ((R.of_eq h).trans (stp_stp m y x))
    obtain ⟨k, hk⟩ := R.cong h'
    clear h h'
    have hk' : (x - y) * 65536 = 4294967291 * k := by rw [← hk]; clear hk; grind
    clear hk
    omega
  · intro h; rw [h]

theorem mk_set (l : List Int) (k : Nat) (y : Int) (hk : k < l.length) (hl : isBytes l) (hy : 0 ≤ y ∧ y ≤ 255) : mk 0 (l.set k y) = mk 0 l ↔ y = l[k] := by
  have e1 : l.set k y = l.take k ++ y :: l.drop (k + 1) := by rw [List.set_eq_take_append_cons_drop, if_pos hk]
  have e2 : l = l.take k ++ l[k] :: l.drop (k + 1) := by rw [← List.drop_eq_getElem_cons hk, List.take_append_drop]
  have hx : 0 ≤ l[k] ∧ l[k] ≤ 255 := hl _ (List.getElem_mem hk)
  rw [e1]
  conv => lhs; rhs; rw [e2]
  rw [mk_app, mk_app, mk_cons, mk_cons, mk_inj _ (stp_lt _ _).1 (stp_lt _ _).2 (stp_lt _ _).1 (stp_lt _ _).2, stp_byte hy hx]

theorem mk_swap (l : List Int) (k : Nat) (hk : k + 1 < l.length) (hl : isBytes l) : mk 0 ((l.set k (l[k + 1])).set (k + 1) (l[k]'(by omega))) = mk 0 l ↔ l[k]'(by omega) = l[k + 1] := by
  have hk' : k < l.length := by omega
  have e2 : l = l.take k ++ l[k] :: l[k + 1] :: l.drop (k + 2) := by
    rw [← List.drop_eq_getElem_cons hk, ← List.drop_eq_getElem_cons hk', List.take_append_drop]
  have e1 : (l.set k (l[k + 1])).set (k + 1) l[k] = l.take k ++ l[k + 1] :: l[k] :: l.drop (k + 2) := by
    apply List.ext_getElem?
    intro i
    simp only [List.getElem?_set, List.length_set, List.getElem?_append, List.length_take, List.getElem?_take]
    by_cases h1 : i < k
    · rw [if_neg (by omega), if_neg (by omega), if_pos (by omega), if_pos h1]
    · by_cases h2 : i = k
      · subst h2
        rw [if_neg (by omega), if_pos rfl, if_pos (by omega), if_neg (by omega)]
        simp [show min i l.length = i from by omega]
      · by_cases h3 : i = k + 1
        · subst h3
          rw [if_pos rfl, if_pos (by omega), if_neg (by omega)]
          simp [show min k l.length = k from by omega]
        · rw [if_neg (by omega), if_neg (by omega), if_neg (by omega)]
          obtain ⟨j, rfl⟩ : ∃ j, i = k + 2 + j := ⟨i - (k + 2), by omega⟩
          rw [show k + 2 + j - min k l.length = j + 2 from by omega]
          simp
  have hx : 0 ≤ l[k] ∧ l[k] ≤ 255 := hl _ (List.getElem_mem hk')
  have hy : 0 ≤ l[k + 1] ∧ l[k + 1] ≤ 255 := hl _ (List.getElem_mem hk)
  rw [e1]
  conv => lhs; rhs; rw [e2]
  rw [mk_app, mk_app, mk_cons, mk_cons, mk_cons, mk_cons, mk_inj _ (stp_lt _ _).1 (stp_lt _ _).2 (stp_lt _ _).1 (stp_lt _ _).2, stp_swap hy hx]
  exact eq_comm

/-! Powers. -/
/-- A mark behind one: the one's part, and the bytes' own. -/
theorem mk_behind_R (l : List Int) : ∀ m : Int, R (mk m l) (m * 65537 ^ l.length + mk 0 l) := by
  induction l with
  | nil => intro m; exact R.of_eq (by simp [mk])
  | cons c l ih =>
    intro m
    rw [mk_cons, mk_cons]
    refine (ih _).trans ?_
    refine R.trans ?_ ((R.refl (m * 65537 ^ (c :: l).length)).add (ih (stp 0 c)).symm)
    have h1 : R (stp m c * 65537 ^ l.length) ((m * 65537 + c + 1) * 65537 ^ l.length) := (stp_R m c).mul (R.refl _)
    have h2 : R (stp 0 c * 65537 ^ l.length) ((0 * 65537 + c + 1) * 65537 ^ l.length) := (stp_R 0 c).mul (R.refl _)
    refine (h1.add (R.refl (mk 0 l))).trans (R.trans (R.of_eq ?_) ((R.refl _).add (h2.symm.add (R.refl (mk 0 l)))))
    rw [List.length_cons, Int.pow_succ]
    generalize (65537 : Int) ^ l.length = t
    generalize mk 0 l = z
    grind
theorem mk_behind (l : List Int) (m : Int) (h0 : 0 ≤ m) (h1 : m < 4294967291) : mk m l = (m * 65537 ^ l.length + mk 0 l) % 4294967291 :=
  (mk_behind_R l m).small (mk_range l m h0 h1).1 (mk_range l m h0 h1).2

/-- The power by squares, as mark.power's loop goes: out, square, long. -/
def pwTo : Nat → Int → Int → Nat → Int
  | 0, o, _, _ => o
  | f + 1, o, s, n => if n = 0 then o else pwTo f (if n % 2 = 1 then o * s % 4294967291 else o) (s * s % 4294967291) (n / 2)
theorem sq_half (s : Int) (n : Nat) : (s * s) ^ (n / 2) * (if n % 2 = 1 then s else 1) = s ^ n := by
  have h : s ^ n = s ^ (2 * (n / 2) + n % 2) := by rw [Nat.div_add_mod]
  rw [h, Int.pow_add, Int.pow_mul, show s ^ 2 = s * s from by rw [Int.pow_succ, Int.pow_succ, Int.pow_zero, Int.one_mul]]
  split
  · rename_i h1; rw [h1, Int.pow_succ, Int.pow_zero, Int.one_mul]
  · rename_i h1; rw [show n % 2 = 0 from by omega, Int.pow_zero]
theorem R.pow {a b : Int} (h : R a b) (n : Nat) : R (a ^ n) (b ^ n) := by
  induction n with
  | zero => rw [Int.pow_zero, Int.pow_zero]; exact R.refl _
  | succ n ih => rw [Int.pow_succ, Int.pow_succ]; exact ih.mul h
/-- What the loop over (out, square, long) comes to keeps 'out times square so often'. -/
theorem round_R (o s : Int) (n : Nat) : R ((if n % 2 = 1 then o * s % 4294967291 else o) * (s * s % 4294967291) ^ (n / 2)) (o * s ^ n) := by
  have h2 : R ((s * s % 4294967291) ^ (n / 2)) ((s * s) ^ (n / 2)) := (R.mod _).pow _
  rw [← sq_half s n]
  split
  · exact ((R.mod _).mul h2).trans (R.of_eq (by generalize (s * s) ^ (n / 2) = t; grind))
  · exact ((R.refl _).mul h2).trans (R.of_eq (by generalize (s * s) ^ (n / 2) = t; grind))

/-! Weights. -/
/-- The sum of bytes by their weights, the last one's 1, as the reference adds them up from the first one on. -/
def wt (n i : Nat) : Int := 65537 ^ (n - 1 - i) % 4294967291
def sm (l : List Int) (n : Nat) : Nat → Int
  | 0 => 0
  | k + 1 => (sm l n k + wt n k * (l.getD k 0 + 1)) % 4294967291
theorem sm_range (l : List Int) (n k : Nat) : 0 ≤ sm l n k ∧ sm l n k < 4294967291 := by
  cases k with
  | zero => simp [sm]
  | succ k => unfold sm; omega
theorem wt_range (n i : Nat) : 0 ≤ wt n i ∧ wt n i < 4294967291 := by unfold wt; omega
theorem sm_R (l : List Int) : ∀ k, k ≤ l.length → R (sm l l.length k) (mk 0 (l.take k) * 65537 ^ (l.length - k)) := by
  intro k
  induction k with
  | zero => intro _; exact R.of_eq (by simp [sm, mk])
  | succ k ih =>
    intro hk
    have hk' : k < l.length := by omega
    have e : l.take (k + 1) = l.take k ++ [l[k]] := by rw [List.take_succ_eq_append_getElem hk']
    rw [e, mk_snoc]
    unfold sm
    refine (R.mod _).trans ?_
    have h1 : R (wt l.length k) (65537 ^ (l.length - (k + 1))) := by unfold wt; rw [show l.length - 1 - k = l.length - (k + 1) from by omega]; exact R.mod _
    refine ((ih (by omega)).add (h1.mul (R.refl _))).trans ?_
    refine R.trans ?_ ((stp_R _ _).mul (R.refl _)).symm
    rw [show l.length - k = l.length - (k + 1) + 1 from by omega, Int.pow_succ]
    refine R.of_eq ?_
    rw [List.getD_eq_getElem?_getD, List.getElem?_eq_getElem hk', Option.getD_some]
    generalize (65537 : Int) ^ (l.length - (k + 1)) = t
    generalize mk 0 (l.take k) = z
    grind
/-- The sum by weights is the mark. -/
theorem sm_mk (l : List Int) : sm l l.length l.length = mk 0 l := by
  have h := sm_R l l.length (Nat.le_refl _)
  rw [Nat.sub_self, Int.pow_zero, Int.mul_one, List.take_length] at h
  have h2 := h.small (sm_range _ _ _).1 (sm_range _ _ _).2
  have h3 := mk_range l 0 (by omega) (by omega)
  omega
end Go.Proofs.Ytfdldbfjeamlcaa.MarkMath
/-! The contract of mark.mixed. -/
namespace Go.Proofs.Ytfdldbfjeamlcaa.MarkWalks
open Go.RowKit MarkMath
set_option linter.unusedVariables false

theorem mixed_any (m by_ more : Int) (w : World) (h0 : 0 ≤ m * by_) (h1 : m * by_ ≤ 18446744030759878681) (h2 : 0 ≤ more) (h3 : more ≤ 4294967295) :
    Calls Try.prog 123 #[.int .u64 m, .int .u64 by_, .int .u64 more] w fun e w' => e = .returned (.int .u64 ((m * by_ + more) % 4294967291)) ∧ w = w' := by
  go_enter Try.func123, Try.ntmps123
  go_wp2
  go_ret
  exact ⟨rfl, rfl⟩

theorem sq_le {a b : Int} (h0 : 0 ≤ a) (h1 : a < 4294967291) (h2 : 0 ≤ b) (h3 : b < 4294967291) : 0 ≤ a * b ∧ a * b ≤ 18446744030759878681 := by
  refine ⟨Int.mul_nonneg h0 h2, ?_⟩
  have h4 : a * b ≤ 4294967290 * 4294967290 := Int.mul_le_mul (by omega) (by omega) h2 (by omega)
  omega
end Go.Proofs.Ytfdldbfjeamlcaa.MarkWalks
/-! The contracts of mark.each (an iterator over the bytes of all parts), mark.from, mark.Of, mark.On: the mark of bytes, for all parts below the heap's size. -/
namespace Go.Proofs.Ytfdldbfjeamlcaa.MarkSeq
open Go.RowKit Go.Shelf MarkMath MarkWalks Mem SeqKit
attribute [local go_sem] Oper.semAt_some
set_option linter.unusedVariables false

/-- mark.each boxes its parts; the iterator holds the box. -/
theorem each_in (F : Fence) (n : Nat) (hf : F.fn 122) (hro : F.round = none) (v : Value) (w : World) (hv : v.oneCell' = true) :
    CallsIn F n Try.prog 122 #[v] w fun e w' => e = .returned (.func (.func 127) #[] #[.pointer (some ⟨w.heap.size, 0, none⟩)]) ∧ w' = w.alloc (.cells #[v] 139) := by
  refine callsIn_of_wp Try.func122 rfl hf ?_ hro
  simp only [Try.ntmps122, List.size_toArray, List.length_cons, List.length_nil, Nat.reduceAdd, Nat.reduceSub, Array.replicate_succ, Array.replicate_zero, List.push_toArray, List.append_toArray, List.nil_append, List.cons_append]
  gi_wp2
  go_ret
  exact ⟨rfl, rfl⟩

/-- A byte. -/
abbrev B8 := { x : Int // 0 ≤ x ∧ x ≤ 255 }
def ints (l : List B8) : List Int := l.map (·.1)
theorem ints_length (l : List B8) : (ints l).length = l.length := by simp [ints]
theorem ints_bytes (l : List B8) : isBytes (ints l) := by
  intro x hx
  simp only [ints, List.mem_map] at hx
  obtain ⟨y, _, rfl⟩ := hx
  exact y.2
theorem of_bytes : ∀ l : List Int, isBytes l → ∃ b : List B8, ints b = l
  | [], _ => ⟨[], rfl⟩
  | x :: l, h => by
    obtain ⟨b, hb⟩ := of_bytes l (fun y hy => h y (by simp [hy]))
    exact ⟨⟨x, h x (by simp)⟩ :: b, by simp [ints] at hb ⊢; exact hb⟩

theorem take_flat (ps : List (List B8)) (i : Nat) (b : List B8) (h : ps[i]? = some b) : (ps.take (i + 1)).flatten = (ps.take i).flatten ++ b := by
  have hi : i < ps.length := (List.getElem?_eq_some_iff.1 h).1
  have hb : ps[i] = b := (List.getElem?_eq_some_iff.1 h).2
  rw [List.take_succ_eq_append_getElem hi, hb]
  simp
theorem room (ps : List (List B8)) (i j : Nat) (b : List B8) (h : ps[i]? = some b) (hj : j < b.length) : ((ps.take i).flatten ++ b.take j).length < ps.flatten.length := by
  have e := take_flat ps i b h
  have e2 : ps.flatten = (ps.take (i + 1)).flatten ++ (ps.drop (i + 1)).flatten := by rw [← List.flatten_append, List.take_append_drop]
  rw [e2, e]
  simp only [List.length_append, List.length_take]
  omega

set_option maxRecDepth 100000 in
set_option maxHeartbeats 2000000 in
/-- The iterator: every byte of every part, in order, for every loop body that keeps what lay below n₀. -/
theorem each1_in (F : Fence) (n : Nat) (hf : F.fn 127) (hro : F.round = none) (hn : 1 ≤ n) (l Bp n₀ : Nat) (A : Option Addr) (c : Nat) (ps : List (List B8)) (hlen : ps.length ≤ 4611686018427387904) (hlens : ∀ b ∈ ps, b.length ≤ 4611686018427387904)
    (J Jx : List B8 → World → Prop)
    (hY : ∀ pre x W, J pre W → pre.length < ps.flatten.length → YieldAt F (n - 1) Try.prog l #[Value.int .u8 x.1] W fun e W' =>
      (e = .returned (.bool true) ∧ J (pre ++ [x]) W' ∧ Below n₀ W W') ∨ (e = .returned (.bool false) ∧ Jx (pre ++ [x]) W'))
    (W : World) (hBp : W.cell? ⟨Bp, 0, none⟩ = some (.slice A ps.length c)) (hP : Parts W n₀ A (ps.map ints)) (h0 : J [] W) :
    CallsIn F n Try.prog 127 #[.func (.yield l) #[] #[], .pointer (some ⟨Bp, 0, none⟩)] W fun e W' => (∃ v, e = .returned v) ∧
      ((∃ ys, ys = ps.flatten ∧ J ys W') ∨ (∃ pre, True ∧ Jx pre W')) := by
  refine callsIn_of_wp Try.func127 rfl hf ?_ hro
  simp only [Try.ntmps127, List.size_toArray, List.length_cons, List.length_nil, Nat.reduceAdd, Nat.reduceSub, Array.replicate_succ, Array.replicate_zero, List.push_toArray, List.append_toArray, List.nil_append, List.cons_append]
  have HY := Lib.hid hY
  have HL := Lib.hid hlens
  have HP := Lib.hid hP
  clear hY hlens hP
  gi_wp2
  gi_loopw [9] (fun i wr => ∃ k : Nat, k ≤ ps.length ∧ i = .int .i64 k ∧ Hid (J (ps.take k).flatten wr) ∧ Hid (Below n₀ W wr))
    (fun i _ => ps.length - (intOf i).toNat)
  case atStart => exact ⟨0, Nat.zero_le _, rfl, h0, Below.refl _ _⟩
  case round =>
    obtain ⟨k, hk, rfl, hJ, hB⟩ := hrel
    obtain ⟨wo, rfl⟩ : ∃ wo : World, wo = wr := ⟨_, rfl⟩
    by_cases hlt : k < ps.length
    · have hb : ps[k]? = some ps[k] := List.getElem?_eq_getElem hlt
      generalize ps[k] = b at hb
      have hbl : b.length ≤ 4611686018427387904 := HL.out b (List.mem_of_getElem? hb)
      have hb' : (ps.map ints)[k]? = some (ints b) := by rw [List.getElem?_map, hb]; rfl
      obtain ⟨ad, X, cX, hA, hadB, hcell, hX⟩ := (HP.out.below hB.out).at_ hb'
      rw [ints_length] at hcell hX
      subst hA
      have Hb := Lib.hid hb
      have HX := Lib.hid hX
      clear hb hb' hX
      gi_wp2
      gi_loopw [15] (fun j wi => ∃ m : Nat, m ≤ b.length ∧ j = .int .i64 m ∧ Hid (J ((ps.take k).flatten ++ b.take m) wi) ∧ Hid (Below n₀ wo wi))
        (fun j _ => b.length - (intOf j).toNat)
      case atStart => exact ⟨0, Nat.zero_le _, rfl, by simpa using hJ, Below.refl _ _⟩
      case round =>
        obtain ⟨m, hm, rfl, hJ2, hB2⟩ := hrel
        by_cases hlt2 : m < b.length
        · have hx : (u8s (ints b))[m]? = some (.int .u8 b[m].1) := by simp [u8s, ints, hlt2]
          obtain ⟨ad2, u, hX2, had2, hu, hc2⟩ := (HX.out.below hB2.out).at_ hlt2
          rw [hx] at hu
          cases hu
          subst hX2
          obtain ⟨fn, tmps, assign, body, hy, hR⟩ := HY.out _ b[m] wr hJ2.out (room ps k m b Hb.out hlt2)
          have HR := Lib.hid hR
          clear hR hx
          gi_wp2
          refine HR.out.mono ?_
          rintro e W3 (⟨rfl, hJ3, hk3⟩ | ⟨rfl, hJx3⟩)
          · have HJ3 := Lib.hid hJ3
            have HK3 := Lib.hid hk3
            clear hJ3 hk3
            gi_wp2
            go_roundw
            case rel => exact ⟨m + 1, by omega, by go_num, by rw [List.take_succ_eq_append_getElem hlt2, ← List.append_assoc]; exact HJ3.out, hB2.out.trans HK3.out⟩
            case measure => simp [intOf]; omega
          · have HJ3 := Lib.hid hJx3
            clear hJx3
            gi_wp2
            refine bodyPost_ret (results_none rfl _ _ _) rfl ?_
            exact ⟨⟨_, rfl⟩, .inr ⟨_, trivial, HJ3.out⟩⟩
        · obtain rfl : m = b.length := by omega
          gi_wp2
          go_roundw
          case rel => exact ⟨k + 1, by omega, by go_num, by have e := take_flat ps k b Hb.out; have h2 := hJ2.out; rw [List.take_length] at h2; rw [e]; exact h2, hB.out.trans hB2.out⟩
          case measure => simp [intOf]; omega
    · obtain rfl : k = ps.length := by omega
      gi_wp2
      go_end0
      exact ⟨⟨_, rfl⟩, .inl ⟨_, rfl, by have h2 := hJ.out; rw [List.take_length] at h2; exact h2⟩⟩

/-- The iterator's contract. -/
theorem each_stops (F : Fence) (n : Nat) (hf : F.fn 127) (hro : F.round = none) (hn : 1 ≤ n) (Bp n₀ : Nat) (A : Option Addr) (c : Nat) (ps : List (List B8)) (hlen : ps.length ≤ 4611686018427387904) (hlens : ∀ b ∈ ps, b.length ≤ 4611686018427387904)
    (w : World) (hBp : Bp < w.heap.size) (hn₀ : n₀ ≤ w.heap.size) (hc : w.cell? ⟨Bp, 0, none⟩ = some (.slice A ps.length c)) (hP : Parts w n₀ A (ps.map ints)) :
    SeqStopsK F n Try.prog 127 #[.pointer (some ⟨Bp, 0, none⟩)] (fun x : B8 => #[Value.int .u8 x.1]) (Below n₀) (fun ys => ys = ps.flatten) (fun _ => True) ps.flatten.length w := fun l J Jx W hW _ _ hY h0 =>
  each1_in F n hf hro hn l Bp n₀ A c ps hlen hlens J Jx hY W ((hW.cell (p := ⟨Bp, 0, none⟩) hBp).trans hc) (hP.below (hW.mono hn₀)) h0

theorem mk_bytes_snoc (m : Int) (pre : List B8) (x : B8) : mk m (ints (pre ++ [x])) = stp (mk m (ints pre)) x.1 := by simp [ints, mk]

set_option maxRecDepth 100000 in
set_option maxHeartbeats 2000000 in
/-- mark.from: the mark of all bytes of the parts, behind one. -/
theorem from_any (m : Int) (hm0 : 0 ≤ m) (hm1 : m < 4294967291) (A : Option Addr) (c : Nat) (ps : List (List B8)) (hlen : ps.length ≤ 4611686018427387904) (hlens : ∀ b ∈ ps, b.length ≤ 4611686018427387904) (w : World) (hP : Parts w w.heap.size A (ps.map ints)) :
    Calls Try.prog 97 #[.int .u64 m, .slice A ps.length c] w fun e w' => e = .returned (.int .u32 (mk m (ints ps.flatten))) ∧ Below w.heap.size w w' := by
  refine (callsIn_wide (n := 5)).1 ?_
  refine callsIn_of_wp_marks Try.func97 rfl trivial ?_ rfl
  simp only [Try.ntmps97, List.size_toArray, List.length_cons, List.length_nil, Nat.reduceAdd, Nat.reduceSub, Array.replicate_succ, Array.replicate_zero, List.push_toArray, List.append_toArray, List.nil_append, List.cons_append]
  have HL := Lib.hid hlens
  have HP := Lib.hid hP
  clear hlens hP
  gi_wp2_with (refine ⟨trivial, ?_⟩; gi_at_call 122; refine (each_in Fence.wide 4 trivial rfl _ _ rfl).mono ?_; rintro e w' ⟨rfl, rfl⟩)
  have hs := box_new w (.int .u64 m) 158
  have hb := box_new (w.alloc (.cells #[.int .u64 m] 158)) (.slice A ps.length c) 139
  rw [World.size_alloc] at hb
  have hP2 : Parts ((w.alloc (.cells #[.int .u64 m] 158)).alloc (.cells #[.slice A ps.length c] 139)) w.heap.size A (ps.map ints) := HP.out.below (((Below.refl _ w).alloc (Nat.le_refl _) _).alloc (by simp) _)
  refine wpIn_rangeFunc_ownF rfl (by omega) (gf := 127) (lb := #[.pointer (some ⟨w.heap.size + 1, 0, none⟩)]) rfl trivial (enters_of Try.func127 (by kernel_rfl) rfl)
    (each_stops Fence.wide 4 trivial rfl (by omega) (w.heap.size + 1) w.heap.size A c ps hlen HL.out _ (by simp) (by simp; omega) hb.1 hP2) belowK_t (belowK_b (by simp; omega)) (Below.refl _ _) (fun _ => rfl)
    (fun pre W => (W.cell? ⟨w.heap.size, 0, none⟩ = some (.int .u64 (mk m (ints pre))) ∧ W.frozen? ⟨w.heap.size, 0, none⟩ = false) ∧ Below w.heap.size w W)
    (fun _ _ _ => False)
    (OwnFrom.and (Own.from (fun s A B row hs hg hr => ⟨cell_kept hs.1 hg hr, (frozen_kept hs.1 hg hr).trans hs.2⟩) _) (ownFrom_below (Nat.le_refl _) (by simp; omega)))
    (fun _ => Own.from (fun _ _ _ _ hs _ _ => hs) _)
    ⟨⟨cell_over _ hs.1, frozen_over _ hs.1 hs.2⟩, ((Below.refl _ w).alloc (Nat.le_refl _) _).alloc (by simp) _⟩
    (fun x => { tmps := #[.int .u64 m, .slice A ps.length c, .pointer (some ⟨w.heap.size, 0, none⟩), undef, .int .u32 0, .int .u8 x.1, .slice A ps.length c, .func (.func 127) #[] #[.pointer (some ⟨w.heap.size + 1, 0, none⟩)], .int .u8 x.1, undef, undef, undef, undef, undef, undef, undef], defers := [] }) ?assign ?body ?done ?stop
  case assign =>
    intro l x W K hK
    gi_wp2
    exact hK
  case body =>
    rintro l pre x W ⟨⟨hc, hf⟩, hB⟩ _
    have hr := mk_range (ints pre) m hm0 hm1
    obtain ⟨hx0, hx1⟩ := x.2
    obtain ⟨hr0, hr1⟩ := hr
    have HB := Lib.hid hB
    clear hB
    have e1 := mk_bytes_snoc m pre x
    have E1 := Lib.hid e1
    clear e1
    generalize mk m (ints pre) = z at *
    obtain ⟨x, hx⟩ := x
    dsimp only at *
    gi_wp2_with (refine ⟨trivial, ?_⟩; gi_at_call 123; refine (CallsIn.inRound l (callsIn_wide.2 (mixed_any z 65537 (x + 1) _ (by omega) (by omega) (by omega) (by omega)))).mono ?_; rintro e w' ⟨rfl, rfl⟩)
    exact ⟨KeepsOthers.setCell _ _ _, (Below.refl w.heap.size W).setCell (p := ⟨w.heap.size, 0, none⟩) (Nat.le_refl _) _, ⟨by rw [E1.out]; unfold stp; rw [Int.add_assoc]; exact World.cell?_setCell_same' _ _ _ (by rw [hc]; rfl), by rw [World.frozen?_setCell]; exact hf⟩, HB.out.setCell (p := ⟨w.heap.size, 0, none⟩) (Nat.le_refl _) _⟩
  case done =>
    rintro D ys W hD rfl ⟨⟨hc, _⟩, hB⟩ hK
    have hr := mk_range (ints ps.flatten) m hm0 hm1
    obtain ⟨hr0, hr1⟩ := hr
    have HB := Lib.hid hB
    clear hB
    gi_wp2
    refine ⟨by simp, .inl ⟨_, _, rfl, run_takeDeferred hK, ?_⟩⟩
    refine ⟨_, results_tmp rfl _ _ _, rfl, ?_⟩
    exact HB.out.trans (belowK_b (w := w) (Nat.le_refl _) W D _ _ (by simp at hD; omega) hK rfl rfl)
  case stop =>
    rintro D c pre W _ _ h _
    exact h.elim
end Go.Proofs.Ytfdldbfjeamlcaa.MarkSeq
/-! The contracts of mark.Of and mark.On, and the examples (alive): for all parts below the heap's size. -/
namespace Go.Proofs.Ytfdldbfjeamlcaa.MarkOf
open Go.RowKit Go.Shelf MarkMath MarkWalks Mem SeqKit MarkSeq
set_option linter.unusedVariables false

theorem of_any (A : Option Addr) (c : Nat) (ps : List (List B8)) (hlen : ps.length ≤ 4611686018427387904) (hlens : ∀ b ∈ ps, b.length ≤ 4611686018427387904) (w : World) (hP : Parts w w.heap.size A (ps.map ints)) :
    Calls Try.prog 68 #[.slice A ps.length c] w fun e w' => e = .returned (.int .u32 (mk 0 (ints ps.flatten))) ∧ Below w.heap.size w w' := by
  have HL := Lib.hid hlens
  have HP := Lib.hid hP
  clear hlens hP
  go_enter Try.func68, Try.ntmps68
  go_wp2_with fail
  refine (from_any 0 (by omega) (by omega) A c ps hlen HL.out _ HP.out).mono ?_
  rintro e w' ⟨rfl, hB⟩
  have HB := Lib.hid hB
  clear hB
  go_wp2_with fail
  go_ret
  exact ⟨rfl, HB.out⟩

/-- One part, in a new block. -/
theorem parts_one (w : World) (t : TypeId) (X : Option Addr) (b : List B8) (c B : Nat) (hB : B = w.heap.size + 1) (hR : Reads w w.heap.size 1 X b.length (u8s (ints b))) :
    Parts (w.alloc (.cells #[.slice X b.length c] t)) B (some ⟨w.heap.size, 0, none⟩) ([b].map ints) := by
  subst hB
  refine ⟨[.slice X b.length c], ⟨rfl, fun _ => ⟨_, rfl, by simp, ?_⟩⟩, ?_⟩
  · intro j u hu
    cases j with
    | zero => cases hu; exact (Blk.new w t #[.slice X b.length c]).cell 0
    | succ j => simp at hu
  · intro i l hl
    cases i with
    | zero => cases hl; exact ⟨X, c, by rw [ints_length]; rfl, by rw [ints_length]; exact (hR.alloc (Nat.le_refl _) _).more (by omega)⟩
    | succ i => simp at hl
theorem parts_two (w : World) (t : TypeId) (X Y : Option Addr) (b d : List B8) (c c' B : Nat) (hB : B = w.heap.size + 1) (hR : Reads w w.heap.size 1 X b.length (u8s (ints b))) (hS : Reads w w.heap.size 1 Y d.length (u8s (ints d))) :
    Parts (w.alloc (.cells #[.slice X b.length c, .slice Y d.length c'] t)) B (some ⟨w.heap.size, 0, none⟩) ([b, d].map ints) := by
  subst hB
  refine ⟨[.slice X b.length c, .slice Y d.length c'], ⟨rfl, fun _ => ⟨_, rfl, by simp, ?_⟩⟩, ?_⟩
  · intro j u hu
    match j with
    | 0 => cases hu; exact (Blk.new w t #[.slice X b.length c, .slice Y d.length c']).cell 0
    | 1 => cases hu; exact (Blk.new w t #[.slice X b.length c, .slice Y d.length c']).cell 1
    | j + 2 => simp at hu
  · intro i l hl
    match i with
    | 0 => cases hl; exact ⟨X, c, by rw [ints_length]; rfl, by rw [ints_length]; exact (hR.alloc (Nat.le_refl _) _).more (by omega)⟩
    | 1 => cases hl; exact ⟨Y, c', by rw [ints_length]; rfl, by rw [ints_length]; exact (hS.alloc (Nat.le_refl _) _).more (by omega)⟩
    | i + 2 => simp at hl
/-- A new block of bytes. -/
theorem reads_new (w : World) (t : TypeId) (b : List B8) (B n : Nat) (hB : B = w.heap.size + 1) (hn : n = b.length) (fr : Nat × Nat) : Reads (w.alloc (.cells (u8s (ints b)).toArray t fr)) B 1 (some ⟨w.heap.size, 0, none⟩) n (u8s (ints b)) := by
  subst hB; subst hn
  refine ⟨by simp [u8s, ints], fun _ => ⟨_, rfl, by simp, fun j u hu => ?_⟩⟩
  have h : (w.alloc (.cells (u8s (ints b)).toArray t fr)).heap[w.heap.size]? = some (.cells (u8s (ints b)).toArray t fr) := World.alloc_heap_new w _
  rw [show (⟨w.heap.size, 0, none⟩ : Addr).add j = ⟨w.heap.size, j, none⟩ from by unfold Addr.add; split <;> simp_all]
  simp only [World.cell?]
  rw [h]
  simpa using hu

theorem of_one (X : Option Addr) (c : Nat) (b : List B8) (hb : b.length ≤ 4611686018427387904) (w : World) (t : TypeId) (hR : Reads w w.heap.size 1 X b.length (u8s (ints b))) :
    Calls Try.prog 68 #[.slice (some ⟨w.heap.size, 0, none⟩) 1 1] (w.alloc (.cells #[.slice X b.length c] t)) fun e w' => e = .returned (.int .u32 (mk 0 (ints b))) ∧ Below w.heap.size w w' := by
  have h := of_any (some ⟨w.heap.size, 0, none⟩) 1 [b] (by simp) (by simpa using hb) (w.alloc (.cells #[.slice X b.length c] t)) (parts_one w t X b c _ (by simp) hR)
  refine h.mono fun e w' ⟨he, hB⟩ => ⟨by simpa using he, ?_⟩
  exact ((Below.refl _ w).alloc (Nat.le_refl _) _).trans (hB.mono (by simp))
theorem of_two (X Y : Option Addr) (c c' : Nat) (b d : List B8) (hb : b.length ≤ 4611686018427387904) (hd : d.length ≤ 4611686018427387904) (w : World) (t : TypeId) (hR : Reads w w.heap.size 1 X b.length (u8s (ints b))) (hS : Reads w w.heap.size 1 Y d.length (u8s (ints d))) :
    Calls Try.prog 68 #[.slice (some ⟨w.heap.size, 0, none⟩) 2 2] (w.alloc (.cells #[.slice X b.length c, .slice Y d.length c'] t)) fun e w' => e = .returned (.int .u32 (mk 0 (ints (b ++ d)))) ∧ Below w.heap.size w w' := by
  have h := of_any (some ⟨w.heap.size, 0, none⟩) 2 [b, d] (by simp) (by simp; exact ⟨hb, hd⟩) (w.alloc (.cells #[.slice X b.length c, .slice Y d.length c'] t)) (parts_two w t X Y b d c c' _ (by simp) hR hS)
  refine h.mono fun e w' ⟨he, hB⟩ => ⟨by simpa using he, ?_⟩
  exact ((Below.refl _ w).alloc (Nat.le_refl _) _).trans (hB.mono (by simp))
end Go.Proofs.Ytfdldbfjeamlcaa.MarkOf
/-! log.four, log.number. -/
namespace Go.Proofs.Ytfdldbfjeamlcaa.LogFour
open Go.Sort Go.RowKit Mem RecCod RecRead RecAll
set_option linter.unusedVariables false
set_option linter.unusedSimpArgs false

/-- A number's 4 bytes. -/
def fourB (n : Int) : Bs := [n % 256, n / 256 % 256, n / 65536 % 256, n / 16777216 % 256]
theorem fourB_oct (n : Int) : Oct (fourB n) := fun b hb => by
  simp only [fourB, List.mem_cons, List.not_mem_nil, or_false] at hb
  rcases hb with rfl | rfl | rfl | rfl <;> omega
/-- That of 4 bytes. -/
def numb (a b c d : Int) : Int := a + 256 * b + 65536 * c + 16777216 * d
theorem or4 {a b c d : Int} (ha : 0 ≤ a ∧ a < 256) (hb : 0 ≤ b ∧ b < 256) (hc : 0 ≤ c ∧ c < 256) (hd : 0 ≤ d ∧ d < 256) :
    bits .or .u32 (bits .or .u32 (bits .or .u32 a (b * 256)) (c * 65536)) (d * 16777216) = numb a b c d := by
  have e1 := Go.u32_or a (b * 256) (by omega) (by omega) (by omega) (by omega)
  have f1 := Nat.two_pow_add_eq_or_of_lt (i := 8) (b := a.toNat) (by omega) b.toNat
  rw [show (b * 256).toNat = 2 ^ 8 * b.toNat by omega, Nat.or_comm, ← f1] at e1
  rw [e1]
  have g1 : ((2 ^ 8 * b.toNat + a.toNat : Nat) : Int) = a + 256 * b := by omega
  rw [g1]
  have e2 := Go.u32_or (a + 256 * b) (c * 65536) (by omega) (by omega) (by omega) (by omega)
  have f2 := Nat.two_pow_add_eq_or_of_lt (i := 16) (b := (a + 256 * b).toNat) (by omega) c.toNat
  rw [show (c * 65536).toNat = 2 ^ 16 * c.toNat by omega, Nat.or_comm, ← f2] at e2
  rw [e2]
  have g2 : ((2 ^ 16 * c.toNat + (a + 256 * b).toNat : Nat) : Int) = a + 256 * b + 65536 * c := by omega
  rw [g2]
  have e3 := Go.u32_or (a + 256 * b + 65536 * c) (d * 16777216) (by omega) (by omega) (by omega) (by omega)
  have f3 := Nat.two_pow_add_eq_or_of_lt (i := 24) (b := (a + 256 * b + 65536 * c).toNat) (by omega) d.toNat
  rw [show (d * 16777216).toNat = 2 ^ 24 * d.toNat by omega, Nat.or_comm, ← f3] at e3
  rw [e3]
  unfold numb
  omega
theorem numb_four {n : Int} (h0 : 0 ≤ n) (h1 : n < 4294967296) : numb (n % 256) (n / 256 % 256) (n / 65536 % 256) (n / 16777216 % 256) = n := by
  unfold numb; omega
theorem four_any (n : Int) (h0 : 0 ≤ n) (h1 : n < 4294967296) (w : World) :
    Calls Try.prog 67 #[.int .u32 n] w fun e w' => e = .returned (.slice (some ⟨w.heap.size, 0, none⟩) 4 4) ∧ w' = w.alloc (.cells #[.int .u8 (n % 256), .int .u8 (n / 256 % 256), .int .u8 (n / 65536 % 256), .int .u8 (n / 16777216 % 256)] 5) := by
  go_enter Try.func67, Try.ntmps67
  go_wp2_with fail
  go_ret
  refine ⟨rfl, ?_⟩
  rw [show n / 16777216 % 256 = n / 16777216 by omega]
set_option maxRecDepth 100000 in
set_option maxHeartbeats 2000000 in
theorem number_any (X : Option Addr) (t : Bs) (c : Nat) (a b d f : Int) (u : Bs) (ht : t = a :: b :: d :: f :: u) (ho : Oct t) (hl : t.length ≤ 9223372036854775807) (w : World) (hX : TxtAt w X t) :
    Calls Try.prog 100 #[.slice X t.length c] w fun e w' => e = .returned (.int .u32 (numb a b d f)) ∧ Below w.heap.size w w' := by
  subst ht
  obtain ⟨tb, o, rfl, h1, x0⟩ := hX 0 a rfl
  obtain ⟨tb1, o1, e1, _, x1⟩ := hX 1 b rfl
  cases e1
  obtain ⟨tb2, o2, e2, _, x2⟩ := hX 2 d rfl
  cases e2
  obtain ⟨tb3, o3, e3, _, x3⟩ := hX 3 f rfl
  cases e3
  have c0 : w.cell? ⟨tb, o, none⟩ = some (.int .u8 a) := x0
  have c1 : w.cell? ⟨tb, o + 1, none⟩ = some (.int .u8 b) := x1
  have c2 : w.cell? ⟨tb, o + 2, none⟩ = some (.int .u8 d) := x2
  have c3 : w.cell? ⟨tb, o + 3, none⟩ = some (.int .u8 f) := x3
  have ha := ho a (by simp)
  have hb := ho b (by simp)
  have hd := ho d (by simp)
  have hf := ho f (by simp)
  clear x0 x1 x2 x3 hX ho h1
  have hlen : (a :: b :: d :: f :: u).length = u.length + 4 := rfl
  rw [hlen] at hl ⊢
  have HO := Lib.hid (or4 ha hb hd hf)
  obtain ⟨ha0, ha1⟩ := ha
  obtain ⟨hb0, hb1⟩ := hb
  obtain ⟨hd0, hd1⟩ := hd
  obtain ⟨hf0, hf1⟩ := hf
  clear hlen
  go_enter Try.func100, Try.ntmps100
  go_upto_region 1 with fail
  have kq0 := cell_regrown c0
  have kq1 := cell_regrown c1
  have kq2 := cell_regrown c2
  have kq3 := cell_regrown c3
  refine wp_region_quiet_below (by kernel_rfl) (by kernel_rfl) ?_
  repeat (go_big_quiet_step (first | fail))
  refine wpQuiet_nil ?_
  intro _ hw'
  obtain ⟨⟨dq, osq⟩, hw''⟩ := hw'
  subst hw''
  have hBq := below_regrown w dq osq
  clear kq0 kq1 kq2 kq3
  generalize grow (redrawn w dq) osq = w2 at *
  go_wp2_with fail
  go_ret
  refine ⟨?_, hBq⟩
  rw [← HO.out]; rfl
end Go.Proofs.Ytfdldbfjeamlcaa.LogFour
