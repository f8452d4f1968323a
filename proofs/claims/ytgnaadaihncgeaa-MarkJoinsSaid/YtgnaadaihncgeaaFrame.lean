/- What every law's row wants beside its walk: the arguments read behind the call as they read before, where nothing below the heap's old size has turned; how arguments of the types that occur are opened. No conditions but those named. -/
import Derived.Test.YtgnaadaihncgeaaRows
import Derived.WalkKit
import Derived.ProofKit
import Derived.OpenShut
import Derived.ChangeOld
import Derived.Below
import Derived.Carry
import Derived.Lib.SmallJoins
import Derived.Lib.Hide
namespace Go.Proofs.Ytgnaadaihncgeaa.Lay
open Go.ChangeShapes Go.WideShapes Go.ChangeAt Go.RowKit Go.Joins
set_option linter.unusedVariables false

theorem own : ownKnob Try.prog.godebug = none := by kernel_rfl
theorem laidOut : laidOutB Try.prog = true := by kernel_rfl

/-- All arguments read as they did. -/
theorem trodAll_below {H : Type} {enc : TypeId × Value → H} {P : Program} (hl : laidOutB P = true) {W W' : World} :
    ∀ {ts : List TypeId} {vs : List Value} {ds : List (DataW H)} {ps : List MemPlace}, (∀ t ∈ ts, P.readableRec t = true ∧ t < P.types.size) →
    DataW.TrodAll enc P W 0 (fun _ => true) true ts vs ds ps → Below W.heap.size W W' → (∀ x ∈ ps, x.block < W.heap.size) →
    DataW.TrodAll enc P W' 0 (fun b => decide (b < W.heap.size)) true ts vs ds ps
  | [], vs, ds, ps, _, h, _, _ => by obtain ⟨rfl, rfl, rfl⟩ := trodAll_nil h; exact trodAll_mk0
  | t :: ts, vs, ds, ps, hok, h, hb, hlt => by
    obtain ⟨v, vs', d, ds', p, q, rfl, rfl, rfl, h0, r0⟩ := trodAll_cons h
    have h1 := Below.trod hl (hok t (by simp)).1 (hok t (by simp)).2 h0 hb (fun x hx => hlt x (by simp [hx]))
    exact trodAll_cons_mk h1 (trodAll_below hl (fun u hu => hok u (by simp [hu])) r0 hb (fun x hx => hlt x (by simp [hx])))
end Go.Proofs.Ytgnaadaihncgeaa.Lay
