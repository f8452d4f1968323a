/- How arguments that are commands, or records, are opened. No conditions. -/
import Derived.Test.YtfdldbfjeamlcaaOpenRec0
namespace Go.Proofs.Ytfdldbfjeamlcaa.OpenRec
open Go.ChangeShapes Go.WideShapes Go.ChangeAt Go.RowKit Go.Joins Go.Deep Mem RecMath RecCommand RecVal Lay OpenRec0
set_option linter.unusedVariables false
set_option linter.unusedSimpArgs false

theorem el_cmd {H : Type} {enc : TypeId × Value → H} {W : World} {held : Bool} {fuel : Nat} {cs : List Value} {x : DataW H × List MemPlace} (hlen : cs.length = 28) (h : DataW.trod enc Try.prog W 0 (fun _ => true) held fuel 34 cs = some x) :
    ∃ (c : CV) (Y : Option Addr) (cy : Nat), cs = cL c Y cy ∧ c.af.length ≤ cy ∧ cy ≤ maxLen ∧ IntsAt W Y c.af ∧ CWf c ∧ W8 c.kd ∧ W8 c.st := by
  obtain ⟨v0, v10, v11, v12, v130x, v130y, v130z, v131x, v131y, v131z, v132, v14, v15, v16, v17Y, v17c, v17l, v18, v19, v2, v30x, v30y, v30z, v31x, v31y, v31z, v40, v41, v5, v6, rfl, w0, w1, w2, w3, w4, w5, w6, w7, w8, w9, w10, w11, w12, w13, w14, w15, w16, w17, w18, w19, w20, w21, w22, w23, w24⟩ := trod_Command hlen h
  exact ⟨⟨v0, v10, v11, v12, v130x, v130y, v130z, v131x, v131y, v131z, v132, v14, v15, v16, v17l, v18, v19, v2, v30x, v30y, v30z, v31x, v31y, v31z, v40, v41, v5, v6⟩, v17Y, v17c, rfl, w9, w10, w11, ⟨by simp only [List.forall_mem_cons]; exact ⟨w1, w2, w3, w4, w5, w6, w7, w8, w14, w15, w16, w17, w18, w19, w20, w21, w22, w23, w24, fun n hn => by cases hn⟩, w12⟩, w0, w13⟩
set_option maxRecDepth 100000 in
/-- An argument that is a command. -/
theorem open_cmd {H : Type} {enc : TypeId × Value → H} {W : World} {r : Reach} {b0 : Nat} {v : Value} {d : DataW H} {p : List MemPlace} {held : Bool}
    (hv : Value.okWide Try.prog W r b0 34 v) (h : DataW.Trod enc Try.prog W 0 (fun _ => true) held 34 v d p) :
    ∃ (c : CV) (Y : Option Addr) (cy : Nat), v = .agg (cL c Y cy).toArray ∧ c.af.length ≤ cy ∧ cy ≤ maxLen ∧ IntsAt W Y c.af ∧ CWf c ∧ W8 c.kd ∧ W8 c.st := by
  obtain ⟨cs, rfl, hsz⟩ := okWide_struct Try.underlying34 hv
  obtain ⟨fuel, hf⟩ := h
  obtain ⟨c, Y, cy, e, h1⟩ := el_cmd (by simpa [Value.cells] using hsz.trans (by kernel_rfl)) hf
  refine ⟨c, Y, cy, ?_, h1⟩
  have e2 : cs.toList = cL c Y cy := by simpa only [Value.cells] using e
  rw [← e2]
theorem el_state {H : Type} {enc : TypeId × Value → H} {W : World} {held : Bool} {fuel : Nat} {cs : List Value} {x : DataW H × List MemPlace} (hlen : cs.length = 16) (h : DataW.trod enc Try.prog W 0 (fun _ => true) held fuel 49 cs = some x) : ∃ s x, cs = sL s x ∧ StAt W s x ∧ SWf s := by
  obtain ⟨v00x, v00y, v00z, v01, v02, v03, v04, v05Y, v05c, v05l, v1, v2, v3Y, v3c, v3l, v4Y, v4c, v4l, v5Y, v5c, v5l, v6Y, v6c, v6l, v7Y, v7c, v7l, v8Y, v8c, v8l, rfl, w0, w1, w2, w3, w4, w5, w6, w7, w8, w9, w10, w11, w12, w13, w14, w15, w16, w17, w18, w19, w20, w21, w22, w23, w24, w25, w26, w27, w28, w29, w30, w31, w32, w33, w34, w35, w36⟩ := trod_State hlen h
  exact ⟨⟨v00x, v00y, v00z, v01, v02, v03, v04, v05l, v1, v2, v3l, v4l, v5l, v6l, v7l, v8l⟩, ⟨v05Y, v05c, v3Y, v3c, v4Y, v4c, v5Y, v5c, v6Y, v6c, v7Y, v7c, v8Y, v8c⟩, rfl, ⟨w9, w15, w19, w23, w27, w31, w35, w7, w13, w17, w21, w25, w29, w33⟩, ⟨⟨w0, w1, w2, w3, w4, w5, w6, w11, w12⟩, w10, w16, w20, w24, w28, w32, w36⟩⟩
/-- What comes in as a record. -/
def RIn (W : World) (r : RV) (x : SA) (Y : Option Addr) (cy : Nat) : Prop := StAt W r.s x ∧ SWf r.s ∧ W64 r.g ∧ r.c.af.length ≤ cy ∧ cy ≤ maxLen ∧ IntsAt W Y r.c.af ∧ CWf r.c ∧ W8 r.c.kd ∧ W8 r.c.st
def rRep (W : World) (r : RV) (cs : List Value) : Prop := ∃ x Y cy, cs = rL r x Y cy ∧ RIn W r x Y cy
theorem RIn.up {w w' : World} {r : RV} {x : SA} {Y : Option Addr} {cy : Nat} (h : RIn w r x Y cy) (hB : Below w.heap.size w w') : RIn w' r x Y cy := ⟨h.1.up hB, h.2.1, h.2.2.1, h.2.2.2.1, h.2.2.2.2.1, h.2.2.2.2.2.1.up hB, h.2.2.2.2.2.2⟩
theorem rStays : Stays rRep := fun _ _ _ _ h hB => by
  obtain ⟨x, Y, cy, e, h1⟩ := h
  exact ⟨x, Y, cy, e, h1.up hB⟩
theorem el_record {H : Type} {enc : TypeId × Value → H} {W : World} {held : Bool} {fuel : Nat} {cs : List Value} {x : DataW H × List MemPlace} (hlen : cs.length = 45) (h : DataW.trod enc Try.prog W 0 (fun _ => true) held fuel 51 cs = some x) : ∃ a, rRep W a cs ∧ True := by
  obtain ⟨xs, n, _, hx, _, hl, hg⟩ := DataW.trod_struct Try.underlying51 h
  have q0 := hg 0 _ rfl
  have q1 := hg 1 _ rfl
  have q2 := hg 2 _ rfl
  match xs, hl with
  | [z0, z1, z2], _ =>
    simp only [List.getElem_toArray, List.getElem_cons_zero, List.getElem_cons_succ] at q0 q1 q2
    rw [show Try.prog.cellsOf 3 = 1 from by kernel_rfl] at q0
    rw [show Try.prog.cellsOf 49 = 16 from by kernel_rfl] at q1
    rw [show Try.prog.cellsOf 34 = 28 from by kernel_rfl] at q2
    obtain ⟨c0, rest, rfl⟩ : ∃ c0 rest, cs = c0 :: rest := by
      cases cs with
      | nil => simp at hlen
      | cons a l => exact ⟨a, l, rfl⟩
    have hr : rest.length = 44 := by simpa using hlen
    have p0 : DataW.trod enc Try.prog W 0 (fun _ => true) held n 3 [c0] = some z0 := q0
    obtain ⟨v, e, _, wv⟩ := DataW.trod_int Try.underlying3 p0
    simp at e
    subst e
    have p1 : DataW.trod enc Try.prog W 0 (fun _ => true) held n 49 (rest.take 16) = some z1 := q1
    have p2 : DataW.trod enc Try.prog W 0 (fun _ => true) held n 34 ((rest.drop 16).take 28) = some z2 := q2
    obtain ⟨s, y, e1, h1, h2⟩ := el_state (by rw [List.length_take, hr]; rfl) p1
    obtain ⟨c, Y, cy, e2, h3⟩ := el_cmd (by rw [List.length_take, List.length_drop, hr]; rfl) p2
    have e : rest = sL s y ++ cL c Y cy := by
      rw [List.take_of_length_le (show (rest.drop 16).length ≤ 28 by rw [List.length_drop, hr]; omega)] at e2
      rw [← e1, ← e2]
      exact (List.take_append_drop 16 rest).symm
    subst e
    exact ⟨⟨v, s, c⟩, ⟨y, Y, cy, rfl, h1, h2, wv, h3⟩, trivial⟩
set_option maxRecDepth 100000 in
/-- An argument that is a record. -/
theorem open_rec {H : Type} {enc : TypeId × Value → H} {W : World} {r : Reach} {b0 : Nat} {v : Value} {d : DataW H} {p : List MemPlace} {held : Bool}
    (hv : Value.okWide Try.prog W r b0 51 v) (h : DataW.Trod enc Try.prog W 0 (fun _ => true) held 51 v d p) :
    ∃ (c : RV) (x : SA) (Y : Option Addr) (cy : Nat), v = .agg (rL c x Y cy).toArray ∧ RIn W c x Y cy := by
  obtain ⟨cs, rfl, hsz⟩ := okWide_struct Try.underlying51 hv
  obtain ⟨fuel, hf⟩ := h
  obtain ⟨c, ⟨x, Y, cy, e, hI⟩, _⟩ := el_record (by simpa [Value.cells] using hsz.trans (by kernel_rfl)) hf
  refine ⟨c, x, Y, cy, ?_, hI⟩
  have e2 : cs.toList = rL c x Y cy := by simpa only [Value.cells] using e
  rw [← e2]
end Go.Proofs.Ytfdldbfjeamlcaa.OpenRec
