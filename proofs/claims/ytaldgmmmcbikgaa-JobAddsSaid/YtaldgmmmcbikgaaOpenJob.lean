/- How arguments that are jobs, or tables of jobs, are opened. No conditions. -/
import Derived.Deep.Slices
import Derived.Test.YtaldgmmmcbikgaaFrame
import Derived.Test.YtaldgmmmcbikgaaOpenArr
import Derived.Test.YtaldgmmmcbikgaaTurnMap
import Derived.Test.YtaldgmmmcbikgaaJobMem
namespace Go.Proofs.Ytaldgmmmcbikgaa.Lay
open Go.ChangeShapes Go.WideShapes Go.ChangeAt Go.RowKit Go.Joins Go.Deep Mem TurnMath TurnMap JobMath JobMem
set_option linter.unusedVariables false
set_option linter.unusedSimpArgs false

/-- Numbers that came in. -/
theorem ints_trod {H : Type} {enc : TypeId × Value → H} {W : World} {held : Bool} {fuel : Nat} {v : Value} {x : DataW H × List MemPlace} (hf : DataW.trod enc Try.prog W 0 (fun _ => true) held fuel 31 [v] = some x) :
    ∃ (Y : Option Addr) (c : Nat) (l : List Int), v = .slice Y l.length c ∧ l.length ≤ c ∧ c ≤ maxLen ∧ IntsAt W Y l ∧ ∀ n ∈ l, (Lit.int .i64 n).wf = true := by
  rcases open_ints Try.underlying31 Try.underlying3 (by kernel_rfl) hf with ⟨hcs, _⟩ | ⟨a, len, cap, zs, hcs, _, hl, hm, hz, _, hcell, hwz⟩
  · simp at hcs
    exact ⟨none, 0, [], hcs, by simp, by simp [maxLen], IntsAt.nil, by simp⟩
  · simp at hcs
    have hzl : zs.length = cap := by simpa using hz
    have hlen : (zs.take len).length = len := by simp; omega
    refine ⟨some a, cap, zs.take len, by rw [hcs, hlen], by omega, hm, fun i n hi => ?_, fun n hn => hwz n (List.mem_of_mem_take hn)⟩
    have hil : i < len := by have := (List.getElem?_eq_some_iff.1 hi).1; simp at this; omega
    rw [List.getElem?_take_of_lt hil] at hi
    have hc := hcell i (by omega)
    have h0 := hcell 0 (by omega)
    have h0' : W.cell? a = some (.int .i64 (zs.getD 0 0)) := by
      have e : a.add 0 = a := by obtain ⟨b, o, s⟩ := a; simp [Addr.add]
      rwa [e] at h0
    have hs := World.cell?_spot h0'
    obtain ⟨b, o, s⟩ := a
    simp at hs
    subst hs
    refine ⟨b, o, rfl, block_of_cell h0', ?_⟩
    rw [add_flat] at hc
    rw [hc, List.getD_eq_getElem?_getD, hi]
    rfl
/-- A job's numbers, as they come in. -/
def JWf (j : JV) : Prop := (Lit.int .i64 j.id).wf = true ∧ (Lit.int .i64 j.us).wf = true ∧ (Lit.int .i64 j.cl).wf = true ∧ WWf j.x ∧ (Lit.int .i64 j.wa).wf = true ∧ (Lit.int .i64 j.pr).wf = true ∧ (Lit.int .u8 j.st).wf = true ∧ (Lit.int .i64 j.ca).wf = true ∧ ∀ n ∈ j.af, (Lit.int .i64 n).wf = true
set_option maxRecDepth 100000 in
theorem trod_job {H : Type} {enc : TypeId × Value → H} {W : World} {held : Bool} {fuel : Nat} {cs : List Value} {x : DataW H × List MemPlace} (hlen : cs.length = 16) (h : DataW.trod enc Try.prog W 0 (fun _ => true) held fuel 33 cs = some x) :
    ∃ (j : JV) (Y : Option Addr) (c : Nat), cs = (j.arr Y c).toList ∧ j.af.length ≤ c ∧ c ≤ maxLen ∧ IntsAt W Y j.af ∧ JWf j := by
  obtain ⟨xs, n, _, hx, _, hl, hg⟩ := DataW.trod_struct Try.underlying33 h
  have ki : Try.prog.cellsOf 3 = 1 := by kernel_rfl
  have kb : Try.prog.cellsOf 4 = 1 := by kernel_rfl
  have ku : Try.prog.cellsOf 5 = 1 := by kernel_rfl
  have kw : Try.prog.cellsOf 30 = 7 := by kernel_rfl
  have ks : Try.prog.cellsOf 31 = 1 := by kernel_rfl
  have k3 : Try.prog.cellsOf 22 = 3 := by kernel_rfl
  have kb3 : Try.prog.cellsOf 28 = 3 := by kernel_rfl
  match cs, hlen with
  | [c0, c1, c2, c3, c4, c5, c6, c7, c8, c9, c10, c11, c12, c13, c14, c15], _ =>
    have q0 := hg 0 _ rfl
    have q1 := hg 1 _ rfl
    have q2 := hg 2 _ rfl
    have q3 := hg 3 _ rfl
    have q4 := hg 4 _ rfl
    have q5 := hg 5 _ rfl
    have q6 := hg 6 _ rfl
    have q7 := hg 7 _ rfl
    have q8 := hg 8 _ rfl
    have q9 := hg 9 _ rfl
    match xs, hl with
    | [z0, z1, z2, z3, z4, z5, z6, z7, z8, z9], _ =>
      simp only [List.getElem_toArray, List.getElem_cons_zero, List.getElem_cons_succ] at q0
      rw [ki] at q0
      simp at q0
      simp only [List.getElem_toArray, List.getElem_cons_zero, List.getElem_cons_succ] at q1
      rw [ki] at q1
      simp at q1
      simp only [List.getElem_toArray, List.getElem_cons_zero, List.getElem_cons_succ] at q2
      rw [ki] at q2
      simp at q2
      simp only [List.getElem_toArray, List.getElem_cons_zero, List.getElem_cons_succ] at q3
      rw [kw] at q3
      simp at q3
      simp only [List.getElem_toArray, List.getElem_cons_zero, List.getElem_cons_succ] at q4
      rw [ki] at q4
      simp at q4
      simp only [List.getElem_toArray, List.getElem_cons_zero, List.getElem_cons_succ] at q5
      rw [ki] at q5
      simp at q5
      simp only [List.getElem_toArray, List.getElem_cons_zero, List.getElem_cons_succ] at q6
      rw [kb] at q6
      simp at q6
      simp only [List.getElem_toArray, List.getElem_cons_zero, List.getElem_cons_succ] at q7
      rw [ks] at q7
      simp at q7
      simp only [List.getElem_toArray, List.getElem_cons_zero, List.getElem_cons_succ] at q8
      rw [ku] at q8
      simp at q8
      simp only [List.getElem_toArray, List.getElem_cons_zero, List.getElem_cons_succ] at q9
      rw [ki] at q9
      simp at q9
      obtain ⟨v0, e0, _, w0⟩ := DataW.trod_int Try.underlying3 q0
      obtain ⟨v1, e1, _, w1⟩ := DataW.trod_int Try.underlying3 q1
      obtain ⟨v2, e2, _, w2⟩ := DataW.trod_int Try.underlying3 q2
      obtain ⟨ys, n3, _, _, _, hl3, hg3⟩ := DataW.trod_struct Try.underlying30 q3
      have r0 := hg3 0 _ rfl
      have r1 := hg3 1 _ rfl
      have r2 := hg3 2 _ rfl
      match ys, hl3 with
      | [y0, y1, y2], _ =>
        simp only [List.getElem_toArray, List.getElem_cons_zero, List.getElem_cons_succ] at r0 r1 r2
        rw [k3] at r0
        rw [kb3] at r1
        rw [kb] at r2
        simp at r0 r1 r2
        obtain ⟨_, _, _, _, _, a0, a1, a2⟩ := trod_array3 Try.underlying22 ki r0
        obtain ⟨_, _, _, _, _, b0, b1, b2⟩ := trod_array3 Try.underlying28 kb r1
        obtain ⟨n1, f1, _, x1⟩ := DataW.trod_int Try.underlying3 a0
        obtain ⟨n2, f2, _, x2⟩ := DataW.trod_int Try.underlying3 a1
        obtain ⟨n3, f3, _, x3⟩ := DataW.trod_int Try.underlying3 a2
        obtain ⟨n4, f4, _⟩ := DataW.trod_bool Try.underlying4 b0
        obtain ⟨n5, f5, _⟩ := DataW.trod_bool Try.underlying4 b1
        obtain ⟨n6, f6, _⟩ := DataW.trod_bool Try.underlying4 b2
        obtain ⟨n7, f7, _⟩ := DataW.trod_bool Try.underlying4 r2
        obtain ⟨v4, e4, _, w4⟩ := DataW.trod_int Try.underlying3 q4
        obtain ⟨v5, e5, _, w5⟩ := DataW.trod_int Try.underlying3 q5
        obtain ⟨v6, e6, _⟩ := DataW.trod_bool Try.underlying4 q6
        obtain ⟨Y, c, l, e7, hlc, hcm, hY, hwl⟩ := ints_trod q7
        obtain ⟨v8, e8, _, w8⟩ := DataW.trod_int Try.underlying5 q8
        obtain ⟨v9, e9, _, w9⟩ := DataW.trod_int Try.underlying3 q9
        simp at e0 e1 e2 e4 e5 e6 e8 e9 f1 f2 f3 f4 f5 f6 f7
        subst e0 e1 e2 e4 e5 e6 e7 e8 e9 f1 f2 f3 f4 f5 f6 f7
        exact ⟨⟨v0, v1, v2, ⟨n1, n2, n3, n4, n5, n6, n7⟩, v4, v5, v6, l, v8, v9⟩, Y, c, rfl, hlc, hcm, hY, w0, w1, w2, ⟨x1, x2, x3⟩, w4, w5, w8, w9, hwl⟩
set_option maxRecDepth 100000 in
/-- An argument that is a job. -/
theorem open_job {H : Type} {enc : TypeId × Value → H} {W : World} {r : Reach} {b0 : Nat} {v : Value} {d : DataW H} {p : List MemPlace} {held : Bool}
    (hv : Value.okWide Try.prog W r b0 33 v) (h : DataW.Trod enc Try.prog W 0 (fun _ => true) held 33 v d p) :
    ∃ (j : JV) (Y : Option Addr) (c : Nat), v = .agg (j.arr Y c) ∧ j.af.length ≤ c ∧ c ≤ maxLen ∧ IntsAt W Y j.af ∧ JWf j := by
  obtain ⟨cs, rfl, hsz⟩ := okWide_struct Try.underlying33 hv
  obtain ⟨fuel, hf⟩ := h
  obtain ⟨j, Y, c, e, h1, h2, h3, h4⟩ := trod_job (by simpa [Value.cells] using hsz.trans (by kernel_rfl)) hf
  refine ⟨j, Y, c, ?_, h1, h2, h3, h4⟩
  have e2 : cs.toList = (j.arr Y c).toList := by simpa [Value.cells] using e
  rw [Array.toList_inj.1 e2]
set_option maxRecDepth 100000 in
/-- An argument that is a slice of jobs. -/
theorem open_jobs {H : Type} {enc : TypeId × Value → H} {W : World} {r : Reach} {b0 : Nat} {v : Value} {d : DataW H} {p : List MemPlace} {held : Bool}
    (hv : Value.okWide Try.prog W r b0 27 v) (h : DataW.Trod enc Try.prog W 0 (fun _ => true) held 27 v d p) :
    ∃ (X : Option Addr) (c : Nat) (l : List JV), v = .slice X l.length c ∧ l.length ≤ c ∧ c ≤ maxLen ∧ JobsAt W X l ∧ ∀ j ∈ l, JWf j ∧ j.af.length ≤ maxLen := by
  obtain ⟨X0, len0, cap0, rfl⟩ := okWide_slice Try.underlying27 hv
  obtain ⟨fuel, hf⟩ := h
  rcases open_slice Try.underlying27 hf with ⟨h0, _⟩ | ⟨⟨b, o, s⟩, len, cap, m, n, D, Pl, hcs, hb, hl, hm, hmm, hx, hi⟩
  · simp [Value.cells] at h0
    obtain ⟨rfl, rfl, rfl⟩ := h0
    exact ⟨none, 0, [], rfl, by simp, by simp [maxLen], JobsAt.nil, by simp⟩
  · simp [Value.cells] at hcs
    obtain ⟨rfl, rfl, rfl⟩ := hcs
    have hmc : m = cap0 := by rw [hmm]; rfl
    have kc : Try.prog.cellsOf 33 = 16 := by kernel_rfl
    have hs0 : 0 < len0 → s = none := fun hl0 => by
      obtain ⟨cs', hc, ht'⟩ := hi 0 (by omega)
      rw [kc] at hc
      obtain ⟨_, hcl, hat⟩ := World.cells?_some hc
      obtain ⟨j, Y, c, e, _⟩ := trod_job hcl ht'
      have h0 := hat 0 (by omega)
      have h0' : W.cell? ((⟨b, o, s⟩ : Addr).add 0) = some (.int .i64 j.id) := by
        rw [add_of_add] at h0
        rw [show 0 * 16 + 0 = 0 from rfl] at h0
        rw [h0, e]; rfl
      simpa [Addr.add] using World.cell?_spot h0'
    have hel : ∀ i, ∃ q : JV × Option Addr × Nat, i < len0 → b < W.heap.size ∧ s = none ∧ JobAt W b (o + i * 16) q.1 q.2.1 q.2.2 ∧ q.1.af.length ≤ q.2.2 ∧ q.2.2 ≤ maxLen ∧ IntsAt W q.2.1 q.1.af ∧ JWf q.1 := by
      intro i
      by_cases hlt : i < len0
      · obtain ⟨cs', hc, ht'⟩ := hi i (by omega)
        rw [kc] at hc
        obtain ⟨_, hcl, hat⟩ := World.cells?_some hc
        obtain ⟨j, Y, c, e, h1, h2, h3, h4⟩ := trod_job hcl ht'
        have hs : s = none := hs0 (by omega)
        subst hs
        have hcell : ∀ t u, t < 16 → (j.arr Y c)[t]? = some u → W.cell? ⟨b, o + i * 16 + t, none⟩ = some u := fun t u ht hu => by
          have h0 := hat t ht
          rw [add_flat, add_flat, e] at h0
          rw [h0]
          simpa using hu
        have hJ := job_of_cells hcell
        exact ⟨(j, Y, c), fun _ => ⟨cell_lt hJ.1, rfl, hJ, h1, h2, h3, h4⟩⟩
      · exact ⟨(default, none, 0), fun h => absurd h hlt⟩
    refine ⟨some ⟨b, o, s⟩, cap0, (List.range len0).map (fun i => (hel i).choose.1), by simp, by simpa using hl, hm, fun i q hq => ?_, fun j hj => ?_⟩
    · have hlt : i < len0 := by
        have := (List.getElem?_eq_some_iff.1 hq).1
        simpa using this
      have hq' : q = (hel i).choose.1 := by simpa [hlt] using hq.symm
      obtain ⟨g1, g2, g3, g4, g5, g6, g7⟩ := (hel i).choose_spec hlt
      subst g2
      rw [hq']
      exact ⟨b, o, _, _, rfl, g1, g3, g6⟩
    · obtain ⟨i, hi2, rfl⟩ := List.mem_map.1 hj
      obtain ⟨g1, g2, g3, g4, g5, g6, g7⟩ := (hel i).choose_spec (by simpa using hi2)
      exact ⟨g7, by omega⟩
end Go.Proofs.Ytaldgmmmcbikgaa.Lay
