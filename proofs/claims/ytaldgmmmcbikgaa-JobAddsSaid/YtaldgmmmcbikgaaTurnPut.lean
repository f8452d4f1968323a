/- The reference's put: a rising list with one more. -/
import Derived.BigRegion
import Derived.BigQuiet
import Derived.Lib.QuietBelow
import Derived.Deep.QuietTactic
import Derived.Deep.DeepCutAuto
import Derived.Test.YtaldgmmmcbikgaaTurnRef
namespace Go.Proofs.Ytaldgmmmcbikgaa.TurnPut
open Go.Sort (grow)
open Go.RowKit Mem SeqKit PosMath PosCheck TurnMath TurnWalks TurnMap TurnAppend TurnSorted TurnAll TurnFitsV TurnRef
set_option linter.unusedVariables false
set_option linter.unusedSimpArgs false

/-- Where put stands: what it has gone through, whether it has put, what it has. -/
def PI (x : WV) (m : List WV) (dn : Bool) (O : List WV) : Prop :=
  (∀ y ∈ m, y ≠ x) ∧ O.length ≤ m.length + 1 ∧ ((dn = true ∧ (∃ z ∈ m, numW x < numW z) ∧ ∀ t, put x (m ++ t) = O ++ t) ∨ (dn = false ∧ O = m ∧ ∀ t, put x (m ++ t) = m ++ put x t))
theorem PI.start (x : WV) : PI x [] false [] := ⟨(fun y h => by cases h), by simp, .inr ⟨rfl, rfl, fun t => rfl⟩⟩
theorem PI.more {x y : WV} {m O : List WV} (h : PI x m true O) (hy : y ≠ x) : PI x (m ++ [y]) true (O ++ [y]) := by
  obtain ⟨h1, h2, h3⟩ := h
  refine ⟨fun z hz => ?_, by simp; omega, ?_⟩
  · rcases List.mem_append.1 hz with e | e
    · exact h1 z e
    · rw [List.mem_singleton.1 e]; exact hy
  · rcases h3 with ⟨_, ⟨z, hz, hl⟩, ht⟩ | ⟨e, _⟩
    · refine .inl ⟨rfl, ⟨z, List.mem_append_left _ hz, hl⟩, fun t => ?_⟩
      rw [List.append_assoc, ht, List.append_assoc]
    · cases e
theorem PI.puts {x y : WV} {m O : List WV} (h : PI x m false O) (hy : y ≠ x) (hl : numW x < numW y) : PI x (m ++ [y]) true ((O ++ [x]) ++ [y]) := by
  obtain ⟨h1, h2, h3⟩ := h
  refine ⟨fun z hz => ?_, ?_, ?_⟩
  · rcases List.mem_append.1 hz with e | e
    · exact h1 z e
    · rw [List.mem_singleton.1 e]; exact hy
  · rcases h3 with ⟨e, _⟩ | ⟨_, rfl, _⟩
    · cases e
    · simp
  · rcases h3 with ⟨e, _⟩ | ⟨_, rfl, ht⟩
    · cases e
    · refine .inl ⟨rfl, ⟨y, List.mem_append_right _ (List.mem_singleton.2 rfl), hl⟩, fun t => ?_⟩
      rw [List.append_assoc, ht]
      simp only [List.singleton_append, put, if_neg hy, if_pos hl]
      simp
theorem PI.waits {x y : WV} {m O : List WV} (h : PI x m false O) (hy : y ≠ x) (hl : ¬ numW x < numW y) : PI x (m ++ [y]) false (O ++ [y]) := by
  obtain ⟨h1, h2, h3⟩ := h
  refine ⟨fun z hz => ?_, ?_, ?_⟩
  · rcases List.mem_append.1 hz with e | e
    · exact h1 z e
    · rw [List.mem_singleton.1 e]; exact hy
  · rcases h3 with ⟨e, _⟩ | ⟨_, rfl, _⟩
    · cases e
    · simp
  · rcases h3 with ⟨e, _⟩ | ⟨_, rfl, ht⟩
    · cases e
    · refine .inr ⟨rfl, rfl, fun t => ?_⟩
      rw [List.append_assoc, ht]
      simp only [List.singleton_append, put, if_neg hy, if_neg hl]
      simp
theorem PI.ended {x : WV} {m O : List WV} (h : PI x m true O) : put x m = O := by
  obtain ⟨_, _, ⟨_, _, ht⟩ | ⟨e, _⟩⟩ := h
  · simpa using ht []
  · cases e
theorem PI.last {x : WV} {m O : List WV} (h : PI x m false O) : put x m = O ++ [x] := by
  obtain ⟨_, _, ⟨e, _⟩ | ⟨_, rfl, ht⟩⟩ := h
  · cases e
  · have := ht []
    simpa [put] using this
theorem PI.found {x : WV} {m O t : List WV} {dn : Bool} (h : PI x m dn O) (hr : Rising (m ++ x :: t)) : put x (m ++ x :: t) = m ++ x :: t := by
  obtain ⟨_, _, ⟨_, ⟨z, hz, hl⟩, _⟩ | ⟨_, rfl, ht⟩⟩ := h
  · have := (List.pairwise_append.1 hr).2.2 z hz x (List.mem_cons_self ..)
    omega
  · rw [ht]; simp [put]
theorem less_num {x y : WV} (hx : WOk x) (hy : WOk y) : decide (cmpW x y < 0) = decide (numW x < numW y) := by
  rw [cmpW_num hx hy]
  unfold cmpI
  by_cases h : numW x < numW y
  · simp [h]
  · rw [if_neg h]
    split <;> simp [h]
theorem reads_one (W : World) (x : WV) : Reads (W.alloc (.cells x.arr WT)) (W.heap.size + 1) 7 (some ⟨W.heap.size, 0, none⟩) 1 x.cells := ⟨rfl, fun _ => ⟨_, rfl, by simp, cell_one W x⟩⟩
/-- What a row of one's own reads as. -/
theorem has_row {w : World} {B n : Nat} {v : Value} {l : List WV} (hn : n = l.length) (h : w.ownsRow B WT 7 v n (cellsL l)) : ∃ X cap, v = .slice X l.length cap ∧ Has w X l := by
  subst hn
  rcases h.2 with ⟨rfl, e⟩ | ⟨g, cap, cur, rfl, hb, hg, hc, hm, hs, ht⟩
  · rw [e]
    obtain rfl : l = [] := List.eq_nil_of_length_eq_zero e
    exact ⟨none, 0, rfl, Has.nil⟩
  · refine ⟨_, cap, rfl, fun i x hi => ?_⟩
    have hlt : i < l.length := (List.getElem?_eq_some_iff.1 hi).1
    have hcell : ∀ j, j < 7 → w.cell? ⟨g, i * 7 + j, none⟩ = x.cells[j]? := fun j hj => by
      have h1 := cellsL_get l i j x hi hj
      rw [← h1, ← ht, List.getElem?_take_of_lt (by omega)]
      simp [World.cell?, hg]
    have hgl : g < w.heap.size := (Array.getElem?_eq_some_iff.1 hg).1
    refine ⟨g, 0, rfl, hgl, ?_, ?_, ?_, ?_, ?_, ?_, ?_⟩
    · rw [Nat.zero_add]; exact hcell 0 (by omega)
    · rw [Nat.zero_add]; exact hcell 1 (by omega)
    · rw [Nat.zero_add]; exact hcell 2 (by omega)
    · rw [Nat.zero_add]; exact hcell 3 (by omega)
    · rw [Nat.zero_add]; exact hcell 4 (by omega)
    · rw [Nat.zero_add]; exact hcell 5 (by omega)
    · rw [Nat.zero_add]; exact hcell 6 (by omega)
theorem own_block_ge {w : World} {base size n j : Nat} {e : TypeId} {v : Value} {xs : List Value} (h : w.ownsRow base e size v n xs) (hj : v.ownBlock = some j) : base ≤ j := by
  rcases h.2 with ⟨rfl, _⟩ | ⟨g, cap, cur, rfl, hb, _⟩
  · simp [Value.ownBlock] at hj
  · have : g = j := by simpa [Value.ownBlock] using hj
    omega
theorem own_drewN {w : World} {B n : Nat} {v : Value} {xs : List Value} (h : w.ownsRow B WT 7 v n xs) (m : Nat) : (w.drewN m).ownsRow B WT 7 v n xs := h
theorem own_below {w w' : World} {B n : Nat} {v : Value} {xs : List Value} (h : w.ownsRow B WT 7 v n xs) (hb : Below w.heap.size w w') : w'.ownsRow B WT 7 v n xs := by
  refine ⟨h.1, ?_⟩
  rcases h.2 with h2 | ⟨g, cap, cur, e, h1, h2, h3⟩
  · exact .inl h2
  · exact .inr ⟨g, cap, cur, e, h1, (hb.block g (Array.getElem?_eq_some_iff.1 h2).1).trans h2, h3⟩
set_option maxRecDepth 100000 in
set_option maxHeartbeats 8000000 in
theorem put_any (X : Option Addr) (cap : Nat) (l : List WV) (x : WV) (hl : l.length ≤ 100) (hx : WOk x) (hok : ∀ y ∈ l, WOk y ∧ y.tn = x.tn) (hr : Rising l) (w : World) (hk : Has w X l) :
    Calls Try.prog 84 #[.slice X l.length cap, .agg #[.int .i64 x.a, .int .i64 x.b, .int .i64 x.c, .bool x.p, .bool x.q, .bool x.r, .bool x.tn]] w fun e w' => ∃ X' c', e = .returned (.slice X' (put x l).length c') ∧ Has w' X' (put x l) ∧ Below w.heap.size w w' := by
  obtain ⟨i0, hi0, hz0, hz1, hz2⟩ := info_parts w_info
  have HI := Lib.hid (And.intro hi0 (And.intro hz0 (And.intro hz1 hz2)))
  have HK := Lib.hid hk
  have HOK := Lib.hid hok
  have HR := Lib.hid hr
  have HX := Lib.hid hx
  clear hk hok hr hx hi0 hz0 hz1 hz2
  go_enter Try.func84, Try.ntmps84
  go_wp2_with fail
  have kb := Blk.new w 30 #[.int .i64 x.a, .int .i64 x.b, .int .i64 x.c, .bool x.p, .bool x.q, .bool x.r, .bool x.tn]
  have hb0 : Below w.heap.size w (w.alloc (.cells #[.int .i64 x.a, .int .i64 x.b, .int .i64 x.c, .bool x.p, .bool x.q, .bool x.r, .bool x.tn] 30)) := below_alloc (Below.refl _ _)
  have HB0 := Lib.hid (And.intro kb hb0)
  clear kb hb0
  generalize w.alloc (.cells #[.int .i64 x.a, .int .i64 x.b, .int .i64 x.c, .bool x.p, .bool x.q, .bool x.r, .bool x.tn] 30) = W0 at *
  go_loopw [5, 6, 7] (fun v d i wr => ∃ (k : Nat) (dn : Bool) (O : List WV), k ≤ l.length ∧ d = .bool dn ∧ i = .int .i64 k ∧ Hid (PI x (l.take k) dn O) ∧ Hid (wr.ownsRow (w.heap.size + 1) WT 7 v O.length (cellsL O)) ∧ Hid (Below w.heap.size w wr) ∧ Hid (Blk wr w.heap.size 30 #[.int .i64 x.a, .int .i64 x.b, .int .i64 x.c, .bool x.p, .bool x.q, .bool x.r, .bool x.tn]))
    (fun _ _ i _ => l.length - (intOf i).toNat)
  case atStart => exact ⟨0, false, [], Nat.zero_le _, rfl, rfl, PI.start x, ⟨rfl, .inl ⟨rfl, rfl⟩⟩, HB0.out.2, HB0.out.1⟩
  case round =>
    obtain ⟨k, dn, O, hk, rfl, rfl, hP, hO, hB, hb⟩ := hrel
    clear HB0
    have kb := hb.out
    have x0 : wr.cell? ⟨w.heap.size, 0, none⟩ = some (.int .i64 x.a) := kb.cell 0
    have x1 : wr.cell? ⟨w.heap.size, 1, none⟩ = some (.int .i64 x.b) := kb.cell 1
    have x2 : wr.cell? ⟨w.heap.size, 2, none⟩ = some (.int .i64 x.c) := kb.cell 2
    have x3 : wr.cell? ⟨w.heap.size, 3, none⟩ = some (.bool x.p) := kb.cell 3
    have x4 : wr.cell? ⟨w.heap.size, 4, none⟩ = some (.bool x.q) := kb.cell 4
    have x5 : wr.cell? ⟨w.heap.size, 5, none⟩ = some (.bool x.r) := kb.cell 5
    have x6 : wr.cell? ⟨w.heap.size, 6, none⟩ = some (.bool x.tn) := kb.cell 6
    have zx : w.heap.size < wr.heap.size := kb.lt
    have HZX := Lib.hid zx
    have hpl := hP.out.2.1
    rw [List.length_take] at hpl
    have hlen : O.length ≤ 101 := by omega
    clear kb hpl
    by_cases hlt : k < l.length
    · have hg : l[k]? = some l[k] := List.getElem?_eq_getElem hlt
      generalize l[k] = y at hg
      obtain ⟨b, o, rfl, hbb, v0, v1, v2, v3, v4, v5, v6⟩ := HK.out k y hg
      have hv : ∀ j u, y.cells[j]? = some u → w.cell? ⟨b, o + k * 7 + j, none⟩ = some u := fun j u hu => by
        unfold WV.cells at hu
        match j with
        | 0 => cases hu; exact v0
        | 1 => cases hu; exact v1
        | 2 => cases hu; exact v2
        | 3 => cases hu; exact v3
        | 4 => cases hu; exact v4
        | 5 => cases hu; exact v5
        | 6 => cases hu; exact v6
        | j + 7 => simp at hu
      have HV := Lib.hid hv
      clear hv v0 v1 v2 v3 v4 v5 v6
      have y0 : wr.cell? ⟨b, o + k * 7, none⟩ = some (.int .i64 y.a) := (hB.out.cell (p := ⟨b, o + k * 7, none⟩) hbb).trans (HV.out 0 _ rfl)
      have y1 : wr.cell? ⟨b, o + k * 7 + 1, none⟩ = some (.int .i64 y.b) := (hB.out.cell (p := ⟨b, o + k * 7 + 1, none⟩) hbb).trans (HV.out 1 _ rfl)
      have y2 : wr.cell? ⟨b, o + k * 7 + 2, none⟩ = some (.int .i64 y.c) := (hB.out.cell (p := ⟨b, o + k * 7 + 2, none⟩) hbb).trans (HV.out 2 _ rfl)
      have y3 : wr.cell? ⟨b, o + k * 7 + 3, none⟩ = some (.bool y.p) := (hB.out.cell (p := ⟨b, o + k * 7 + 3, none⟩) hbb).trans (HV.out 3 _ rfl)
      have y4 : wr.cell? ⟨b, o + k * 7 + 4, none⟩ = some (.bool y.q) := (hB.out.cell (p := ⟨b, o + k * 7 + 4, none⟩) hbb).trans (HV.out 4 _ rfl)
      have y5 : wr.cell? ⟨b, o + k * 7 + 5, none⟩ = some (.bool y.r) := (hB.out.cell (p := ⟨b, o + k * 7 + 5, none⟩) hbb).trans (HV.out 5 _ rfl)
      have y6 : wr.cell? ⟨b, o + k * 7 + 6, none⟩ = some (.bool y.tn) := (hB.out.cell (p := ⟨b, o + k * 7 + 6, none⟩) hbb).trans (HV.out 6 _ rfl)
      have hki : (k : Int) < (l.length : Int) := by omega
      have hmem := List.mem_of_getElem? hg
      have hyok := (HOK.out y hmem).1
      have htk : l.take (k + 1) = l.take k ++ [y] := by rw [List.take_add_one, hg]; rfl
      have HTK := Lib.hid htk
      have heq := eq_wants (wwf_of hyok) (wwf_of HX.out) (w := w)
      have HE := Lib.hid (fun w => eq_wants (wwf_of hyok) (wwf_of HX.out) w)
      have HYOK := Lib.hid hyok
      have HG := Lib.hid hg
      clear hg hmem hyok htk heq
      by_cases hyx : y = x
      · have he : ∀ w, (Op.equalIn 10000 30 (.agg #[.int .i64 y.a, .int .i64 y.b, .int .i64 y.c, .bool y.p, .bool y.q, .bool y.r, .bool y.tn]) (.agg #[.int .i64 x.a, .int .i64 x.b, .int .i64 x.c, .bool x.p, .bool x.q, .bool x.r, .bool x.tn])).run Try.prog w = .ok true w := fun w => by have := HE.out w; rw [decide_eq_true hyx] at this; exact this
        have HYX := Lib.hid hyx
        clear hyx
        go_wp2_with fail
        go_quiet (fail)
        go_wp2_with fail
        go_ret
        have hsp : l = l.take k ++ x :: l.drop (k + 1) := by
          have := List.take_append_drop k l
          rw [List.drop_eq_getElem_cons hlt] at this
          have e : l[k] = x := by
            have := HG.out
            rw [List.getElem?_eq_getElem hlt] at this
            rw [Option.some.inj this]; exact HYX.out
          rw [e] at this
          exact this.symm
        have hput : put x l = l := by
          have hr := HR.out
          rw [hsp] at hr
          have := hP.out.found hr
          rw [← hsp] at this
          exact this
        refine ⟨some ⟨b, o, none⟩, cap, ?_, ?_, below_drewN hB.out _⟩
        · rw [hput]; rfl
        · rw [hput]; exact HK.out.up (below_drewN hB.out _)
      · have he : ∀ w, (Op.equalIn 10000 30 (.agg #[.int .i64 y.a, .int .i64 y.b, .int .i64 y.c, .bool y.p, .bool y.q, .bool y.r, .bool y.tn]) (.agg #[.int .i64 x.a, .int .i64 x.b, .int .i64 x.c, .bool x.p, .bool x.q, .bool x.r, .bool x.tn])).run Try.prog w = .ok false w := fun w => by have := HE.out w; rw [decide_eq_false hyx] at this; exact this
        have HYX := Lib.hid hyx
        clear hyx
        go_wp2_with fail
        go_quiet (fail)
        have ON := own_drewN hO.out nq
        have BN := below_drewN hB.out nq
        have KN := hb.out.drewN nq
        generalize hwn : wr.drewN nq = wn at *
        have x0 : wn.cell? ⟨w.heap.size, 0, none⟩ = some (.int .i64 x.a) := by rw [← hwn]; exact x0
        have x1 : wn.cell? ⟨w.heap.size, 1, none⟩ = some (.int .i64 x.b) := by rw [← hwn]; exact x1
        have x2 : wn.cell? ⟨w.heap.size, 2, none⟩ = some (.int .i64 x.c) := by rw [← hwn]; exact x2
        have x3 : wn.cell? ⟨w.heap.size, 3, none⟩ = some (.bool x.p) := by rw [← hwn]; exact x3
        have x4 : wn.cell? ⟨w.heap.size, 4, none⟩ = some (.bool x.q) := by rw [← hwn]; exact x4
        have x5 : wn.cell? ⟨w.heap.size, 5, none⟩ = some (.bool x.r) := by rw [← hwn]; exact x5
        have x6 : wn.cell? ⟨w.heap.size, 6, none⟩ = some (.bool x.tn) := by rw [← hwn]; exact x6
        have y0 : wn.cell? ⟨b, o + k * 7, none⟩ = some (.int .i64 y.a) := by rw [← hwn]; exact y0
        have y1 : wn.cell? ⟨b, o + k * 7 + 1, none⟩ = some (.int .i64 y.b) := by rw [← hwn]; exact y1
        have y2 : wn.cell? ⟨b, o + k * 7 + 2, none⟩ = some (.int .i64 y.c) := by rw [← hwn]; exact y2
        have y3 : wn.cell? ⟨b, o + k * 7 + 3, none⟩ = some (.bool y.p) := by rw [← hwn]; exact y3
        have y4 : wn.cell? ⟨b, o + k * 7 + 4, none⟩ = some (.bool y.q) := by rw [← hwn]; exact y4
        have y5 : wn.cell? ⟨b, o + k * 7 + 5, none⟩ = some (.bool y.r) := by rw [← hwn]; exact y5
        have y6 : wn.cell? ⟨b, o + k * 7 + 6, none⟩ = some (.bool y.tn) := by rw [← hwn]; exact y6
        have zx : w.heap.size < wn.heap.size := KN.lt
        have OW := Lib.hid ON
        have BW := Lib.hid BN
        have KW := Lib.hid KN
        clear hwn ON BN KN hO hB hb HZX he
        cases dn
        · have hq : ∀ u : Unit, True := fun _ => trivial
          clear hq
          by_cases hll : numW x < numW y
          · have hz : decide (cmpW x y < 0) = true := by rw [less_num HX.out HYOK.out]; exact decide_eq_true hll
            have HZ := Lib.hid hz
            have HLL := Lib.hid hll
            clear hz hll
            go_wp2_with fail
            have kx0 := cell_regrown x0
            have kx1 := cell_regrown x1
            have kx2 := cell_regrown x2
            have kx3 := cell_regrown x3
            have kx4 := cell_regrown x4
            have kx5 := cell_regrown x5
            have kx6 := cell_regrown x6
            have ky0 := cell_regrown y0
            have ky1 := cell_regrown y1
            have ky2 := cell_regrown y2
            have ky3 := cell_regrown y3
            have ky4 := cell_regrown y4
            have ky5 := cell_regrown y5
            have ky6 := cell_regrown y6
            refine wp_region_quiet_below (by kernel_rfl) (by kernel_rfl) ?_
            repeat (go_big_quiet_step (first | exact Calls.regrown_of (less_any _ _ _ _ _ _ _ _ _ _ _ _ _ _ true HZ.out _)))
            refine wpQuiet_nil ?_
            intro _ hw'
            obtain ⟨⟨dq, osq⟩, hw''⟩ := hw'
            subst hw''
            have hB8 := below_regrown wn dq osq
            have B8 := Lib.hid (below_up BW.out hB8)
            have K8 := Lib.hid (KW.out.below hB8 zx)
            have O8 := Lib.hid (own_below OW.out hB8)
            have x0 := keep_cell x0 hB8
            have x1 := keep_cell x1 hB8
            have x2 := keep_cell x2 hB8
            have x3 := keep_cell x3 hB8
            have x4 := keep_cell x4 hB8
            have x5 := keep_cell x5 hB8
            have x6 := keep_cell x6 hB8
            have y0 := keep_cell y0 hB8
            have y1 := keep_cell y1 hB8
            have y2 := keep_cell y2 hB8
            have y3 := keep_cell y3 hB8
            have y4 := keep_cell y4 hB8
            have y5 := keep_cell y5 hB8
            have y6 := keep_cell y6 hB8
            generalize grow (redrawn wn dq) osq = w8 at *
            have zx : w.heap.size < w8.heap.size := K8.out.lt
            clear OW BW KW hB8 HZ kx0 ky0 kx1 ky1 kx2 ky2 kx3 ky3 kx4 ky4 kx5 ky5 kx6 ky6
            go_wp2_with (first | (at_builtin; refine wpList_append_any _ rfl (.tmp 31) (.tmp 33) _ rfl (w.heap.size + 1) WT i0 zeroW 7 32 Try.underlying94 HI.out.1 HI.out.2.1 HI.out.2.2.1 HI.out.2.2.2 rfl (by decide) _ _ _ rfl (O8.out.alloc _) (w8.heap.size + 1) (some ⟨w8.heap.size, 0, none⟩) 1 1 x.cells rfl (reads_one w8 x) (one_cell x) (by simp only [maxLen]; omega) (by omega) (by simp; omega) ?_; intro va wa howna hga hata; have HOa := Lib.hid howna; have HGa := Lib.hid hga; clear howna hga hata; have oa : (O ++ [x]).length = O.length + 1 := (by simp); have hba : Below w.heap.size w wa := (below_alloc B8.out).grown HGa.out (below_alloc B8.out).size (fun j e => by have := own_block_ge O8.out e; omega); have hka : Blk wa w.heap.size 30 #[.int .i64 x.a, .int .i64 x.b, .int .i64 x.c, .bool x.p, .bool x.q, .bool x.r, .bool x.tn] := ((K8.out).alloc _).grown HGa.out (fun e => by have := own_block_ge O8.out e.symm; omega); have zxa : w.heap.size < wa.heap.size := hka.lt; have BA := Lib.hid hba; have KA := Lib.hid hka; have y0 : wa.cell? ⟨b, o + k * 7, none⟩ = some (.int .i64 y.a) := (hba.cell (p := ⟨b, o + k * 7, none⟩) hbb).trans (HV.out 0 _ rfl); have y1 : wa.cell? ⟨b, o + k * 7 + 1, none⟩ = some (.int .i64 y.b) := (hba.cell (p := ⟨b, o + k * 7 + 1, none⟩) hbb).trans (HV.out 1 _ rfl); have y2 : wa.cell? ⟨b, o + k * 7 + 2, none⟩ = some (.int .i64 y.c) := (hba.cell (p := ⟨b, o + k * 7 + 2, none⟩) hbb).trans (HV.out 2 _ rfl); have y3 : wa.cell? ⟨b, o + k * 7 + 3, none⟩ = some (.bool y.p) := (hba.cell (p := ⟨b, o + k * 7 + 3, none⟩) hbb).trans (HV.out 3 _ rfl); have y4 : wa.cell? ⟨b, o + k * 7 + 4, none⟩ = some (.bool y.q) := (hba.cell (p := ⟨b, o + k * 7 + 4, none⟩) hbb).trans (HV.out 4 _ rfl); have y5 : wa.cell? ⟨b, o + k * 7 + 5, none⟩ = some (.bool y.r) := (hba.cell (p := ⟨b, o + k * 7 + 5, none⟩) hbb).trans (HV.out 5 _ rfl); have y6 : wa.cell? ⟨b, o + k * 7 + 6, none⟩ = some (.bool y.tn) := (hba.cell (p := ⟨b, o + k * 7 + 6, none⟩) hbb).trans (HV.out 6 _ rfl); clear hba hka) | (at_builtin; refine wpList_append_any _ rfl (.tmp 35) (.tmp 40) _ rfl (w.heap.size + 1) WT i0 zeroW 7 32 Try.underlying94 HI.out.1 HI.out.2.1 HI.out.2.2.1 HI.out.2.2.2 rfl (by decide) _ _ _ rfl ((by rw [oa, cellsL_snoc]; exact HOa.out : wa.ownsRow (w.heap.size + 1) WT 7 va (O ++ [x]).length (cellsL (O ++ [x]))).alloc _) (wa.heap.size + 1) (some ⟨wa.heap.size, 0, none⟩) 1 1 y.cells rfl (reads_one wa y) (one_cell y) (by simp only [maxLen]; omega) (by omega) (by simp; omega) ?_; intro vb wb hownb hgb hatb; have HOb := Lib.hid hownb; have HGb := Lib.hid hgb; clear hownb hgb hatb))
            go_roundw
            case rel => exact ⟨k + 1, true, _, by omega, rfl, by go_num, by rw [HTK.out]; exact hP.out.puts HYX.out HLL.out, by rw [List.length_append, cellsL_snoc]; exact HOb.out, (below_alloc BA.out).grown HGb.out (below_alloc BA.out).size (fun j e => by have := own_block_ge HOa.out e; omega), ((KA.out).alloc _).grown HGb.out (fun e => by have := own_block_ge HOa.out e.symm; omega)⟩
            case measure => simp [intOf]; omega
          · have hz : decide (cmpW x y < 0) = false := by rw [less_num HX.out HYOK.out]; exact decide_eq_false hll
            have HZ := Lib.hid hz
            have HLL := Lib.hid hll
            clear hz hll
            go_wp2_with fail
            have kx0 := cell_regrown x0
            have kx1 := cell_regrown x1
            have kx2 := cell_regrown x2
            have kx3 := cell_regrown x3
            have kx4 := cell_regrown x4
            have kx5 := cell_regrown x5
            have kx6 := cell_regrown x6
            have ky0 := cell_regrown y0
            have ky1 := cell_regrown y1
            have ky2 := cell_regrown y2
            have ky3 := cell_regrown y3
            have ky4 := cell_regrown y4
            have ky5 := cell_regrown y5
            have ky6 := cell_regrown y6
            refine wp_region_quiet_below (by kernel_rfl) (by kernel_rfl) ?_
            repeat (go_big_quiet_step (first | exact Calls.regrown_of (less_any _ _ _ _ _ _ _ _ _ _ _ _ _ _ false HZ.out _)))
            refine wpQuiet_nil ?_
            intro _ hw'
            obtain ⟨⟨dq, osq⟩, hw''⟩ := hw'
            subst hw''
            have hB8 := below_regrown wn dq osq
            have B8 := Lib.hid (below_up BW.out hB8)
            have K8 := Lib.hid (KW.out.below hB8 zx)
            have O8 := Lib.hid (own_below OW.out hB8)
            have x0 := keep_cell x0 hB8
            have x1 := keep_cell x1 hB8
            have x2 := keep_cell x2 hB8
            have x3 := keep_cell x3 hB8
            have x4 := keep_cell x4 hB8
            have x5 := keep_cell x5 hB8
            have x6 := keep_cell x6 hB8
            have y0 := keep_cell y0 hB8
            have y1 := keep_cell y1 hB8
            have y2 := keep_cell y2 hB8
            have y3 := keep_cell y3 hB8
            have y4 := keep_cell y4 hB8
            have y5 := keep_cell y5 hB8
            have y6 := keep_cell y6 hB8
            generalize grow (redrawn wn dq) osq = w8 at *
            have zx : w.heap.size < w8.heap.size := K8.out.lt
            clear OW BW KW hB8 HZ kx0 ky0 kx1 ky1 kx2 ky2 kx3 ky3 kx4 ky4 kx5 ky5 kx6 ky6
            go_wp2_with (first | (at_builtin; refine wpList_append_any _ rfl (.tmp 35) (.tmp 40) _ rfl (w.heap.size + 1) WT i0 zeroW 7 32 Try.underlying94 HI.out.1 HI.out.2.1 HI.out.2.2.1 HI.out.2.2.2 rfl (by decide) _ _ _ rfl (O8.out.alloc _) (w8.heap.size + 1) (some ⟨w8.heap.size, 0, none⟩) 1 1 y.cells rfl (reads_one w8 y) (one_cell y) (by simp only [maxLen]; omega) (by omega) (by simp; omega) ?_; intro va wa howna hga hata; have HOa := Lib.hid howna; have HGa := Lib.hid hga; clear howna hga hata))
            go_roundw
            case rel => exact ⟨k + 1, false, _, by omega, rfl, by go_num, by rw [HTK.out]; exact hP.out.waits HYX.out (by have := HLL.out; omega), by rw [List.length_append, cellsL_snoc]; exact HOa.out, (below_alloc B8.out).grown HGa.out (below_alloc B8.out).size (fun j e => by have := own_block_ge O8.out e; omega), ((K8.out).alloc _).grown HGa.out (fun e => by have := own_block_ge O8.out e.symm; omega)⟩
            case measure => simp [intOf]; omega
        · go_wp2_with fail
          go_quiet (fail)
          go_wp2_with (first | (at_builtin; refine wpList_append_any _ rfl (.tmp 35) (.tmp 40) _ rfl (w.heap.size + 1) WT i0 zeroW 7 32 Try.underlying94 HI.out.1 HI.out.2.1 HI.out.2.2.1 HI.out.2.2.2 rfl (by decide) _ _ _ rfl ((own_drewN OW.out nq).alloc _) ((wn.drewN nq).heap.size + 1) (some ⟨(wn.drewN nq).heap.size, 0, none⟩) 1 1 y.cells rfl (reads_one (wn.drewN nq) y) (one_cell y) (by simp only [maxLen]; omega) (by omega) (by simp; omega) ?_; intro va wa howna hga hata; have HOa := Lib.hid howna; have HGa := Lib.hid hga; clear howna hga hata))
          go_roundw
          case rel => exact ⟨k + 1, true, _, by omega, rfl, by go_num, by rw [HTK.out]; exact hP.out.more HYX.out, by rw [List.length_append, cellsL_snoc]; exact HOa.out, (below_alloc (below_drewN BW.out nq)).grown HGa.out (below_alloc (below_drewN BW.out nq)).size (fun j e => by have := own_block_ge OW.out e; omega), (((KW.out.drewN nq)).alloc _).grown HGa.out (fun e => by have := own_block_ge OW.out e.symm; omega)⟩
          case measure => simp [intOf]; omega
    · obtain rfl : k = l.length := by omega
      have hP2 := hP.out
      rw [List.take_length] at hP2
      have HP2 := Lib.hid hP2
      clear hP2 hP
      cases dn
      · go_wp2_with (first | (at_builtin; refine wpList_append_any _ rfl (.tmp 44) (.tmp 46) _ rfl (w.heap.size + 1) WT i0 zeroW 7 32 Try.underlying94 HI.out.1 HI.out.2.1 HI.out.2.2.1 HI.out.2.2.2 rfl (by decide) _ _ _ rfl (hO.out.alloc _) (wr.heap.size + 1) (some ⟨wr.heap.size, 0, none⟩) 1 1 x.cells rfl (reads_one wr x) (one_cell x) (by simp only [maxLen]; omega) (by omega) (by simp; omega) ?_; intro va wa howna hga hata; have HOa := Lib.hid howna; have HGa := Lib.hid hga; clear howna hga hata))
        go_ret
        obtain ⟨X', c', e, hh⟩ := has_row (l := O ++ [x]) (n := O.length + 1) (by simp) (by have := HOa.out; rw [← cellsL_snoc] at this; exact this)
        rw [HP2.out.last]
        exact ⟨X', c', by rw [e]; rfl, hh, (below_alloc hB.out).grown HGa.out (below_alloc hB.out).size (fun j e => by have := own_block_ge hO.out e; omega)⟩
      · go_wp2_with fail
        go_ret
        obtain ⟨X', c', e, hh⟩ := has_row rfl hO.out
        rw [HP2.out.ended]
        exact ⟨X', c', by rw [e]; rfl, hh, hB.out⟩
end Go.Proofs.Ytaldgmmmcbikgaa.TurnPut
