/- Several texts joined: What every law's row wants beside its walk: the arguments read behind the call as they read before, where nothing below the heap's old size has turned; how arguments of the types that occur are opened -/
import Derived.Test.YtfdldbfjeamlcaaRows
import Derived.WalkKit
import Derived.ProofKit
import Derived.OpenShut
import Derived.ChangeOld
import Derived.Below
import Derived.Carry
import Derived.Lib.SmallJoins
import Derived.Lib.Hide
import Derived.Test.YtfdldbfjeamlcaaG1
import Derived.BigQuiet
import Derived.Deep.QuietTactic
import Derived.Deep.MidRow
import Derived.Deep.DeepCutAuto
import Derived.Lib.QuietBelow
import Derived.Lib.SliceRun
import Derived.Test.YtfdldbfjeamlcaaG10
import Derived.Test.YtfdldbfjeamlcaaH15
import Derived.Test.YtfdldbfjeamlcaaH20
import Derived.Test.YtfdldbfjeamlcaaH18
/-! What every law's row wants beside its walk: the arguments read behind the call as they read before, where nothing below the heap's old size has turned; how arguments of the types that occur are opened. No conditions but those named. -/
namespace Go.Proofs.Ytfdldbfjeamlcaa.Lay
open Go.ChangeShapes Go.WideShapes Go.ChangeAt Go.RowKit Go.Joins Go.Deep Mem
set_option linter.unusedVariables false

theorem own : ownKnob Try.prog.godebug = none := by kernel_rfl
theorem laidOut : laidOutB Try.prog = true := by kernel_rfl

/-- All arguments read as they did. -/
theorem trodAll_below {H : Type} {enc : TypeId × Value → H} {P : Program} (hl : laidOutB P = true) {W W' : World} :
    ∀ {ts : List TypeId} {vs : List Value} {ds : List (DataW H)} {ps : List MemPlace}, (∀ t ∈ ts, P.readableRec t = true ∧ t < P.types.size) →
    DataW.TrodAll enc P W 0 (fun _ => true) true ts vs ds ps → Below W.heap.size W W' → (∀ x ∈ ps, x.block < W.heap.size) →
    DataW.TrodAll enc P W' 0 (fun b => decide (b < W.heap.size)) true ts vs ds ps
  | [], vs, ds, ps, _, h, _, _ => by obtain ⟨rfl, rfl, rfl⟩ := trodAll_nil h; exact trodAll_mk0
  | t :: ts, vs, ds, ps, hok, h, hb, hlt => by
    obtain ⟨v, vs', d, ds', p, q, rfl, rfl, rfl, h0, r0⟩ := trodAll_cons h
    have h1 := Below.trod hl (hok t (by simp)).1 (hok t (by simp)).2 h0 hb (fun x hx => hlt x (by simp [hx]))
    exact trodAll_cons_mk h1 (trodAll_below hl (fun u hu => hok u (by simp [hu])) r0 hb (fun x hx => hlt x (by simp [hx])))

theorem block_of_cell {W : World} {a : Addr} {v : Value} (h : W.cell? a = some v) : a.block < W.heap.size := by
  rcases Nat.lt_or_ge a.block W.heap.size with h1 | h1
  · exact h1
  · simp [World.cell?, Array.getElem?_eq_none h1] at h

/-- An argument that is a slice of integers: nil let in. -/
theorem open_row {H : Type} {enc : TypeId × Value → H} {P : Program} {W : World} {r : Reach} {b0 : Nat} {t e : TypeId} {k : IntKind} {v : Value} {d : DataW H} {p : List MemPlace} {sp : Nat → Bool} {held : Bool}
    (ht : P.underlying t = some (.slice e)) (he : P.underlying e = some (.int k)) (hC : P.cellsOf e = 1) (hv : Value.okWide P W r b0 t v) (h : DataW.Trod enc P W 0 sp held t v d p) :
    ∃ (X : Option Addr) (c : Nat) (l : List Int), v = .slice X l.length c ∧ l.length ≤ c ∧ c ≤ maxLen ∧ Reads W W.heap.size 1 X l.length (l.map (Value.int k)) ∧ ∀ n ∈ l, (Lit.int k n).wf = true := by
  obtain ⟨X, len, cap, rfl⟩ := okWide_slice ht hv
  obtain ⟨fuel, hf⟩ := h
  rcases open_ints ht he hC hf with ⟨hcs, _⟩ | ⟨x, l, c, zs, hcs, _, hl, hm, hz, _, hcell, hwz⟩
  · simp [Value.cells] at hcs
    obtain ⟨rfl, rfl, rfl⟩ := hcs
    exact ⟨none, 0, [], rfl, by simp, by simp [maxLen], Reads.none_, by simp⟩
  · simp [Value.cells] at hcs
    obtain ⟨rfl, rfl, rfl⟩ := hcs
    have hlen : (zs.take len).length = len := by
      have : len ≤ zs.length := by
        rw [hz]; split <;> omega
      simp; omega
    refine ⟨some x, cap, zs.take len, by rw [hlen], by omega, hm, ⟨by simp, fun hn => ⟨x, rfl, ?_, ?_⟩⟩, fun n hn => hwz n (List.mem_of_mem_take hn)⟩
    · rw [hlen] at hn
      have h0 := hcell 0 (by rw [hz]; split <;> omega)
      have := block_of_cell h0
      rwa [block_of_add] at this
    · intro j u hu
      rw [List.getElem?_map] at hu
      rcases Nat.lt_or_ge j len with hj | hj
      · have hj2 : j < zs.length := by rw [hz]; split <;> omega
        rw [List.getElem?_take, if_pos hj, List.getElem?_eq_getElem hj2] at hu
        simp at hu
        rw [hcell j hj2, ← hu, List.getD_eq_getElem?_getD, List.getElem?_eq_getElem hj2]
        rfl
      · rw [List.getElem?_take, if_neg (by omega)] at hu
        simp at hu

/-- An argument that is a struct of two integers, by value. -/
theorem open_pair {H : Type} {enc : TypeId × Value → H} {P : Program} {W : World} {r : Reach} {b0 : Nat} {t : TypeId} {f0 f1 : Field} {k : IntKind} {v : Value} {d : DataW H} {p : List MemPlace} {sp : Nat → Bool} {held : Bool}
    (hs : P.underlying t = some (.struct #[f0, f1])) (h0 : P.underlying f0.type = some (.int k)) (h1 : P.underlying f1.type = some (.int k)) (hone : oneCellFields P #[f0, f1] = true) (hC : P.cellsOf t = 2)
    (hv : Value.okWide P W r b0 t v) (h : DataW.Trod enc P W 0 sp held t v d p) :
    ∃ a b : Int, v = .agg #[.int k a, .int k b] ∧ (Lit.int k a).wf = true ∧ (Lit.int k b).wf = true := by
  obtain ⟨c0, c1, y0, y1, m, rfl, rfl, rfl, hy0, hy1⟩ := open_agg2 hs hone hC hv h
  obtain ⟨a, e0, _, wa⟩ := DataW.trod_int h0 hy0
  obtain ⟨b, e1, _, wb⟩ := DataW.trod_int h1 hy1
  simp at e0 e1
  subst e0 e1
  exact ⟨a, b, rfl, wa, wb⟩
end Go.Proofs.Ytfdldbfjeamlcaa.Lay
/-! Lists of records, and the reference's word whether two are the same. No conditions but those named. -/
namespace Go.Proofs.Ytfdldbfjeamlcaa.LogSameA
open Go.Sort Go.RowKit QuietRow RecGuard Mem RecMem RecByte RecNum RecMath RecCommand RecEq RecEqA RecVal RecSame RecSameA RecF1 RecF4 RecRd RecRL0 RecRRec RecRead RecAt RecAll LogFrm LogRows
set_option linter.unusedVariables false
set_option linter.unusedSimpArgs false

theorem rsameR {w : World} {r o : RV} {cs ds : List Value} (h : rRep w r cs) (k : rRep w o ds) (hF : RFacts r) (kF : RFacts o) :
    Calls Try.prog 23 #[.agg cs.toArray, .agg ds.toArray] w fun e w' => e = .returned (.bool (decide (r = o))) ∧ Below w.heap.size w w' := by
  obtain ⟨x, Y, cy, rfl, h⟩ := h
  obtain ⟨y, Z, cz, rfl, k⟩ := k
  exact rsame28 r o x y Y Z cy cz hF.hs kF.hs hF.hc kF.hc hF.ht kF.ht w h.st k.st h.af k.af
set_option maxRecDepth 100000 in
set_option maxHeartbeats 4000000 in
theorem rsameAll (X Y : Option Addr) (c d : Nat) (l m : List RV) (hl : l.length ≤ 9223372036854775807) (hm : m.length ≤ 9223372036854775807) (hfl : ∀ r ∈ l, RFacts r) (hfm : ∀ r ∈ m, RFacts r) (w : World) (hX : RsAt w X l) (hY : RsAt w Y m) :
    Calls Try.prog 41 #[.slice X l.length c, .slice Y m.length d] w fun e w' => e = .returned (.bool (decide (l = m))) ∧ Below w.heap.size w w' := by
  obtain ⟨V, hV⟩ : ∃ V, V = decide (l = m) := ⟨_, rfl⟩
  rw [← hV]
  have HV := Lib.hid hV
  have HX := Lib.hid hX
  have HY := Lib.hid hY
  have HF := Lib.hid (And.intro hfl hfm)
  clear hV hX hY hfl hfm
  by_cases hn : l.length = m.length
  · have hn' : ((l.length : Int) != (m.length : Int)) = false := by simp [hn]
    have HN := Lib.hid hn
    have hle : (l.length : Int) ≤ (m.length : Int) := by omega
    clear hn
    go_enter Try.func41, Try.ntmps41
    go_wp2_with fail
    go_loopw [5] (fun i wr => ∃ k : Nat, k ≤ l.length ∧ i = .int .i64 k ∧ Hid (∀ (j : Nat) (x y : RV), j < k → l[j]? = some x → m[j]? = some y → x = y) ∧ Hid (Below w.heap.size w wr))
      (fun i _ => l.length - (intOf i).toNat)
    case atStart => exact ⟨0, Nat.zero_le _, rfl, (fun j x y h => by omega), Below.refl _ _⟩
    case round =>
      obtain ⟨k, hk, rfl, hP, hB⟩ := hrel
      by_cases hlt : k < l.length
      · have hg : l[k]? = some l[k] := List.getElem?_eq_getElem hlt
        generalize l[k] = u at hg
        have hkm : k < m.length := by have := HN.out; omega
        have hg2 : m[k]? = some m[k] := List.getElem?_eq_getElem hkm
        generalize m[k] = v at hg2
        have hki : (k : Int) < (l.length : Int) := by omega
        have hki2 : (k : Int) < (m.length : Int) := by omega
        have hki0 : (0 : Int) ≤ (k : Int) := by omega
        obtain ⟨b, o, cs1, rfl, hb, hc1, r1, e1⟩ := SlcAt.up rStays HX.out hB.out k u hg
        obtain ⟨b', o', cs2, rfl, hb', hc2, r2, e2⟩ := SlcAt.up rStays HY.out hB.out k v hg2
        have HJ0 := Lib.hid (fun (W : World) (hW : Below wr.heap.size wr W) => rsameR (rStays _ _ _ _ e1 hW) (rStays _ _ _ _ e2 hW) (HF.out.1 u (List.mem_of_getElem? hg)) (HF.out.2 v (List.mem_of_getElem? hg2)))
        have HR := Lib.hid (And.intro r1 r2)
        have HG := Lib.hid (And.intro hg hg2)
        have hz1 : (Try.prog.info? 51).map (·.size) = some cs1.length := by rw [hc1]; kernel_rfl
        have hz2 : (Try.prog.info? 51).map (·.size) = some cs2.length := by rw [hc2]; kernel_rfl
        clear hg hg2 r1 r2 hb hb' hc1 hc2 e1 e2
        cases he : decide (u = v)
        · have HJ := Lib.hid (fun W hW => by have := HJ0.out W hW; rw [he] at this; exact this)
          have hne : l ≠ m := list_ne HG.out.1 HG.out.2 (of_decide_eq_false he)
          have EV := Lib.hid (show V = false by rw [HV.out]; exact decide_eq_false hne)
          clear he hne HJ0
          go_wp2_with fail
          refine wp_region_quiet_below (by kernel_rfl) (by kernel_rfl) ?_
          repeat (first | (refine quiet_load_mid (by rfl) 51 _ rfl _ _ rfl _ HR.out.1 _ Try.underlying51 rfl hz1 ?_; simp only [Act.put, List.setIfInBounds_toArray, List.set_cons_zero, List.set_cons_succ]) | (refine quiet_load_mid (by rfl) 51 _ rfl _ _ rfl _ HR.out.2 _ Try.underlying51 rfl hz2 ?_; simp only [Act.put, List.setIfInBounds_toArray, List.set_cons_zero, List.set_cons_succ]) | go_big_quiet_step (first | fail | exact Calls.regrown_of (HJ.out _ (below_regrown _ _ _))))
          refine wpQuiet_nil ?_
          intro _ hw'
          obtain ⟨⟨dq, osq⟩, hw''⟩ := hw'
          subst hw''
          have hBq := below_regrown wr dq osq
          generalize grow (redrawn wr dq) osq = wq at *
          go_wp2_with fail
          go_ret
          rw [EV.out]
          exact ⟨rfl, below_up hB.out hBq⟩
        · have HJ := Lib.hid (fun W hW => by have := HJ0.out W hW; rw [he] at this; exact this)
          have HE := Lib.hid (of_decide_eq_true he)
          clear he HJ0
          go_wp2_with fail
          refine wp_region_quiet_below (by kernel_rfl) (by kernel_rfl) ?_
          repeat (first | (refine quiet_load_mid (by rfl) 51 _ rfl _ _ rfl _ HR.out.1 _ Try.underlying51 rfl hz1 ?_; simp only [Act.put, List.setIfInBounds_toArray, List.set_cons_zero, List.set_cons_succ]) | (refine quiet_load_mid (by rfl) 51 _ rfl _ _ rfl _ HR.out.2 _ Try.underlying51 rfl hz2 ?_; simp only [Act.put, List.setIfInBounds_toArray, List.set_cons_zero, List.set_cons_succ]) | go_big_quiet_step (first | fail | exact Calls.regrown_of (HJ.out _ (below_regrown _ _ _))))
          refine wpQuiet_nil ?_
          intro _ hw'
          obtain ⟨⟨dq, osq⟩, hw''⟩ := hw'
          subst hw''
          have hBq := below_regrown wr dq osq
          generalize grow (redrawn wr dq) osq = wq at *
          go_wp2_with fail
          go_roundw
          case rel => exact ⟨k + 1, by omega, by go_num, (fun j a b hj hu hv => by
              rcases Nat.lt_or_ge j k with h | h
              · exact hP.out j a b h hu hv
              · obtain rfl : j = k := by omega
                rw [HG.out.1] at hu; rw [HG.out.2] at hv; cases hu; cases hv; exact HE.out), below_up hB.out hBq⟩
          case measure => simp [intOf]; omega
      · obtain rfl : k = l.length := by omega
        have ev : V = true := by rw [HV.out]; exact decide_eq_true (list_eq HN.out hP.out)
        have EV := Lib.hid ev
        clear ev
        go_wp2_with fail
        go_ret
        rw [EV.out]
        exact ⟨rfl, hB.out⟩
  · have hn' : ((l.length : Int) != (m.length : Int)) = true := by simp; omega
    have ev : V = false := by rw [HV.out]; exact decide_eq_false fun e => hn (by rw [e])
    have EV := Lib.hid ev
    clear hn ev
    go_enter Try.func41, Try.ntmps41
    go_wp2_with fail
    go_ret
    rw [EV.out]
    exact ⟨rfl, Below.refl _ _⟩
end Go.Proofs.Ytfdldbfjeamlcaa.LogSameA
/-! log.All of any bytes, in the words of the laws. No conditions but those named. -/
namespace Go.Proofs.Ytfdldbfjeamlcaa.LogAllW
open Go Go.RowKit MarkMath Mem RecMem RecByte RecNum RecMath RecCod RecVal RecSame RecWr0 RecRecC RecRead RecAt RecAll LogFour LogJoin LogWrap LogFrm LogAllV LogPlain LogCutP LogRows LogSameA
set_option linter.unusedVariables false
set_option linter.unusedSimpArgs false

def rows (t : Bs) : List RV := (frs t).map (·.2)
theorem rows_len (t : Bs) : (rows t).length = (frs t).length := by simp [rows]
theorem rows_facts {t : Bs} (ho : Oct t) : ∀ r ∈ rows t, RFacts r := fun r hr => by
  obtain ⟨p, hp, rfl⟩ := List.mem_map.1 hr
  exact fr_facts ho _ _ p hp
theorem rows_small {t : Bs} : (rows t).length ≤ t.length + 1 := by rw [rows_len]; exact fr_len t _ _
/-- What All answers. -/
theorem all_w (X : Option Addr) (n c : Nat) (t : Bs) (hn : n = t.length) (ho : Oct t) (hc : n ≤ c) (hm : c ≤ maxLen) (hl : t.length ≤ 1000000000) (w : World) (hX : TxtAt w X t) :
    Calls Try.prog 39 #[.slice X n c] w fun e w' => ((Whole t ∧ ∃ (V : Option Addr) (cv N E : Nat), e = .returned (.tuple #[.slice V N cv, .int .i64 E, .int .i64 0]) ∧ N = (rows t).length ∧ N ≤ cv ∧ cv ≤ maxLen ∧ endV (frs t) = E ∧ E ≤ t.length ∧ RsAt w' V (rows t)) ∨
      (¬ Whole t ∧ e = .returned (.tuple #[.slice none 0 0, .int .i64 0, .int .i64 290]))) ∧ Below w.heap.size w w' := by
  subst hn
  refine (all_any X c t ho hc hm hl w hX).mono ?_
  rintro e w' ⟨h, hB⟩
  refine ⟨?_, hB⟩
  rcases h with ⟨hw, V, cv, rfl, hR⟩ | ⟨hb, rfl⟩
  · have hE := end_in ho hw
    obtain ⟨E, hE'⟩ := Int.eq_ofNat_of_zero_le hE.1
    have e1 : (((fr t (t.length + 1) 0).getLast?.map (·.1)).getD 0) = (E : Int) := hE'
    rw [e1]
    have hR' : recsR.At w' w.heap.size (rows t) [.slice V (rows t).length cv] := by
      have e2 : (rows t).length = (fr t (t.length + 1) 0).length := rows_len t
      rw [e2]; exact hR
    obtain ⟨V2, c2, e3, h1, h2, h3⟩ := rs_of hR'
    simp at e3
    obtain ⟨rfl, rfl⟩ := e3
    exact .inl ⟨hw, V, cv, (fr t (t.length + 1) 0).length, E, rfl, (rows_len t).symm, by rw [← rows_len t] ; exact h1, h2, hE', by have := hE.2; omega, h3⟩
  · refine .inr ⟨fun hw => ?_, rfl⟩
    obtain ⟨p, hp, hlt⟩ := hb
    exact hw p hp hlt
theorem rsame_w (X Y : Option Addr) (n k c d : Nat) (l m : List RV) (hn : n = l.length) (hk : k = m.length) (e : l = m) (hl : n ≤ 9223372036854775807) (hf : ∀ r ∈ l, RFacts r) (w : World) (hX : RsAt w X l) (hY : RsAt w Y m) :
    Calls Try.prog 41 #[.slice X n c, .slice Y k d] w fun e w' => e = .returned (.bool true) ∧ Below w.heap.size w w' := by
  subst e hn hk
  have := rsameAll X Y c d l l hl hl hf hf w hX hY
  simpa using this
end Go.Proofs.Ytfdldbfjeamlcaa.LogAllW
/-! The walk of LogCut. No conditions but those named. -/
namespace Go.Proofs.Ytfdldbfjeamlcaa.LogCutW
open Go Go.RowKit MarkMath Mem RecMem RecByte RecNum RecMath RecCod RecVal RecSame RecWr0 RecRecC RecRead RecAt RecAll LogFour LogJoin LogWrap LogFrm LogAllV LogPlain LogAlive LogCutP LogRows LogSameA LogAllW
set_option linter.unusedVariables false
set_option linter.unusedSimpArgs false

theorem rows_cut {t : Bs} (ho : Oct t) (hw : Whole t) {q N N1 E E1 : Nat} (hq : q ≤ t.length) (hN : N = (rows t).length) (hE : endV (frs t) = E) (hN1 : N1 = (rows (t.take q)).length) (hE1 : endV (frs (t.take q)) = E1) :
    Whole (t.take q) ∧ N1 ≤ N ∧ E1 ≤ q ∧ E1 ≤ E ∧ rows (t.take q) = (rows t).take N1 ∧ (E ≤ q → N1 = N) := by
  obtain ⟨h1, ⟨j, hj, h2⟩, h3, h4, h5⟩ := cut_law ho hw hq
  have e : rows (t.take q) = (rows t).take j := by simp only [rows, h2, List.map_take]
  have hl : (rows t).length = (frs t).length := rows_len t
  have e2 : N1 = j := by rw [hN1, e, List.length_take]; omega
  refine ⟨h1, by omega, by omega, by omega, by rw [e2]; exact e, fun he => ?_⟩
  rw [hN1, hN]; simp only [rows, h5 (by omega)]
set_option maxRecDepth 100000 in
set_option maxHeartbeats 8000000 in
theorem walkCut (w : World) (X : Option Addr) (c : Nat) (t : Bs) (hc : t.length ≤ c) (hm : c ≤ maxLen) (hX : TxtAt w X t) (ho : Oct t) (cut : Int) (wc : (Lit.int .i64 cut).wf = true) :
    Calls Try.prog 11 #[.slice X t.length c, .int .i64 cut] w fun e w' => e = .returned (.bool true) ∧ Below w.heap.size w w' := by
  have HO := Lib.hid ho
  have HX := Lib.hid hX
  have HL := Lib.hid (show t.length ≤ c ∧ c ≤ maxLen from ⟨hc, hm⟩)
  clear ho hX hc hm wc
  by_cases h1 : (70000 : Int) < (t.length : Int)
  · have h1' : decide ((70000 : Int) < (t.length : Int)) = true := decide_eq_true h1
    clear h1
    go_enter Try.func11, Try.ntmps11
    go_wp2_with fail
    refine (alive29 w).mono ?_
    rintro e w1 ⟨rfl, hB1⟩
    have HB1 := Lib.hid hB1
    clear hB1
    go_wp2_with fail
    go_ret
    exact ⟨rfl, HB1.out⟩
  by_cases h2 : cut < 0
  · have h2' : decide (cut < 0) = true := decide_eq_true h2
    have h1' : decide ((70000 : Int) < (t.length : Int)) = false := decide_eq_false h1
    go_enter Try.func11, Try.ntmps11
    go_wp2_with fail
    refine (alive29 w).mono ?_
    rintro e w1 ⟨rfl, hB1⟩
    have HB1 := Lib.hid hB1
    clear hB1
    go_wp2_with fail
    go_ret
    exact ⟨rfl, HB1.out⟩
  by_cases h3 : (t.length : Int) < cut
  · go_enter Try.func11, Try.ntmps11
    go_wp2_with fail
    refine (alive29 w).mono ?_
    rintro e w1 ⟨rfl, hB1⟩
    have HB1 := Lib.hid hB1
    clear hB1
    go_wp2_with fail
    go_ret
    exact ⟨rfl, HB1.out⟩
  obtain ⟨q, rfl⟩ := Int.eq_ofNat_of_zero_le (Int.not_lt.1 h2)
  have hq1 : (q : Int) ≤ (t.length : Int) := by omega
  have hq2 : (q : Int) ≤ (c : Int) := by have := HL.out.1; omega
  clear h2 h3
  have HQ := Lib.hid (show q ≤ t.length ∧ t.length ≤ 70000 from ⟨by omega, by omega⟩)
  have HY := Lib.hid (fun (W : World) (hW : Below w.heap.size w W) (m : Nat) => TxtAt.take (HX.out.up hW) m)
  go_enter Try.func11, Try.ntmps11
  go_wp2_with fail
  refine (alive29 w).mono ?_
  rintro e w1 ⟨rfl, hB1⟩
  have HB1 := Lib.hid hB1
  clear hB1
  go_wp2_with fail
  refine (all_w X t.length c t rfl HO.out (by have := HL.out; omega) HL.out.2 (by have := HQ.out; omega) _ (HX.out.up HB1.out)).mono ?_
  rintro e w2 ⟨⟨hw, V, cv, N, E, rfl, hN, hNc, hcv, hE, hEl, hR⟩ | ⟨hw, rfl⟩, hB2⟩
  · have HB2 := Lib.hid (below_up HB1.out hB2)
    have HR2 := Lib.hid hR
    have HW := Lib.hid (And.intro hw (And.intro hN (And.intro hNc (And.intro hcv (And.intro hE hEl)))))
    have hE2 : (E : Int) ≤ (t.length : Int) := by omega
    have hE3 : (E : Int) ≤ (c : Int) := by have := HL.out.1; omega
    clear hw hN hcv hE hEl hR hB2 HB1 hNc
    go_wp2_with fail
    refine (all_w X q c (t.take q) (by rw [List.length_take]; have := HQ.out; omega) (Oct.take HO.out _) (by have := HL.out; have := HQ.out; omega) (by have := HL.out.2; omega) (by rw [List.length_take]; have := HQ.out; omega) _ (HY.out _ HB2.out q)).mono ?_
    rintro e w3 ⟨⟨hw1, V1, cv1, M, E1, rfl, hN1, hNc1, hcv1, hE1', hEl1, hR1⟩ | ⟨hw1, rfl⟩, hB3⟩
    · have HW1 := Lib.hid (rows_cut HO.out HW.out.1 HQ.out.1 HW.out.2.1 HW.out.2.2.2.2.1 hN1 hE1')
      have HN1 := Lib.hid hN1
      have HR3 := Lib.hid (And.intro (SlcAt.up rStays HR2.out hB3) hR1)
      have HB3 := Lib.hid (below_up HB2.out hB3)
      have hi1 : (E1 : Int) ≤ (q : Int) := by have := HW1.out.2.2.1; omega
      have hi2 : (E1 : Int) ≤ (E : Int) := by have := HW1.out.2.2.2.1; omega
      have hi3 : (M : Int) ≤ (N : Int) := by have := HW1.out.2.1; omega
      clear hw1 hN1 hNc1 hcv1 hE1' hEl1 hR1 hB3 HR2 HB2
      go_wp2_with fail
      refine (all_w X E c (t.take E) (by rw [List.length_take]; have := HW.out.2.2.2.2.2; omega) (Oct.take HO.out _) (by have := HL.out; have := HW.out.2.2.2.2.2; omega) (by have := HL.out.2; omega) (by rw [List.length_take]; have := HQ.out; omega) _ (HY.out _ HB3.out E)).mono ?_
      rintro e w4 ⟨⟨hw2, V2, cv2, N2, E2, rfl, hN2, hNc2, hcv2, hE2', hEl2, hR2⟩ | ⟨hw2, rfl⟩, hB4⟩
      · have hrE : rows (t.take E) = rows t := by simp only [rows, cut_end HO.out HW.out.1 HW.out.2.2.2.2.1]
        have hEE : endV (frs (t.take E)) = E := by rw [cut_end HO.out HW.out.1 HW.out.2.2.2.2.1]; exact HW.out.2.2.2.2.1
        obtain rfl : N = N2 := by rw [hN2, hrE]; exact HW.out.2.1
        obtain rfl : E = E2 := by rw [hEE] at hE2'; omega
        have HN := Lib.hid (show N = (rows t).length ∧ M = (rows (t.take q)).length ∧ N = (rows (t.take E)).length ∧ rows (t.take q) = (rows t).take M ∧ rows (t.take E) = rows t ∧ M ≤ N ∧ N ≤ 70001 from ⟨HW.out.2.1, HN1.out, hN2, HW1.out.2.2.2.2.1, hrE, HW1.out.2.1, by have := HQ.out; have := HW.out.2.1; have := @rows_small t; omega⟩)
        have HR4 := Lib.hid (And.intro (SlcAt.up rStays HR3.out.1 hB4) (And.intro (SlcAt.up rStays HR3.out.2 hB4) hR2))
        have HB4 := Lib.hid (below_up HB3.out hB4)
        clear hw2 hN2 hNc2 hcv2 hE2' hEl2 hR2 hB4 hrE hEE HR3 HB3
        have hcvN : N ≤ cv := HW.out.2.2.1
        have hMN : M ≤ N := HN.out.2.2.2.2.2.1
        have hiv : (M : Int) ≤ (cv : Int) := by omega
        clear hcvN hMN
        go_wp2_with fail
        refine (rsame_w V2 V N N cv2 cv (rows (t.take E)) (rows t) HN.out.2.2.1 HN.out.1 HN.out.2.2.2.2.1 (by have := HN.out.2.2.2.2.2; omega) (rows_facts (Oct.take HO.out _)) w4 HR4.out.2.2 HR4.out.1).mono ?_
        rintro e w5 ⟨rfl, hB5⟩
        have HB5 := Lib.hid (below_up HB4.out hB5)
        have HC5 := Lib.hid (rsame_w V1 V M M cv1 cv (rows (t.take q)) ((rows t).take M) HN.out.2.1 (by rw [List.length_take]; have := HN.out.1; have := HN.out.2.2.2.2.2; omega) HN.out.2.2.2.1 (by have := HN.out.2.2.2.2.2; omega) (rows_facts (Oct.take HO.out _)) w5 (SlcAt.up rStays HR4.out.2.1 hB5) (SlcAt.up rStays (SlcAt.take HR4.out.1 M) hB5))
        clear hB5
        go_wp2_with fail
        refine HC5.out.mono ?_
        rintro e w6 ⟨rfl, hB6⟩
        have HB6 := Lib.hid (below_up HB5.out hB6)
        clear hB6 HC5 HB5 HB4 HR4
        by_cases hqE : q < E
        · have hqE' : (q : Int) < (E : Int) := by omega
          clear hqE
          go_wp2_with fail
          go_ret
          exact ⟨rfl, HB6.out⟩
        · have hqE' : ¬ (q : Int) < (E : Int) := by omega
          have hNN : M = N := HW1.out.2.2.2.2.2 (by omega)
          have hNN' : ((M : Int) == (N : Int)) = true := by simp; omega
          clear hqE hNN
          go_wp2_with fail
          go_ret
          exact ⟨rfl, HB6.out⟩
      · exact absurd (cut_law HO.out HW.out.1 HW.out.2.2.2.2.2).1 hw2
    · exact absurd (cut_law HO.out HW.out.1 HQ.out.1).1 hw1
  · have HB2 := Lib.hid (below_up HB1.out hB2)
    clear hw hB2 HB1
    go_wp2_with fail
    go_ret
    exact ⟨rfl, HB2.out⟩
end Go.Proofs.Ytfdldbfjeamlcaa.LogCutW
