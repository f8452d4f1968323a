/- Several texts joined: tidehallref28.Great answers. -/
import Derived.Test.YtfdldbfjeamlcaaF18
import Derived.Test.YtfdldbfjeamlcaaF17
import Derived.Test.YtfdldbfjeamlcaaF19
import Derived.BigQuiet
import Derived.Deep.QuietTactic
import Derived.Deep.MidRow
import Derived.Deep.DeepCutAuto
import Derived.Test.YtfdldbfjeamlcaaRows
import Derived.WalkKit
import Derived.ProofKit
import Derived.OpenShut
import Derived.ChangeOld
import Derived.Below
import Derived.Carry
import Derived.Lib.SmallJoins
import Derived.Lib.Hide
import Derived.Test.YtfdldbfjeamlcaaG1
import Derived.Laws.IdiomArrays
/-! tidehallref28.Great answers. -/
namespace Go.Proofs.Ytfdldbfjeamlcaa.RecGreat
open Go.RowKit RecGuard Mem RecMem RecByte RecNum RecEach RecMath RecCommand RecCmdJ RecEq RecKeys RecEqA RecJobs RecJobsA RecVal RecEqual RecEqual2 RecEqJ RecCfgs RecSame RecOwn RecSameA RecF1
set_option linter.unusedVariables false
set_option linter.unusedSimpArgs false

/-- A truth, whichever. -/
def Says (e : Ending) : Prop := ∃ B, e = .returned (.bool B)
set_option maxRecDepth 100000 in
set_option maxHeartbeats 4000000 in
/-- The reference's Great answers something. -/
theorem rgreat28 (r : RV) (x : SA) (Y : Option Addr) (cy : Nat) (ht : RTop r) (w : World) (hx : StAt w r.s x) :
    Calls Try.prog 20 #[.agg #[.int .i64 r.g, .int .i64 r.s.d0, .int .i64 r.s.d1, .int .i64 r.s.d2, .int .i64 r.s.bo, .int .i64 r.s.fr, .int .i64 r.s.tr, .int .i64 r.s.ag, .slice x.C r.s.cs.length x.cc, .int .i64 r.s.nw, .int .i64 r.s.nx, .slice x.J r.s.js.length x.cj, .slice x.P r.s.ps.length x.cp, .slice x.K r.s.ks.length x.ck, .slice x.D r.s.dn.length x.cd, .slice x.S r.s.sh.length x.cs, .slice x.U r.s.cu.length x.cu, .int .u8 r.c.kd, .int .i64 r.c.id, .int .i64 r.c.us, .int .i64 r.c.cl, .int .i64 r.c.a, .int .i64 r.c.b, .int .i64 r.c.c, .bool r.c.p, .bool r.c.q, .bool r.c.r, .bool r.c.tn, .int .i64 r.c.wa, .int .i64 r.c.pr, .bool r.c.he, .slice Y r.c.af.length cy, .int .u8 r.c.st, .int .i64 r.c.ca, .int .i64 r.c.ci, .int .i64 r.c.b0, .int .i64 r.c.b1, .int .i64 r.c.b2, .int .i64 r.c.b3, .int .i64 r.c.b4, .int .i64 r.c.b5, .int .i64 r.c.fr, .int .i64 r.c.to, .int .i64 r.c.n, .bool r.c.we]] w fun e w' => Says e ∧ Below w.heap.size w w' := by
  have HI := Lib.hid hx
  have HT := Lib.hid ht
  clear hx ht
  go_enter Try.func20, Try.ntmps20
  go_upto_region 1 with fail
  have KA := Lib.hid (Blk.new w 51 #[.int .i64 r.g, .int .i64 r.s.d0, .int .i64 r.s.d1, .int .i64 r.s.d2, .int .i64 r.s.bo, .int .i64 r.s.fr, .int .i64 r.s.tr, .int .i64 r.s.ag, .slice x.C r.s.cs.length x.cc, .int .i64 r.s.nw, .int .i64 r.s.nx, .slice x.J r.s.js.length x.cj, .slice x.P r.s.ps.length x.cp, .slice x.K r.s.ks.length x.ck, .slice x.D r.s.dn.length x.cd, .slice x.S r.s.sh.length x.cs, .slice x.U r.s.cu.length x.cu, .int .u8 r.c.kd, .int .i64 r.c.id, .int .i64 r.c.us, .int .i64 r.c.cl, .int .i64 r.c.a, .int .i64 r.c.b, .int .i64 r.c.c, .bool r.c.p, .bool r.c.q, .bool r.c.r, .bool r.c.tn, .int .i64 r.c.wa, .int .i64 r.c.pr, .bool r.c.he, .slice Y r.c.af.length cy, .int .u8 r.c.st, .int .i64 r.c.ca, .int .i64 r.c.ci, .int .i64 r.c.b0, .int .i64 r.c.b1, .int .i64 r.c.b2, .int .i64 r.c.b3, .int .i64 r.c.b4, .int .i64 r.c.b5, .int .i64 r.c.fr, .int .i64 r.c.to, .int .i64 r.c.n, .bool r.c.we])
  have HB := Lib.hid (below_alloc (o := .cells #[.int .i64 r.g, .int .i64 r.s.d0, .int .i64 r.s.d1, .int .i64 r.s.d2, .int .i64 r.s.bo, .int .i64 r.s.fr, .int .i64 r.s.tr, .int .i64 r.s.ag, .slice x.C r.s.cs.length x.cc, .int .i64 r.s.nw, .int .i64 r.s.nx, .slice x.J r.s.js.length x.cj, .slice x.P r.s.ps.length x.cp, .slice x.K r.s.ks.length x.ck, .slice x.D r.s.dn.length x.cd, .slice x.S r.s.sh.length x.cs, .slice x.U r.s.cu.length x.cu, .int .u8 r.c.kd, .int .i64 r.c.id, .int .i64 r.c.us, .int .i64 r.c.cl, .int .i64 r.c.a, .int .i64 r.c.b, .int .i64 r.c.c, .bool r.c.p, .bool r.c.q, .bool r.c.r, .bool r.c.tn, .int .i64 r.c.wa, .int .i64 r.c.pr, .bool r.c.he, .slice Y r.c.af.length cy, .int .u8 r.c.st, .int .i64 r.c.ca, .int .i64 r.c.ci, .int .i64 r.c.b0, .int .i64 r.c.b1, .int .i64 r.c.b2, .int .i64 r.c.b3, .int .i64 r.c.b4, .int .i64 r.c.b5, .int .i64 r.c.fr, .int .i64 r.c.to, .int .i64 r.c.n, .bool r.c.we] 51) (Below.refl w.heap.size w))
  generalize w.alloc (.cells #[.int .i64 r.g, .int .i64 r.s.d0, .int .i64 r.s.d1, .int .i64 r.s.d2, .int .i64 r.s.bo, .int .i64 r.s.fr, .int .i64 r.s.tr, .int .i64 r.s.ag, .slice x.C r.s.cs.length x.cc, .int .i64 r.s.nw, .int .i64 r.s.nx, .slice x.J r.s.js.length x.cj, .slice x.P r.s.ps.length x.cp, .slice x.K r.s.ks.length x.ck, .slice x.D r.s.dn.length x.cd, .slice x.S r.s.sh.length x.cs, .slice x.U r.s.cu.length x.cu, .int .u8 r.c.kd, .int .i64 r.c.id, .int .i64 r.c.us, .int .i64 r.c.cl, .int .i64 r.c.a, .int .i64 r.c.b, .int .i64 r.c.c, .bool r.c.p, .bool r.c.q, .bool r.c.r, .bool r.c.tn, .int .i64 r.c.wa, .int .i64 r.c.pr, .bool r.c.he, .slice Y r.c.af.length cy, .int .u8 r.c.st, .int .i64 r.c.ca, .int .i64 r.c.ci, .int .i64 r.c.b0, .int .i64 r.c.b1, .int .i64 r.c.b2, .int .i64 r.c.b3, .int .i64 r.c.b4, .int .i64 r.c.b5, .int .i64 r.c.fr, .int .i64 r.c.to, .int .i64 r.c.n, .bool r.c.we] 51) = W0 at *
  have R1 := Lib.hid (show W0.rangeAt w.heap.size 1 [.int .i64 r.s.d0, .int .i64 r.s.d1, .int .i64 r.s.d2, .int .i64 r.s.bo, .int .i64 r.s.fr, .int .i64 r.s.tr, .int .i64 r.s.ag, .slice x.C r.s.cs.length x.cc, .int .i64 r.s.nw, .int .i64 r.s.nx, .slice x.J r.s.js.length x.cj, .slice x.P r.s.ps.length x.cp, .slice x.K r.s.ks.length x.ck, .slice x.D r.s.dn.length x.cd, .slice x.S r.s.sh.length x.cs, .slice x.U r.s.cu.length x.cu] from range_part (n := 16) KA.out rfl)
  have x1 := box_full (W := W0) 49 #[.int .i64 0, .int .i64 0, .int .i64 0, .int .i64 0, .int .i64 0, .int .i64 0, .int .i64 0, .slice none 0 0, .int .i64 0, .int .i64 0, .slice none 0 0, .slice none 0 0, .slice none 0 0, .slice none 0 0, .slice none 0 0, .slice none 0 0] (vs := [.int .i64 r.s.d0, .int .i64 r.s.d1, .int .i64 r.s.d2, .int .i64 r.s.bo, .int .i64 r.s.fr, .int .i64 r.s.tr, .int .i64 r.s.ag, .slice x.C r.s.cs.length x.cc, .int .i64 r.s.nw, .int .i64 r.s.nx, .slice x.J r.s.js.length x.cj, .slice x.P r.s.ps.length x.cp, .slice x.K r.s.ks.length x.ck, .slice x.D r.s.dn.length x.cd, .slice x.S r.s.sh.length x.cs, .slice x.U r.s.cu.length x.cu]) rfl
  go_upto_region 2 with (first | (refine wpList_load_mid rfl 49 _ rfl _ _ rfl _ _ R1.out Try.underlying49 rfl (by kernel_rfl) ?_) | (refine wpList_store_mid rfl 49 _ _ rfl W0.heap.size 0 (List.toArray [.int .i64 r.s.d0, .int .i64 r.s.d1, .int .i64 r.s.d2, .int .i64 r.s.bo, .int .i64 r.s.fr, .int .i64 r.s.tr, .int .i64 r.s.ag, .slice x.C r.s.cs.length x.cc, .int .i64 r.s.nw, .int .i64 r.s.nx, .slice x.J r.s.js.length x.cj, .slice x.P r.s.ps.length x.cp, .slice x.K r.s.ks.length x.ck, .slice x.D r.s.dn.length x.cd, .slice x.S r.s.sh.length x.cs, .slice x.U r.s.cu.length x.cu]) rfl rfl (there_of (Blk.new W0 49 #[.int .i64 0, .int .i64 0, .int .i64 0, .int .i64 0, .int .i64 0, .int .i64 0, .int .i64 0, .slice none 0 0, .int .i64 0, .int .i64 0, .slice none 0 0, .slice none 0 0, .slice none 0 0, .slice none 0 0, .slice none 0 0, .slice none 0 0]) (Nat.le_of_ble_eq_true rfl)) (by kernel_rfl) (by kernel_rfl) ?_; simp only [List.toList_toArray]; generalize World.setCells _ _ _ _ = W1 at *; (try simp only [Act.put])))
  have HB2 := Lib.hid (below_up HB.out x1.2)
  have KA2 := Lib.hid (KA.out.below x1.2 KA.out.lt)
  obtain ⟨g3, hg3⟩ : ∃ n, n = W0.heap.size := ⟨_, rfl⟩
  rw [← hg3] at x1
  rw [← hg3]
  have K3 := Lib.hid x1.1
  clear x1 R1 KA HB hg3
  have c31 : W1.cell? ⟨w.heap.size, 31, none⟩ = some (.slice Y r.c.af.length cy) := KA2.out.cell 31
  have m7 : W1.cell? ⟨g3, 7, none⟩ = some (.slice x.C r.s.cs.length x.cc) := K3.out.cell 7
  have m10 : W1.cell? ⟨g3, 10, none⟩ = some (.slice x.J r.s.js.length x.cj) := K3.out.cell 10
  have m11 : W1.cell? ⟨g3, 11, none⟩ = some (.slice x.P r.s.ps.length x.cp) := K3.out.cell 11
  have m12 : W1.cell? ⟨g3, 12, none⟩ = some (.slice x.K r.s.ks.length x.ck) := K3.out.cell 12
  have m13 : W1.cell? ⟨g3, 13, none⟩ = some (.slice x.D r.s.dn.length x.cd) := K3.out.cell 13
  have m14 : W1.cell? ⟨g3, 14, none⟩ = some (.slice x.S r.s.sh.length x.cs) := K3.out.cell 14
  have m15 : W1.cell? ⟨g3, 15, none⟩ = some (.slice x.U r.s.cu.length x.cu) := K3.out.cell 15
  have HI1 := Lib.hid (HI.out.up HB2.out)
  go_wp2_with fail
  clear c31 m7 m11 m12 m13 m14 m15 KA2 m10
  have hub : r.s.js.length ≤ 9223372036854775807 := HT.out.J
  go_loopw [4, 5] (fun n i wr => ∃ (k : Nat) (u : Int), n = .int .i64 u ∧ k ≤ r.s.js.length ∧ k ≤ 2000 ∧ i = .int .i64 k ∧ Hid (Below W1.heap.size W1 wr))
    (fun n i _ => r.s.js.length - (intOf i).toNat)
  case atStart => exact ⟨0, _, rfl, Nat.zero_le _, Nat.zero_le _, rfl, Below.refl _ _⟩
  case round =>
    obtain ⟨k, u, rfl, hk, hk2, rfl, hB⟩ := hrel
    have m10 : wr.cell? ⟨g3, 10, none⟩ = some (.slice x.J r.s.js.length x.cj) := (K3.out.below hB.out K3.out.lt).cell 10
    have HF := Lib.hid (below_up HB2.out hB.out)
    by_cases hlt : k < r.s.js.length
    · have hki : (k : Int) < (r.s.js.length : Int) := by omega
      have hki0 : (0 : Int) ≤ (k : Int) := by omega
      by_cases h2 : k < 2000
      · have hk20 : (k : Int) < 2000 := by omega
        have hg : r.s.js[k]? = some r.s.js[k] := List.getElem?_eq_getElem hlt
        generalize r.s.js[k] = v at hg
        obtain ⟨b, o, cs, e91, hb, _, r1, Yv, cv, rfl, _, _⟩ := SlcAt.up jStays HI1.out.J hB.out k v hg
        rw [e91] at m10
        have c13 := r1 13 _ rfl
        have HG := Lib.hid hg
        clear hg e91 r1
        go_wp2_with fail
        go_roundw
        case rel => exact ⟨k + 1, _, rfl, by omega, by omega, by go_num, hB.out⟩
        case measure => simp [intOf]; omega
      · have hk20 : ¬ (k : Int) < 2000 := by omega
        go_wp2_with fail
        go_ret
        exact ⟨⟨_, rfl⟩, HF.out⟩
    · have hki : ¬ (k : Int) < (r.s.js.length : Int) := by omega
      go_wp2_with fail
      go_ret
      exact ⟨⟨_, rfl⟩, HF.out⟩
end Go.Proofs.Ytfdldbfjeamlcaa.RecGreat
/-! Frames one behind another, and with one byte turned, in plain Lean. No conditions but those named. -/
namespace Go.Proofs.Ytfdldbfjeamlcaa.LogCatP
open Go Go.RowKit MarkMath Mem RecMem RecByte RecNum RecMath RecCod RecVal RecSame RecWr0 RecRecC RecRead RecAll LogFour LogJoin LogWrap LogFrm LogPlain
set_option linter.unusedVariables false
set_option linter.unusedSimpArgs false

/-- A record that can be written. -/
def Fit (r : RV) : Prop := okR r ∧ (recB r).length ≤ 65536
def cat (rs : List RV) : Bs := (rs.map wrapB).flatten
theorem cat_nil : cat [] = [] := rfl
theorem cat_cons (r : RV) (rs : List RV) : cat (r :: rs) = wrapB r ++ cat rs := rfl
theorem cat_snoc (rs : List RV) (r : RV) : cat (rs ++ [r]) = cat rs ++ wrapB r := by simp [cat]
theorem cat_app (rs qs : List RV) : cat (rs ++ qs) = cat rs ++ cat qs := by simp [cat]
theorem wrap_oct {r : RV} (h : okR r) : Oct (wrapB r) := ((fourB_oct _).app (fourB_oct _)).app (recB_oct h)
theorem cat_oct : ∀ {rs : List RV}, (∀ r ∈ rs, Fit r) → Oct (cat rs)
  | [], _ => Oct.nil
  | r :: rs, h => (wrap_oct (h r (by simp)).1).app (cat_oct fun q hq => h q (by simp [hq]))
theorem cat_small : ∀ {rs : List RV}, (∀ r ∈ rs, Fit r) → (cat rs).length ≤ rs.length * 65544
  | [], _ => by simp [cat]
  | r :: rs, h => by
    have h1 := (h r (by simp)).2
    have h2 := cat_small fun q hq => h q (List.mem_cons_of_mem r hq)
    rw [cat_cons, List.length_append, wrapB_len, List.length_cons]
    omega
theorem cat_len8 : ∀ (rs : List RV), rs.length * 8 ≤ (cat rs).length
  | [] => by simp [cat]
  | r :: rs => by
    have := cat_len8 rs
    rw [cat_cons, List.length_append, wrapB_len, List.length_cons]
    omega
/-- The frames' ends, with their records. -/
def pairs (k : Nat) : List RV → List (Int × RV)
  | [] => []
  | r :: rs => (((k + (wrapB r).length : Nat) : Int), r) :: pairs (k + (wrapB r).length) rs
theorem pairs_snd : ∀ (rs : List RV) (k : Nat), (pairs k rs).map (·.2) = rs
  | [], _ => rfl
  | r :: rs, k => by simp [pairs, pairs_snd rs]
theorem pairs_len (rs : List RV) (k : Nat) : (pairs k rs).length = rs.length := by
  have := congrArg List.length (pairs_snd rs k)
  simpa using this
theorem pairs_pos : ∀ (rs : List RV) (k : Nat), ∀ p ∈ pairs k rs, ¬ p.1 < 0
  | [], _, p, hp => by simp [pairs] at hp
  | r :: rs, k, p, hp => by
    rcases List.mem_cons.1 hp with rfl | hp
    · simp; omega
    · exact pairs_pos rs _ p hp
theorem pairs_end : ∀ (rs : List RV) (k : Nat) (d : Int), d = k → ((pairs k rs).getLast?.map (·.1)).getD d = ((k + (cat rs).length : Nat) : Int)
  | [], k, d, e => by simp [pairs, cat, e]
  | r :: rs, k, d, e => by
    have h := pairs_end rs (k + (wrapB r).length) _ rfl
    rw [pairs, List.getLast?_cons, cat_cons, List.length_append, ← Nat.add_assoc, ← h]
    cases (pairs (k + (wrapB r).length) rs).getLast? <;> simp
/-- Whole frames, whatever is behind them. -/
theorem fr_pre (Q : Bs) : ∀ (rs : List RV) (P : Bs) (g : Nat), (∀ r ∈ rs, Fit r) → fr (P ++ (cat rs ++ Q)) (g + rs.length) P.length = pairs P.length rs ++ fr (P ++ (cat rs ++ Q)) g (P.length + (cat rs).length)
  | [], P, g, _ => by simp [pairs, cat]
  | r :: rs, P, g, h => by
    have e : P ++ (cat (r :: rs) ++ Q) = (P ++ wrapB r) ++ (cat rs ++ Q) := by rw [cat_cons]; simp
    have e2 : P ++ (cat (r :: rs) ++ Q) = P ++ (wrapB r ++ (cat rs ++ Q)) := by rw [cat_cons]; simp
    have h1 := fr_wrap P (cat rs ++ Q) (h r (by simp)).1 (h r (by simp)).2 (g + rs.length)
    have h2 := fr_pre Q rs (P ++ wrapB r) g fun q hq => h q (by simp [hq])
    rw [List.length_append] at h2
    rw [List.length_cons, ← Nat.add_assoc, e2, h1, ← e2, e, h2, pairs, List.cons_append, cat_cons, List.length_append, Nat.add_assoc]
theorem fr_stop {P Q : Bs} (h : ∀ f, fr (P ++ Q) (f + 1) P.length = []) {rs : List RV} (hP : P = cat rs) (hr : ∀ r ∈ rs, Fit r) : fr (P ++ Q) ((P ++ Q).length + 1) 0 = pairs 0 rs := by
  subst hP
  have hl := cat_len8 rs
  obtain ⟨g, hg⟩ : ∃ g, (cat rs ++ Q).length + 1 = g + 1 + rs.length := ⟨(cat rs ++ Q).length - rs.length, by rw [List.length_append]; omega⟩
  have := fr_pre Q rs [] (g + 1) hr
  rw [hg]
  simp only [List.nil_append, List.length_nil, Nat.zero_add] at this
  rw [this, h g, List.append_nil]
/-- Frames alone. -/
theorem fr_all {rs : List RV} (hr : ∀ r ∈ rs, Fit r) : fr (cat rs) ((cat rs).length + 1) 0 = pairs 0 rs := by
  have := fr_stop (P := cat rs) (Q := []) (fun f => fr_end (by simp)) rfl hr
  simpa using this
/-- Frames, and the beginning of one more. -/
theorem fr_more {rs : List RV} (hr : ∀ r ∈ rs, Fit r) {r : RV} (h : Fit r) {m : Nat} (hm : m < (wrapB r).length) : fr (cat rs ++ (wrapB r).take m) ((cat rs ++ (wrapB r).take m).length + 1) 0 = pairs 0 rs :=
  fr_stop (fun f => fr_part _ h.2 hm f) rfl hr

/-! A byte that is turned. -/
theorem num4_set {n : Int} (h0 : 0 ≤ n) (h1 : n < 4294967296) {j : Nat} (hj : j < 4) {y : Int} (hy : 0 ≤ y ∧ y < 256) (hne : y ≠ (fourB n)[j]'hj) (u : Bs) : num4 ((fourB n).set j y ++ u) ≠ n := by
  have e : num4 (fourB n ++ u) = n := num4_four h0 h1 u
  match j, hj with
  | 0, _ | 1, _ | 2, _ | 3, _ =>
    simp [fourB] at hne
    simp [fourB, num4, numb]
    omega
theorem fr_turned (P Q : Bs) {r : RV} (h : Fit r) {j : Nat} (h4 : 4 ≤ j) (hj : j < (wrapB r).length) {y : Int} (hy : 0 ≤ y ∧ y < 256) (hne : y ≠ (wrapB r)[j]) (f : Nat) :
    fr (P ++ ((wrapB r).set j y ++ Q)) (f + 1) P.length = [(-1, RV.z)] := by
  have hm := mk_in (t := recB r)
  have hl := h.2
  -- the three parts of the turned frame
  obtain ⟨M, B, hM, hB, hw, hbad⟩ : ∃ M B : Bs, M.length = 4 ∧ B.length = (recB r).length ∧ (wrapB r).set j y = fourB ((recB r).length : Int) ++ (M ++ B) ∧ ∀ u, mk 0 B ≠ num4 (M ++ u) := by
    have hwr : wrapB r = fourB ((recB r).length : Int) ++ (fourB (mk 0 (recB r)) ++ recB r) := by unfold wrapB; simp
    by_cases h8 : j < 8
    · refine ⟨(fourB (mk 0 (recB r))).set (j - 4) y, recB r, by simp [fourB], rfl, ?_, fun u => ?_⟩
      · rw [hwr, List.set_append_right _ _ (by simp [fourB]; omega), List.set_append_left _ _ (by simp [fourB]; omega)]
        rfl
      · refine fun e => num4_set hm.1 (by omega) (j := j - 4) (by omega) hy ?_ u e.symm
        have e : (fourB (mk 0 (recB r)))[j - 4]'(by simp [fourB]; omega) = (wrapB r)[j] := by
          simp only [hwr]
          rw [List.getElem_append_right (by simp [fourB]; omega), List.getElem_append_left (by simp [fourB]; omega)]
          rfl
        exact fun hh => hne (hh.trans e)
    · have hjl : j - 8 < (recB r).length := by rw [wrapB_len] at hj; omega
      have hel : (recB r)[j - 8] = (wrapB r)[j] := by
        simp only [hwr]
        rw [List.getElem_append_right (by simp [fourB]; omega), List.getElem_append_right (by simp [fourB]; omega)]
        rfl
      refine ⟨fourB (mk 0 (recB r)), (recB r).set (j - 8) y, by simp [fourB], by simp, ?_, fun u => ?_⟩
      · rw [hwr, List.set_append_right _ _ (by simp [fourB]; omega), List.set_append_right _ _ (by simp [fourB]; omega)]
        rfl
      · rw [num4_four hm.1 (by omega)]
        intro e
        refine hne (((mk_set (recB r) (j - 8) y hjl (fun x hx => ?_) (by omega)).1 e).trans hel)
        have := recB_oct h.1 x hx
        omega
  have e0 : (P ++ ((wrapB r).set j y ++ Q)).drop P.length = fourB ((recB r).length : Int) ++ (M ++ (B ++ Q)) := by rw [List.drop_left, hw]; simp
  have n0 : num4 ((P ++ ((wrapB r).set j y ++ Q)).drop P.length) = ((recB r).length : Int) := by rw [e0]; exact num4_four (by omega) (by omega) _
  have n4 : num4 ((P ++ ((wrapB r).set j y ++ Q)).drop (P.length + 4)) = num4 (M ++ (B ++ Q)) := by
    rw [← List.drop_drop, e0, show 4 = (fourB ((recB r).length : Int)).length from rfl, List.drop_left]
  have n8 : frT (P ++ ((wrapB r).set j y ++ Q)) P.length = B := by
    unfold frT
    rw [n0, ← List.drop_drop, e0, ← List.append_assoc, show 8 = (fourB ((recB r).length : Int) ++ M).length by rw [List.length_append, hM]; rfl, List.drop_left, Int.toNat_natCast, ← hB, List.take_left]
  have hlen : (P ++ ((wrapB r).set j y ++ Q)).length = P.length + ((recB r).length + 8) + Q.length := by rw [List.length_append, List.length_append, List.length_set, wrapB_len]; omega
  refine fr_bad (by omega) (by rw [n0]; omega) (by rw [n0]; omega) fun hk => ?_
  have := hk.2
  rw [n8, n4] at this
  exact hbad _ this
/-- Frames of which one has a byte turned: they are told up to it, and it is told as broken. -/
theorem all_turned {rs qs : List RV} (hr : ∀ q ∈ rs, Fit q) {r : RV} (h : Fit r) {j : Nat} (h4 : 4 ≤ j) (hj : j < (wrapB r).length) {y : Int} (hy : 0 ≤ y ∧ y < 256) (hne : y ≠ (wrapB r)[j]) :
    let t := cat rs ++ ((wrapB r).set j y ++ cat qs)
    ∃ p ∈ fr t (t.length + 1) 0, p.1 < 0 := by
  intro t
  have hl := cat_len8 rs
  have ht : t.length = (cat rs).length + ((wrapB r).set j y ++ cat qs).length := List.length_append
  obtain ⟨g, hg⟩ : ∃ g, t.length + 1 = g + 1 + rs.length := ⟨t.length - rs.length, by omega⟩
  have := fr_pre ((wrapB r).set j y ++ cat qs) rs [] (g + 1) hr
  rw [hg]
  simp only [List.nil_append, List.length_nil, Nat.zero_add] at this
  rw [show fr t (g + 1 + rs.length) 0 = _ from this, fr_turned (cat rs) (cat qs) h h4 hj hy hne]
  exact ⟨(-1, RV.z), by simp, by decide⟩
/-- Where a place of the frames lies: in which frame. -/
theorem cat_place : ∀ {rs : List RV} {k : Nat}, k < (cat rs).length → ∃ pre r post, rs = pre ++ r :: post ∧ (cat pre).length ≤ k ∧ k < (cat pre).length + (wrapB r).length
  | [], k, h => by simp [cat] at h
  | r :: rs, k, h => by
    by_cases hk : k < (wrapB r).length
    · exact ⟨[], r, rs, rfl, by simp [cat], by simpa [cat] using hk⟩
    · obtain ⟨pre, q, post, e, h1, h2⟩ := cat_place (rs := rs) (k := k - (wrapB r).length) (by rw [cat_cons, List.length_append] at h; omega)
      refine ⟨r :: pre, q, post, by rw [e]; rfl, ?_, ?_⟩ <;> rw [cat_cons, List.length_append] <;> omega
theorem set_place {rs : List RV} {pre post : List RV} {r : RV} (e : rs = pre ++ r :: post) {k : Nat} (h1 : (cat pre).length ≤ k) (h2 : k < (cat pre).length + (wrapB r).length) (y : Int) :
    (cat rs).set k y = cat pre ++ ((wrapB r).set (k - (cat pre).length) y ++ cat post) := by
  rw [e, cat_app, cat_cons, List.set_append_right _ _ h1, List.set_append_left _ _ (by omega)]
theorem get_place {rs : List RV} {pre post : List RV} {r : RV} (e : rs = pre ++ r :: post) {k : Nat} (h1 : (cat pre).length ≤ k) (h2 : k < (cat pre).length + (wrapB r).length) (hk : k < (cat rs).length) :
    (cat rs)[k] = (wrapB r)[k - (cat pre).length]'(by omega) := by
  subst e
  simp only [cat_app, cat_cons]
  rw [List.getElem_append_right h1, List.getElem_append_left (by omega)]
/-- The stage's sentence: a byte that is turned outside of the frames' lengths is told as broken. -/
theorem turned_law {rs : List RV} (hr : ∀ q ∈ rs, Fit q) {k : Nat} (hk : k < (cat rs).length) (hout : ∀ pre r post, rs = pre ++ r :: post → ¬ ((cat pre).length ≤ k ∧ k < (cat pre).length + 4)) {y : Int} (hy : 0 ≤ y ∧ y < 256) (hne : y ≠ (cat rs)[k]) :
    ∃ p ∈ fr ((cat rs).set k y) ((cat rs).length + 1) 0, p.1 < 0 := by
  obtain ⟨pre, r, post, e, h1, h2⟩ := cat_place hk
  have ho := hout pre r post e
  have h := all_turned (rs := pre) (qs := post) (fun q hq => hr q (by rw [e]; simp [hq])) (r := r) (hr r (by rw [e]; simp)) (j := k - (cat pre).length) (by omega) (by omega) (y := y) hy (by rw [← get_place e h1 h2 hk]; exact hne)
  rw [← set_place e h1 h2 y] at h
  simpa using h
end Go.Proofs.Ytfdldbfjeamlcaa.LogCatP
/-! What is asked of records of a slice: how great they are, their frames. No conditions but those named. -/
namespace Go.Proofs.Ytfdldbfjeamlcaa.LogList
open Go Go.RowKit MarkMath Mem RecMem RecByte RecNum RecMath RecCod RecVal RecSame RecRd RecRecC RecRead RecAt RecAll RecGreat LogFour LogJoin LogWrap LogFrm LogRows LogCatP
set_option linter.unusedVariables false
set_option linter.unusedSimpArgs false

theorem rgreatR {w : World} {r : RV} {cs : List Value} (h : rRep w r cs) (F : RFacts r) : Calls Try.prog 20 #[.agg cs.toArray] w fun e w' => (∃ B, e = .returned (.bool B)) ∧ Below w.heap.size w w' := by
  obtain ⟨x, Y, cy, rfl, h⟩ := h
  exact (rgreat28 r x Y cy F.ht w h.st).mono fun e w' k => k
/-- What Wrap answers. -/
theorem wrapR {w : World} {r : RV} {cs : List Value} (h : rRep w r cs) (F : RFacts r) : Calls Try.prog 37 #[.agg cs.toArray] w fun e w' =>
    (∃ v X n c, e = .returned (.tuple #[.slice X n c, .int .i64 v]) ∧ (v ≠ 0 → ¬ Fit r) ∧ (v = 0 → Fit r ∧ n = (wrapB r).length ∧ ∃ g, X = some ⟨g, 0, none⟩ ∧ Fresh w.heap.size w' g (wrapB r) c)) ∧ Below w.heap.size w w' := by
  obtain ⟨x, Y, cy, rfl, h⟩ := h
  refine (wrap_v r x Y cy F w h).mono ?_
  rintro e w' ⟨⟨v, X, n, c, rfl, hV, h0, h1⟩, hB⟩
  refine ⟨⟨v, X, n, c, rfl, fun hv hf => hv (hV.ok.2 hf), fun hv => ?_⟩, hB⟩
  obtain ⟨g, e, hn, hF⟩ := h1 hv
  exact ⟨hV.ok.1 hv, hn, g, e, hF⟩
theorem cells_one (l : Bs) : ∀ u ∈ l.map (Value.int .u8), u.oneCell' = true := fun u hu => by
  obtain ⟨n, _, rfl⟩ := List.mem_map.1 hu
  rfl
theorem own_txt {w : World} {B : Nat} {Y : Option Addr} {n c : Nat} {t : Bs} (h : w.ownsRow B 5 1 (.slice Y n c) n (t.map (Value.int .u8))) : TxtAt w Y t := txt_of (n := n) (Reads.of_own h)
theorem own_up {w w' : World} {B size n : Nat} {e : TypeId} {v : Value} {xs : List Value} (h : w.ownsRow B e size v n xs) (hB : Below w.heap.size w w') : w'.ownsRow B e size v n xs := RecRL0.ownsRow_agree h fun g cur _ hh => hB.block g (Array.getElem?_eq_some_iff.1 hh).1
theorem txt_bytes_n {w : World} {X : Option Addr} {n : Nat} {t : Bs} (hn : n = t.length) (h : TxtAt w X t) : Reads w w.heap.size 1 X n (t.map (Value.int .u8)) := by subst hn; exact txt_bytes h
theorem own_len {w : World} {B : Nat} {Y : Option Addr} {n c : Nat} {t : Bs} (h : w.ownsRow B 5 1 (.slice Y n c) n (t.map (Value.int .u8))) : n = t.length := by
  have := h.1
  simp at this
  omega
end Go.Proofs.Ytfdldbfjeamlcaa.LogList
/-! The walk of LogFrames. No conditions but those named. -/
namespace Go.Proofs.Ytfdldbfjeamlcaa.LogFramesW
open Go Go.RowKit RecGuard MarkMath Mem RecMem RecByte RecNum RecMath RecCod RecVal RecSame RecWr0 RecRecC RecRd RecRead RecAt RecAll RecF4 LogFour LogJoin LogWrap LogFrm LogAllV LogPlain LogAlive LogRows LogCatP LogList LogCutP LogSameA LogAllW
set_option linter.unusedVariables false
set_option linter.unusedSimpArgs false

set_option maxRecDepth 100000 in
set_option maxHeartbeats 4000000 in
theorem walkFrames (w : World) (X : Option Addr) (cx : Nat) (l : List RV) (hcx : l.length ≤ cx) (hmx : cx ≤ maxLen) (hfl : ∀ r ∈ l, RFacts r) (hX : RsAt w X l) (r0 : RV) (x : SA) (Y : Option Addr) (cy : Nat) (F0 : RFacts r0) (I0 : RIs w r0 x Y cy) (a : Int) (wa : (Lit.int .u16 a).wf = true) :
    Calls Try.prog 10 #[.slice X l.length cx, .agg (rL r0 x Y cy).toArray, .int .u16 a] w fun e w' => e = .returned (.bool true) ∧ Below w.heap.size w w' := by
  have hl : l.length ≤ 9223372036854775807 := by simp only [maxLen] at hmx; omega
  have ha0 : 0 ≤ a ∧ a < 65536 := by
    have := wa
    simp [Lit.wf, IntKind.min, IntKind.max, IntKind.signed, IntKind.bits] at this
    omega
  obtain ⟨cm, hcm⟩ : ∃ cm, cm = rL r0 x Y cy := ⟨_, rfl⟩
  have HM := Lib.hid (show rRep w r0 cm from ⟨x, Y, cy, hcm, I0⟩)
  have hcl : cm.length = 45 := by rw [hcm]; rfl
  rw [← hcm]
  clear hcm
  have hsm : cm.toArray.size = 45 := by simpa using hcl
  have hzm : (Try.prog.info? 51).map (·.size) = some cm.length := by rw [hcl]; kernel_rfl
  have hzb : (Try.prog.info? 51).map (·.size) = some cm.toArray.size := by rw [hsm]; kernel_rfl
  have HX := Lib.hid hX
  have HF := Lib.hid (And.intro hfl F0)
  have HCX := Lib.hid (And.intro hcx hl)
  have HA := Lib.hid ha0
  clear hX hfl F0 I0 wa ha0 hcx hmx
  go_enter Try.func10, Try.ntmps10
  go_upto_region 1 with fail
  have K0 := Lib.hid (Blk.new w 51 cm.toArray)
  have HB0 := Lib.hid (below_alloc (o := .cells cm.toArray 51) (Below.refl w.heap.size w))
  have HX0 := Lib.hid (SlcAt.up rStays HX.out (below_alloc (o := .cells cm.toArray 51) (Below.refl w.heap.size w)))
  have HM0 := Lib.hid (rStays _ _ _ _ HM.out (below_alloc (o := .cells cm.toArray 51) (Below.refl w.heap.size w)))
  generalize w.alloc (.cells cm.toArray 51) = W0 at *
  clear HX HM
  go_wp2_with fail
  refine (alive29 W0).mono ?_
  rintro e w1 ⟨rfl, hB1⟩
  have HB1 := Lib.hid (below_up HB0.out hB1)
  have K1 := Lib.hid (K0.out.below hB1 K0.out.lt)
  have HX1 := Lib.hid (SlcAt.up rStays HX0.out hB1)
  have HM1 := Lib.hid (rStays _ _ _ _ HM0.out hB1)
  clear hB1 HB0 K0 HX0 HM0
  by_cases h20 : (20 : Int) < (l.length : Int)
  · have h20' : decide ((20 : Int) < (l.length : Int)) = true := decide_eq_true h20
    clear h20
    go_wp2_with fail
    go_ret
    exact ⟨rfl, HB1.out⟩
  have h20' : decide ((20 : Int) < (l.length : Int)) = false := decide_eq_false h20
  have HL20 := Lib.hid (show l.length ≤ 20 by omega)
  clear h20 hl
  have HRM := Lib.hid (show w1.rangeAt w.heap.size 0 cm from range_part (n := 45) K1.out (by simp [hcl.symm]))
  go_wp2_with (first | (refine wpList_load_mid_g (by rfl) 51 _ rfl _ _ rfl _ _ HRM.out Try.underlying51 rfl hzm ?_))
  refine (rgreatR HM1.out HF.out.2).mono ?_
  rintro e w2 ⟨⟨B, rfl⟩, hB2⟩
  have HB2 := Lib.hid (below_up HB1.out hB2)
  have K2 := Lib.hid (K1.out.below hB2 K1.out.lt)
  have HX2 := Lib.hid (SlcAt.up rStays HX1.out hB2)
  have HM2 := Lib.hid (rStays _ _ _ _ HM1.out hB2)
  clear hB2 HB1 K1 HX1 HM1 HRM
  cases B with
  | true =>
    go_wp2_with fail
    go_ret
    exact ⟨rfl, HB2.out⟩
  | false =>
    obtain ⟨i0, hi0, hz0, hz1, hz2⟩ := info_parts RecByte.byte_info
    have HI0 := Lib.hid (And.intro hi0 (And.intro hz0 (And.intro hz1 hz2)))
    clear hi0 hz0 hz1 hz2
    go_wp2_with fail
    have hub : l.length ≤ 20 := HL20.out
    go_loopw [8, 9, 10, 11] (fun al i bv ev wr => ∃ (k : Nat) (V : Option Addr) (N cV : Nat), k ≤ l.length ∧ i = .int .i64 k ∧ al = .slice V N cV ∧ Hid (wr.ownsRow w2.heap.size 5 1 (.slice V N cV) N ((cat (l.take k)).map (Value.int .u8))) ∧ Hid (∀ r ∈ l.take k, Fit r) ∧ Hid (Below w2.heap.size w2 wr))
      (fun al i bv ev _ => l.length - (intOf i).toNat)
    case atStart => exact ⟨0, none, 0, 0, Nat.zero_le _, rfl, rfl, World.ownsRow_nil _ _ _ _, (fun r hr => by simp at hr), Below.refl _ _⟩
    case round =>
      obtain ⟨k, V, N, cV, hk, rfl, rfl, hO, hFit, hB⟩ := hrel
      by_cases hlt : k < l.length
      · have hg : l[k]? = some l[k] := List.getElem?_eq_getElem hlt
        have hrf : RFacts l[k] := HF.out.1 _ (List.getElem_mem hlt)
        have htk : l.take (k + 1) = l.take k ++ [l[k]] := List.take_succ_eq_append_getElem hlt
        generalize l[k] = r at hg hrf htk
        have hki : (k : Int) < (l.length : Int) := by omega
        have hki0 : (0 : Int) ≤ (k : Int) := by omega
        obtain ⟨b, o, cs, rfl, hb, hc1, r1, e1⟩ := SlcAt.up rStays HX2.out hB.out k r hg
        have hz : (Try.prog.info? 51).map (·.size) = some cs.length := by rw [hc1]; kernel_rfl
        have HR := Lib.hid r1
        have HE := Lib.hid (And.intro e1 (And.intro hrf htk))
        have HXb := Lib.hid hb
        clear hg hrf htk hb hc1 r1 e1
        go_wp2_with (first | (refine wpList_load_mid rfl 51 _ rfl _ _ rfl _ _ HR.out Try.underlying51 rfl hz ?_))
        refine (rgreatR HE.out.1 HE.out.2.1).mono ?_
        rintro e w3 ⟨⟨B3, rfl⟩, hB3⟩
        have HB3 := Lib.hid (below_up hB.out hB3)
        have HE3 := Lib.hid (rStays _ _ _ _ HE.out.1 hB3)
        have HO3 := Lib.hid (own_up hO.out hB3)
        have HR3 := Lib.hid (show w3.rangeAt b (o + k * 45) cs from range_below HR.out hB3)
        clear hB3 HR hO
        have HR := Lib.hid HR3.out
        clear HR3
        cases B3 with
        | true =>
          go_wp2_with fail
          go_ret
          exact ⟨rfl, below_up HB2.out HB3.out⟩
        | false =>
          go_wp2_with (first | (refine wpList_load_mid rfl 51 _ rfl _ _ rfl _ _ HR.out Try.underlying51 rfl hz ?_))
          refine (wrapR HE3.out HE.out.2.1).mono ?_
          rintro e w4 ⟨⟨v, X4, n4, c4, rfl, hbad, hgood⟩, hB4⟩
          have HB4 := Lib.hid (below_up HB3.out hB4)
          have HO4 := Lib.hid (own_up HO3.out hB4)
          clear hB4 HO3 HE3 HR
          by_cases hv : v = 0
          · obtain ⟨hf, hn4, g4, hX4, hF4⟩ := hgood hv
            subst hv
            have HF4 := Lib.hid (And.intro hf (And.intro hn4 (txt_bytes (w := w4) (X := X4) (t := wrapB r) (by rw [hX4]; exact hF4.txt))))
            have HFk := Lib.hid (show ∀ q ∈ l.take (k + 1), Fit q from fun q hq => by
              rw [HE.out.2.2] at hq
              rcases List.mem_append.1 hq with h | h
              · exact hFit.out q h
              · simp at h; subst h; exact hf)
            have hsz : N ≤ 20 * 65544 := by
              have h1 := own_len HO4.out
              have h2 := cat_small hFit.out
              have h3 : (l.take k).length ≤ 20 := by rw [List.length_take]; have := HL20.out; omega
              omega
            have hsz2 : n4 ≤ 65544 := by rw [hn4, wrapB_len]; have := hf.2; omega
            have hbase : w2.heap.size ≤ w4.heap.size := HB4.out.size
            clear hbad hgood hf hn4 hX4 hF4 hFit
            go_wp2_with (first | (at_builtin; refine wpList_append_any _ rfl (.tmp 52) (.tmp 53) _ rfl w2.heap.size 5 i0 (.int .u8 0) 1 1 Try.underlying37 HI0.out.1 HI0.out.2.1 HI0.out.2.2.1 HI0.out.2.2.2 rfl (by decide) _ _ _ rfl HO4.out w4.heap.size X4 n4 c4 ((wrapB r).map (Value.int .u8)) rfl (by rw [HF4.out.2.1]; exact HF4.out.2.2) (cells_one _) (by simp only [maxLen]; omega) (by omega) hbase ?_; intro v7 w7 hown hg hat; obtain ⟨V7, c7, rfl⟩ := own_slice hown; have H7 := Lib.hid (And.intro hown hg); clear hown hg hat))
            go_roundw
            case rel =>
              refine ⟨k + 1, V7, N + n4, c7, by omega, by go_num, rfl, ?_, HFk.out, ?_⟩
              · have := H7.out.1
                rw [HE.out.2.2, cat_snoc, List.map_append]
                exact this
              · exact HB4.out.grown H7.out.2 HB4.out.size (fun j hj => (HO4.out.lt j hj).1)
            case measure => simp [intOf]; omega
          · have hv' : (v != 0) = true := by simpa using hv
            clear hv hbad hgood
            go_wp2_with fail
            go_ret
            exact ⟨rfl, below_up HB2.out HB4.out⟩
      · obtain rfl : k = l.length := by omega
        rw [List.take_length] at hO hFit
        have HBr := Lib.hid (below_up HB2.out hB.out)
        have HKr := Lib.hid (K2.out.below hB.out K2.out.lt)
        have HMr := Lib.hid (rStays _ _ _ _ HM2.out hB.out)
        have HLN := Lib.hid (own_len hO.out)
        have hsz : N ≤ 20 * 65544 := by
          have h2 := cat_small hFit.out
          have h1 := HLN.out
          have h3 := HL20.out
          omega
        have HSZ := Lib.hid hsz
        clear hub hlt hk
        have HRM := Lib.hid (show wr.rangeAt w.heap.size 0 cm from range_part (n := 45) HKr.out (by simp [hcl.symm]))
        have HS2 := Lib.hid HB2.out.size
        clear HB2 K2 HM2
        go_wp2_with (first | (refine wpList_load_mid rfl 51 _ rfl _ _ rfl _ _ HRM.out Try.underlying51 rfl hzm ?_))
        refine (wrapR HMr.out HF.out.2).mono ?_
        rintro e w4 ⟨⟨v, X4, n4, c4, rfl, hbad, hgood⟩, hB4⟩
        have HB4 := Lib.hid (hB.out.trans (hB4.mono hB.out.size))
        have HBw := Lib.hid (below_up HBr.out hB4)
        have HO4 := Lib.hid (own_up hO.out hB4)
        clear hB4 HBr HKr HMr HRM hO hB
        by_cases hv : v = 0
        · obtain ⟨hf, hn4, g4, hX4, hF4⟩ := hgood hv
          subst hv
          have HF4 := Lib.hid (And.intro hf (And.intro hn4 (And.intro hF4.cap hF4.top)))
          have HT4 := Lib.hid (show TxtAt w4 X4 (wrapB r0) by rw [hX4]; exact hF4.txt)
          have hn8 : 8 ≤ n4 := by rw [hn4, wrapB_len]; omega
          have hnu : n4 ≤ 65544 := by rw [hn4, wrapB_len]; have := hf.2; omega
          have hn0 : ¬ n4 = 0 := by omega
          have hni : ((n4 : Int) == 0) = false := by simp; omega
          have hnz : ¬ (n4 : Int) = 0 := by omega
          obtain ⟨m, hm⟩ := Int.eq_ofNat_of_zero_le (show 0 ≤ Int.tmod a (n4 : Int) from Int.tmod_nonneg _ HA.out.1)
          have hm1 : m < n4 := by
            have := Int.tmod_lt_of_pos a (show (0 : Int) < (n4 : Int) by omega)
            omega
          have hmc : (m : Int) ≤ (c4 : Int) := by have := HF4.out.2.2.1; rw [← HF4.out.2.1] at this; omega
          have ha1 := HA.out.1
          have ha2 := HA.out.2
          have hbase : w2.heap.size ≤ w4.heap.size := HB4.out.size
          have HM1 := Lib.hid hm1
          clear hbad hgood hf hn4 hX4 hF4
          go_wp2_with (first | (at_builtin; refine wpList_append_any _ rfl (.tmp 67) (.tmp 74) _ rfl w2.heap.size 5 i0 (.int .u8 0) 1 1 Try.underlying37 HI0.out.1 HI0.out.2.1 HI0.out.2.2.1 HI0.out.2.2.2 rfl (by decide) _ _ _ rfl HO4.out w4.heap.size X4 m c4 (((wrapB r0).take m).map (Value.int .u8)) rfl (txt_bytes_n (by rw [List.length_take, ← HF4.out.2.1]; omega) (TxtAt.take HT4.out m)) (cells_one _) (by simp only [maxLen]; omega) (by omega) hbase ?_; intro v7 w7 hown hg hat; obtain ⟨V7, c7, rfl⟩ := own_slice hown; have H7 := Lib.hid (And.intro hown hg); clear hown hg hat))
          have HPz := Lib.hid (show fr (cat l ++ (wrapB r0).take m) ((cat l ++ (wrapB r0).take m).length + 1) 0 = pairs 0 l ∧ Oct (cat l ++ (wrapB r0).take m) from ⟨fr_more hFit.out HF4.out.1 (by rw [← HF4.out.2.1]; exact HM1.out), (cat_oct hFit.out).app (Oct.take (wrap_oct HF4.out.1.1) m)⟩)
          have HOz := Lib.hid (show w7.ownsRow w2.heap.size 5 1 (.slice V7 (N + m) c7) (N + m) ((cat l ++ (wrapB r0).take m).map (Value.int .u8)) by rw [List.map_append]; exact H7.out.1)
          have HB2z := Lib.hid (HB4.out.grown H7.out.2 HB4.out.size (fun j hj => (HO4.out.lt j hj).1))
          have HBz := Lib.hid (HBw.out.grown H7.out.2 HBw.out.size (fun j hj => by have h1 := (HO4.out.lt j hj).1; have h2 := HS2.out; omega))
          have hmu : m ≤ 65544 := by have := HM1.out; omega
          clear H7 HO4 HB4 HBw HM1 HF4 HT4 hm hmc hm1 hnz hni hn0 hn8
          go_wp2_with fail
          refine (all_w V7 (N + m) c7 (cat l ++ (wrapB r0).take m) (own_len HOz.out) HPz.out.2 (RecWrite0.row_cap HOz.out).1 (RecWrite0.row_cap HOz.out).2 (by have := own_len HOz.out; omega) w7 (own_txt HOz.out)).mono ?_
          rintro e w8 ⟨⟨hw, V8, cv8, N8, E8, rfl, hN8, hNc, hcv, hE, hEl, hR⟩ | ⟨hw, rfl⟩, hB8⟩
          · have hrw : rows (cat l ++ (wrapB r0).take m) = l := by simp only [rows, frs, HPz.out.1, pairs_snd]
            have hpe := pairs_end l 0 0 rfl
            obtain rfl : N = E8 := by
              have h1 : endV (pairs 0 l) = E8 := by rw [← hE]; exact congrArg endV HPz.out.1.symm
              have h2 := HLN.out
              unfold endV at h1
              omega
            have HBy := Lib.hid (below_up HBz.out hB8)
            have HC := Lib.hid (rsame_w X V8 l.length N8 cx cv8 l (rows (cat l ++ (wrapB r0).take m)) rfl hN8 hrw.symm (by have := HL20.out; omega) HF.out.1 w8 (SlcAt.up rStays HX2.out (HB2z.out.trans (hB8.mono HB2z.out.size))) hR)
            clear hw hN8 hNc hcv hE hEl hR hB8 hrw hpe HOz HBz HB2z HX2
            go_wp2_with fail
            refine HC.out.mono ?_
            rintro e w9 ⟨rfl, hB9⟩
            have HB9 := Lib.hid (below_up HBy.out hB9)
            clear hB9 HC HBy
            go_wp2_with fail
            go_ret
            exact ⟨rfl, HB9.out⟩
          · refine absurd ?_ hw
            intro p hp
            rw [show frs (cat l ++ (wrapB r0).take m) = _ from HPz.out.1] at hp
            exact pairs_pos l 0 p hp
        · have hv' : (v == 0) = false := by simpa using hv
          clear hv hbad hgood
          have HPz := Lib.hid (show fr (cat l) ((cat l).length + 1) 0 = pairs 0 l ∧ Oct (cat l) from ⟨fr_all hFit.out, cat_oct hFit.out⟩)
          have HOz := Lib.hid HO4.out
          have HB2z := Lib.hid HB4.out
          have HBz := Lib.hid HBw.out
          clear HO4 HB4 HBw
          go_wp2_with fail
          refine (all_w V N cV (cat l) (own_len HOz.out) HPz.out.2 (RecWrite0.row_cap HOz.out).1 (RecWrite0.row_cap HOz.out).2 (by have := own_len HOz.out; omega) w4 (own_txt HOz.out)).mono ?_
          rintro e w8 ⟨⟨hw, V8, cv8, N8, E8, rfl, hN8, hNc, hcv, hE, hEl, hR⟩ | ⟨hw, rfl⟩, hB8⟩
          · have hrw : rows (cat l) = l := by simp only [rows, frs, HPz.out.1, pairs_snd]
            have hpe := pairs_end l 0 0 rfl
            obtain rfl : N = E8 := by
              have h1 : endV (pairs 0 l) = E8 := by rw [← hE]; exact congrArg endV HPz.out.1.symm
              have h2 := HLN.out
              unfold endV at h1
              omega
            have HBy := Lib.hid (below_up HBz.out hB8)
            have HC := Lib.hid (rsame_w X V8 l.length N8 cx cv8 l (rows (cat l)) rfl hN8 hrw.symm (by have := HL20.out; omega) HF.out.1 w8 (SlcAt.up rStays HX2.out (HB2z.out.trans (hB8.mono HB2z.out.size))) hR)
            clear hw hN8 hNc hcv hE hEl hR hB8 hrw hpe HOz HBz HB2z HX2
            go_wp2_with fail
            refine HC.out.mono ?_
            rintro e w9 ⟨rfl, hB9⟩
            have HB9 := Lib.hid (below_up HBy.out hB9)
            clear hB9 HC HBy
            go_wp2_with fail
            go_ret
            exact ⟨rfl, HB9.out⟩
          · refine absurd ?_ hw
            intro p hp
            rw [show frs (cat l) = _ from HPz.out.1] at hp
            exact pairs_pos l 0 p hp
end Go.Proofs.Ytfdldbfjeamlcaa.LogFramesW
/-! What every law's row wants beside its walk: the arguments read behind the call as they read before, where nothing below the heap's old size has turned; how arguments of the types that occur are opened. No conditions but those named. -/
namespace Go.Proofs.Ytfdldbfjeamlcaa.Lay
open Go.ChangeShapes Go.WideShapes Go.ChangeAt Go.RowKit Go.Joins Go.Deep Mem
set_option linter.unusedVariables false

theorem own : ownKnob Try.prog.godebug = none := by kernel_rfl
theorem laidOut : laidOutB Try.prog = true := by kernel_rfl

/-- All arguments read as they did. -/
theorem trodAll_below {H : Type} {enc : TypeId × Value → H} {P : Program} (hl : laidOutB P = true) {W W' : World} :
    ∀ {ts : List TypeId} {vs : List Value} {ds : List (DataW H)} {ps : List MemPlace}, (∀ t ∈ ts, P.readableRec t = true ∧ t < P.types.size) →
    DataW.TrodAll enc P W 0 (fun _ => true) true ts vs ds ps → Below W.heap.size W W' → (∀ x ∈ ps, x.block < W.heap.size) →
    DataW.TrodAll enc P W' 0 (fun b => decide (b < W.heap.size)) true ts vs ds ps
  | [], vs, ds, ps, _, h, _, _ => by obtain ⟨rfl, rfl, rfl⟩ := trodAll_nil h; exact trodAll_mk0
  | t :: ts, vs, ds, ps, hok, h, hb, hlt => by
    obtain ⟨v, vs', d, ds', p, q, rfl, rfl, rfl, h0, r0⟩ := trodAll_cons h
    have h1 := Below.trod hl (hok t (by simp)).1 (hok t (by simp)).2 h0 hb (fun x hx => hlt x (by simp [hx]))
    exact trodAll_cons_mk h1 (trodAll_below hl (fun u hu => hok u (by simp [hu])) r0 hb (fun x hx => hlt x (by simp [hx])))

theorem block_of_cell {W : World} {a : Addr} {v : Value} (h : W.cell? a = some v) : a.block < W.heap.size := by
  rcases Nat.lt_or_ge a.block W.heap.size with h1 | h1
  · exact h1
  · simp [World.cell?, Array.getElem?_eq_none h1] at h

/-- An argument that is a slice of integers: nil let in. -/
theorem open_row {H : Type} {enc : TypeId × Value → H} {P : Program} {W : World} {r : Reach} {b0 : Nat} {t e : TypeId} {k : IntKind} {v : Value} {d : DataW H} {p : List MemPlace} {sp : Nat → Bool} {held : Bool}
    (ht : P.underlying t = some (.slice e)) (he : P.underlying e = some (.int k)) (hC : P.cellsOf e = 1) (hv : Value.okWide P W r b0 t v) (h : DataW.Trod enc P W 0 sp held t v d p) :
    ∃ (X : Option Addr) (c : Nat) (l : List Int), v = .slice X l.length c ∧ l.length ≤ c ∧ c ≤ maxLen ∧ Reads W W.heap.size 1 X l.length (l.map (Value.int k)) ∧ ∀ n ∈ l, (Lit.int k n).wf = true := by
  obtain ⟨X, len, cap, rfl⟩ := okWide_slice ht hv
  obtain ⟨fuel, hf⟩ := h
  rcases open_ints ht he hC hf with ⟨hcs, _⟩ | ⟨x, l, c, zs, hcs, _, hl, hm, hz, _, hcell, hwz⟩
  · simp [Value.cells] at hcs
    obtain ⟨rfl, rfl, rfl⟩ := hcs
    exact ⟨none, 0, [], rfl, by simp, by simp [maxLen], Reads.none_, by simp⟩
  · simp [Value.cells] at hcs
    obtain ⟨rfl, rfl, rfl⟩ := hcs
    have hlen : (zs.take len).length = len := by
      have : len ≤ zs.length := by
        rw [hz]; split <;> omega
      simp; omega
    refine ⟨some x, cap, zs.take len, by rw [hlen], by omega, hm, ⟨by simp, fun hn => ⟨x, rfl, ?_, ?_⟩⟩, fun n hn => hwz n (List.mem_of_mem_take hn)⟩
    · rw [hlen] at hn
      have h0 := hcell 0 (by rw [hz]; split <;> omega)
      have := block_of_cell h0
      rwa [block_of_add] at this
    · intro j u hu
      rw [List.getElem?_map] at hu
      rcases Nat.lt_or_ge j len with hj | hj
      · have hj2 : j < zs.length := by rw [hz]; split <;> omega
        rw [List.getElem?_take, if_pos hj, List.getElem?_eq_getElem hj2] at hu
        simp at hu
        rw [hcell j hj2, ← hu, List.getD_eq_getElem?_getD, List.getElem?_eq_getElem hj2]
        rfl
      · rw [List.getElem?_take, if_neg (by omega)] at hu
        simp at hu

/-- An argument that is a struct of two integers, by value. -/
theorem open_pair {H : Type} {enc : TypeId × Value → H} {P : Program} {W : World} {r : Reach} {b0 : Nat} {t : TypeId} {f0 f1 : Field} {k : IntKind} {v : Value} {d : DataW H} {p : List MemPlace} {sp : Nat → Bool} {held : Bool}
    (hs : P.underlying t = some (.struct #[f0, f1])) (h0 : P.underlying f0.type = some (.int k)) (h1 : P.underlying f1.type = some (.int k)) (hone : oneCellFields P #[f0, f1] = true) (hC : P.cellsOf t = 2)
    (hv : Value.okWide P W r b0 t v) (h : DataW.Trod enc P W 0 sp held t v d p) :
    ∃ a b : Int, v = .agg #[.int k a, .int k b] ∧ (Lit.int k a).wf = true ∧ (Lit.int k b).wf = true := by
  obtain ⟨c0, c1, y0, y1, m, rfl, rfl, rfl, hy0, hy1⟩ := open_agg2 hs hone hC hv h
  obtain ⟨a, e0, _, wa⟩ := DataW.trod_int h0 hy0
  obtain ⟨b, e1, _, wb⟩ := DataW.trod_int h1 hy1
  simp at e0 e1
  subst e0 e1
  exact ⟨a, b, rfl, wa, wb⟩
end Go.Proofs.Ytfdldbfjeamlcaa.Lay
/-! How arguments that are arrays of three integers, or of three truths, by value, are opened. No conditions but the types'. -/
namespace Go.Proofs.Ytfdldbfjeamlcaa.Lay
open Go.ChangeShapes Go.WideShapes Go.ChangeAt Go.RowKit Go.Joins Go.Deep Mem
set_option linter.unusedVariables false

theorem okWide_array {P : Program} {W : World} {r : Reach} {b0 : Nat} {t e : TypeId} {n : Nat} {v : Value} (ht : P.underlying t = some (.array n e)) (h : Value.okWide P W r b0 t v) : ∃ cs : Array Value, v = .agg cs ∧ cs.size = P.cellsOf t := by
  simp only [Value.okWide, ht] at h
  cases v <;> simp_all
theorem open_arr3 {H : Type} {enc : TypeId × Value → H} {P : Program} {W : World} {r : Reach} {b0 : Nat} {t e : TypeId} {k : IntKind} {v : Value} {d : DataW H} {p : List MemPlace} {sp : Nat → Bool} {held : Bool}
    (ht : P.underlying t = some (.array 3 e)) (he : P.underlying e = some (.int k)) (hC : P.cellsOf e = 1) (hT : P.cellsOf t = 3) (hv : Value.okWide P W r b0 t v) (h : DataW.Trod enc P W 0 sp held t v d p) :
    ∃ a b c : Int, v = .agg #[.int k a, .int k b, .int k c] ∧ (Lit.int k a).wf = true ∧ (Lit.int k b).wf = true ∧ (Lit.int k c).wf = true := by
  obtain ⟨cs, rfl, hsz⟩ := okWide_array ht hv
  obtain ⟨c0, c1, c2, rfl⟩ := array3 (hsz.trans hT)
  obtain ⟨fuel, hf⟩ := h
  obtain ⟨y0, y1, y2, n, _, h0, h1, h2⟩ := trod_array3 ht hC hf
  obtain ⟨a, e0, _, wa⟩ := DataW.trod_int he h0
  obtain ⟨b, e1, _, wb⟩ := DataW.trod_int he h1
  obtain ⟨c, e2, _, wc⟩ := DataW.trod_int he h2
  simp at e0 e1 e2
  subst e0 e1 e2
  exact ⟨a, b, c, rfl, wa, wb, wc⟩
end Go.Proofs.Ytfdldbfjeamlcaa.Lay
