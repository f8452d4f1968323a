/- Several texts joined: What is cut off, or longer, is no record; strings of bytes. -/
import Derived.Test.YtfdldbfjeamlcaaG10
import Derived.Lib.QuietBelow
import Derived.BigQuiet
import Derived.Deep.QuietTactic
import Derived.Deep.MidRow
import Derived.Deep.DeepCutAuto
import Derived.Lib.SliceRun
import Derived.Test.YtfdldbfjeamlcaaG1
import Derived.Test.YtfdldbfjeamlcaaG15
import Derived.Test.YtfdldbfjeamlcaaG16
import Derived.Laws.OwnMore
/-! What is cut off, or longer, is no record; strings of bytes. -/
namespace Go.Proofs.Ytfdldbfjeamlcaa.RecApart0
open Go.Sort Go.RowKit RecGuard Mem RecMem RecByte RecNum RecEach RecMath RecCod RecCods RecPort RecCommand RecCmdJ RecVal RecSame RecWr0 RecWrite RecAlive2 RecOwn RecRecC RecSameA RecRead RecAt RecWrite0 RecAll RecF4 RecGreat LogMath QuietRow
set_option linter.unusedVariables false
set_option linter.unusedSimpArgs false

theorem strOf_data (l : List Int) : ∀ r : ByteArray, (l.foldl (fun r n => r.push (UInt8.ofNat n.toNat)) r).data.toList = r.data.toList ++ l.map (fun n => UInt8.ofNat n.toNat) := by
  induction l with
  | nil => intro r; simp
  | cons x l ih => intro r; rw [List.foldl_cons, ih]; simp [ByteArray.push, List.append_assoc]
theorem strOf_list (l : List Int) : (strOf l).toList = l.map (fun n => UInt8.ofNat n.toNat) := by
  rw [Lib.toList_data]; unfold strOf; rw [strOf_data]; rfl
theorem strOf_eq {a b : Bs} (ha : Oct a) (hb : Oct b) : ((strOf a).toList == (strOf b).toList) = decide (a = b) := by
  rw [strOf_list, strOf_list, Bool.eq_iff_iff, beq_iff_eq, decide_eq_true_eq]
  constructor
  · intro h
    have inj : ∀ x ∈ a, ∀ y ∈ b, UInt8.ofNat x.toNat = UInt8.ofNat y.toNat → x = y := fun x hx y hy e => by
      have h1 := ha x hx
      have h2 := hb y hy
      have e2 := congrArg UInt8.toNat e
      rw [UInt8.toNat_ofNat', UInt8.toNat_ofNat'] at e2
      omega
    clear ha hb
    induction a generalizing b with
    | nil => cases b with
      | nil => rfl
      | cons y b => simp at h
    | cons x a ih => cases b with
      | nil => simp at h
      | cons y b =>
        rw [List.map_cons, List.map_cons] at h
        injection h with h1 h2
        rw [inj x (by simp) y (by simp) h1, ih h2 (fun u hu v hv => inj u (by simp [hu]) v (by simp [hv]))]
  · rintro rfl; rfl
/-- What is cut off is no record's. -/
theorem readV_cut {r : RV} (h : okR r) (hl : (recB r).length ≤ 65536) {m : Nat} (hm : m < (recB r).length) : (readV ((recB r).take m)).2 = 8 := by
  have ho : Oct ((recB r).take m) := fun b hb => recB_oct h b (List.mem_of_mem_take hb)
  rcases readV_cases _ ho with ⟨_, h1, h2, _⟩ | ⟨_, ⟨_, h3⟩ | ⟨h3, _⟩⟩
  · have := rec_good.back _ [] h1
    rw [List.append_nil] at this
    have e : recB (readV ((recB r).take m)).1 = (recB r).take m := h2.symm
    change recDec (recB _) = _ at this
    rw [e] at this
    exact absurd this (rec_good.cut h hm _)
  · rw [List.length_take] at h3; omega
  · exact h3
theorem readV_more2 {r : RV} (h : okR r) (hl : (recB r).length ≤ 65536) : (readV (recB r ++ [0])).2 = 8 ∨ (readV (recB r ++ [0])).2 = 4 := by
  have ho : Oct (recB r ++ [0]) := (recB_oct h).app fun b hb => by simp at hb; subst hb; decide
  rcases readV_cases _ ho with ⟨_, h1, h2, _⟩ | ⟨_, ⟨h3, _⟩ | ⟨h3, _⟩⟩
  · have h4 := rec_good.back _ [] h1
    rw [List.append_nil] at h4
    change recDec (recB _) = _ at h4
    rw [← h2] at h4
    have h5 := rec_good.back r [0] h
    change recDec (recB r ++ [0]) = _ at h5
    rw [h4] at h5
    simp at h5
  · exact .inr h3
  · exact .inl h3
theorem recB_pos (r : RV) : 8 ≤ (recB r).length := by unfold recB; rw [List.length_append, nB_len]; omega
theorem recB_inj {r o : RV} (hr : okR r) (ho : okR o) : decide (recB r = recB o) = decide (r = o) := by
  rw [Bool.eq_iff_iff, decide_eq_true_eq, decide_eq_true_eq]
  exact ⟨fun h => rec_good.inj hr ho h, fun h => by rw [h]⟩
theorem TxtAt.take {w : World} {X : Option Addr} {t : Bs} (h : TxtAt w X t) (m : Nat) : TxtAt w X (t.take m) := fun i x hi => by
  rw [List.getElem?_take] at hi
  split at hi
  · exact h i x hi
  · cases hi
end Go.Proofs.Ytfdldbfjeamlcaa.RecApart0
/-! RecApart answers yes. -/
namespace Go.Proofs.Ytfdldbfjeamlcaa.RecApartW
open Go.Sort Go.RowKit RecGuard Mem RecMem RecByte RecNum RecEach RecMath RecCod RecCods RecPort RecCommand RecCmdJ RecVal RecSame RecWr0 RecWrite RecAlive2 RecOwn RecRecC RecSameA RecRead RecAt RecWrite0 RecAll RecF4 RecGreat LogMath QuietRow RecApart0
set_option linter.unusedVariables false
set_option linter.unusedSimpArgs false

set_option maxRecDepth 100000 in
set_option maxHeartbeats 6000000 in
theorem walkApart (w : World) (r : RV) (x : SA) (Y : Option Addr) (cy : Nat) (Fr : RFacts r) (hR : RIs w r x Y cy) (o : RV) (y : SA) (Z : Option Addr) (cz : Nat) (Fo : RFacts o) (hO : RIs w o y Z cz) (kk : Int) (hkk : (Lit.int .u16 kk).wf = true) :
    Calls Try.prog 7 #[.agg #[.int .i64 r.g, .int .i64 r.s.d0, .int .i64 r.s.d1, .int .i64 r.s.d2, .int .i64 r.s.bo, .int .i64 r.s.fr, .int .i64 r.s.tr, .int .i64 r.s.ag, .slice x.C r.s.cs.length x.cc, .int .i64 r.s.nw, .int .i64 r.s.nx, .slice x.J r.s.js.length x.cj, .slice x.P r.s.ps.length x.cp, .slice x.K r.s.ks.length x.ck, .slice x.D r.s.dn.length x.cd, .slice x.S r.s.sh.length x.cs, .slice x.U r.s.cu.length x.cu, .int .u8 r.c.kd, .int .i64 r.c.id, .int .i64 r.c.us, .int .i64 r.c.cl, .int .i64 r.c.a, .int .i64 r.c.b, .int .i64 r.c.c, .bool r.c.p, .bool r.c.q, .bool r.c.r, .bool r.c.tn, .int .i64 r.c.wa, .int .i64 r.c.pr, .bool r.c.he, .slice Y r.c.af.length cy, .int .u8 r.c.st, .int .i64 r.c.ca, .int .i64 r.c.ci, .int .i64 r.c.b0, .int .i64 r.c.b1, .int .i64 r.c.b2, .int .i64 r.c.b3, .int .i64 r.c.b4, .int .i64 r.c.b5, .int .i64 r.c.fr, .int .i64 r.c.to, .int .i64 r.c.n, .bool r.c.we], .agg #[.int .i64 o.g, .int .i64 o.s.d0, .int .i64 o.s.d1, .int .i64 o.s.d2, .int .i64 o.s.bo, .int .i64 o.s.fr, .int .i64 o.s.tr, .int .i64 o.s.ag, .slice y.C o.s.cs.length y.cc, .int .i64 o.s.nw, .int .i64 o.s.nx, .slice y.J o.s.js.length y.cj, .slice y.P o.s.ps.length y.cp, .slice y.K o.s.ks.length y.ck, .slice y.D o.s.dn.length y.cd, .slice y.S o.s.sh.length y.cs, .slice y.U o.s.cu.length y.cu, .int .u8 o.c.kd, .int .i64 o.c.id, .int .i64 o.c.us, .int .i64 o.c.cl, .int .i64 o.c.a, .int .i64 o.c.b, .int .i64 o.c.c, .bool o.c.p, .bool o.c.q, .bool o.c.r, .bool o.c.tn, .int .i64 o.c.wa, .int .i64 o.c.pr, .bool o.c.he, .slice Z o.c.af.length cz, .int .u8 o.c.st, .int .i64 o.c.ca, .int .i64 o.c.ci, .int .i64 o.c.b0, .int .i64 o.c.b1, .int .i64 o.c.b2, .int .i64 o.c.b3, .int .i64 o.c.b4, .int .i64 o.c.b5, .int .i64 o.c.fr, .int .i64 o.c.to, .int .i64 o.c.n, .bool o.c.we], .int .u16 kk] w fun e w' => e = .returned (.bool true) ∧ Below w.heap.size w w' := by
  have HR := Lib.hid (And.intro hR hO)
  have HF := Lib.hid (And.intro Fr Fo)
  have hk0 : 0 ≤ kk ∧ kk < 65536 := by simp [Lit.wf, IntKind.min, IntKind.max, IntKind.signed, IntKind.bits] at hkk; omega
  obtain ⟨k, rfl⟩ : ∃ k : Nat, kk = (k : Int) := ⟨kk.toNat, by omega⟩
  clear hR hO Fr Fo hkk
  go_enter Try.func7, Try.ntmps7
  go_upto_region 1 with fail
  have K0 := Lib.hid (And.intro ((Blk.new w 51 #[.int .i64 r.g, .int .i64 r.s.d0, .int .i64 r.s.d1, .int .i64 r.s.d2, .int .i64 r.s.bo, .int .i64 r.s.fr, .int .i64 r.s.tr, .int .i64 r.s.ag, .slice x.C r.s.cs.length x.cc, .int .i64 r.s.nw, .int .i64 r.s.nx, .slice x.J r.s.js.length x.cj, .slice x.P r.s.ps.length x.cp, .slice x.K r.s.ks.length x.ck, .slice x.D r.s.dn.length x.cd, .slice x.S r.s.sh.length x.cs, .slice x.U r.s.cu.length x.cu, .int .u8 r.c.kd, .int .i64 r.c.id, .int .i64 r.c.us, .int .i64 r.c.cl, .int .i64 r.c.a, .int .i64 r.c.b, .int .i64 r.c.c, .bool r.c.p, .bool r.c.q, .bool r.c.r, .bool r.c.tn, .int .i64 r.c.wa, .int .i64 r.c.pr, .bool r.c.he, .slice Y r.c.af.length cy, .int .u8 r.c.st, .int .i64 r.c.ca, .int .i64 r.c.ci, .int .i64 r.c.b0, .int .i64 r.c.b1, .int .i64 r.c.b2, .int .i64 r.c.b3, .int .i64 r.c.b4, .int .i64 r.c.b5, .int .i64 r.c.fr, .int .i64 r.c.to, .int .i64 r.c.n, .bool r.c.we]).alloc (.cells #[.int .i64 o.g, .int .i64 o.s.d0, .int .i64 o.s.d1, .int .i64 o.s.d2, .int .i64 o.s.bo, .int .i64 o.s.fr, .int .i64 o.s.tr, .int .i64 o.s.ag, .slice y.C o.s.cs.length y.cc, .int .i64 o.s.nw, .int .i64 o.s.nx, .slice y.J o.s.js.length y.cj, .slice y.P o.s.ps.length y.cp, .slice y.K o.s.ks.length y.ck, .slice y.D o.s.dn.length y.cd, .slice y.S o.s.sh.length y.cs, .slice y.U o.s.cu.length y.cu, .int .u8 o.c.kd, .int .i64 o.c.id, .int .i64 o.c.us, .int .i64 o.c.cl, .int .i64 o.c.a, .int .i64 o.c.b, .int .i64 o.c.c, .bool o.c.p, .bool o.c.q, .bool o.c.r, .bool o.c.tn, .int .i64 o.c.wa, .int .i64 o.c.pr, .bool o.c.he, .slice Z o.c.af.length cz, .int .u8 o.c.st, .int .i64 o.c.ca, .int .i64 o.c.ci, .int .i64 o.c.b0, .int .i64 o.c.b1, .int .i64 o.c.b2, .int .i64 o.c.b3, .int .i64 o.c.b4, .int .i64 o.c.b5, .int .i64 o.c.fr, .int .i64 o.c.to, .int .i64 o.c.n, .bool o.c.we] 51)) (blk1 w 51 #[.int .i64 o.g, .int .i64 o.s.d0, .int .i64 o.s.d1, .int .i64 o.s.d2, .int .i64 o.s.bo, .int .i64 o.s.fr, .int .i64 o.s.tr, .int .i64 o.s.ag, .slice y.C o.s.cs.length y.cc, .int .i64 o.s.nw, .int .i64 o.s.nx, .slice y.J o.s.js.length y.cj, .slice y.P o.s.ps.length y.cp, .slice y.K o.s.ks.length y.ck, .slice y.D o.s.dn.length y.cd, .slice y.S o.s.sh.length y.cs, .slice y.U o.s.cu.length y.cu, .int .u8 o.c.kd, .int .i64 o.c.id, .int .i64 o.c.us, .int .i64 o.c.cl, .int .i64 o.c.a, .int .i64 o.c.b, .int .i64 o.c.c, .bool o.c.p, .bool o.c.q, .bool o.c.r, .bool o.c.tn, .int .i64 o.c.wa, .int .i64 o.c.pr, .bool o.c.he, .slice Z o.c.af.length cz, .int .u8 o.c.st, .int .i64 o.c.ca, .int .i64 o.c.ci, .int .i64 o.c.b0, .int .i64 o.c.b1, .int .i64 o.c.b2, .int .i64 o.c.b3, .int .i64 o.c.b4, .int .i64 o.c.b5, .int .i64 o.c.fr, .int .i64 o.c.to, .int .i64 o.c.n, .bool o.c.we] (o := .cells #[.int .i64 r.g, .int .i64 r.s.d0, .int .i64 r.s.d1, .int .i64 r.s.d2, .int .i64 r.s.bo, .int .i64 r.s.fr, .int .i64 r.s.tr, .int .i64 r.s.ag, .slice x.C r.s.cs.length x.cc, .int .i64 r.s.nw, .int .i64 r.s.nx, .slice x.J r.s.js.length x.cj, .slice x.P r.s.ps.length x.cp, .slice x.K r.s.ks.length x.ck, .slice x.D r.s.dn.length x.cd, .slice x.S r.s.sh.length x.cs, .slice x.U r.s.cu.length x.cu, .int .u8 r.c.kd, .int .i64 r.c.id, .int .i64 r.c.us, .int .i64 r.c.cl, .int .i64 r.c.a, .int .i64 r.c.b, .int .i64 r.c.c, .bool r.c.p, .bool r.c.q, .bool r.c.r, .bool r.c.tn, .int .i64 r.c.wa, .int .i64 r.c.pr, .bool r.c.he, .slice Y r.c.af.length cy, .int .u8 r.c.st, .int .i64 r.c.ca, .int .i64 r.c.ci, .int .i64 r.c.b0, .int .i64 r.c.b1, .int .i64 r.c.b2, .int .i64 r.c.b3, .int .i64 r.c.b4, .int .i64 r.c.b5, .int .i64 r.c.fr, .int .i64 r.c.to, .int .i64 r.c.n, .bool r.c.we] 51)))
  have HB0 := Lib.hid (below_alloc (o := .cells #[.int .i64 o.g, .int .i64 o.s.d0, .int .i64 o.s.d1, .int .i64 o.s.d2, .int .i64 o.s.bo, .int .i64 o.s.fr, .int .i64 o.s.tr, .int .i64 o.s.ag, .slice y.C o.s.cs.length y.cc, .int .i64 o.s.nw, .int .i64 o.s.nx, .slice y.J o.s.js.length y.cj, .slice y.P o.s.ps.length y.cp, .slice y.K o.s.ks.length y.ck, .slice y.D o.s.dn.length y.cd, .slice y.S o.s.sh.length y.cs, .slice y.U o.s.cu.length y.cu, .int .u8 o.c.kd, .int .i64 o.c.id, .int .i64 o.c.us, .int .i64 o.c.cl, .int .i64 o.c.a, .int .i64 o.c.b, .int .i64 o.c.c, .bool o.c.p, .bool o.c.q, .bool o.c.r, .bool o.c.tn, .int .i64 o.c.wa, .int .i64 o.c.pr, .bool o.c.he, .slice Z o.c.af.length cz, .int .u8 o.c.st, .int .i64 o.c.ca, .int .i64 o.c.ci, .int .i64 o.c.b0, .int .i64 o.c.b1, .int .i64 o.c.b2, .int .i64 o.c.b3, .int .i64 o.c.b4, .int .i64 o.c.b5, .int .i64 o.c.fr, .int .i64 o.c.to, .int .i64 o.c.n, .bool o.c.we] 51) (below_alloc (o := .cells #[.int .i64 r.g, .int .i64 r.s.d0, .int .i64 r.s.d1, .int .i64 r.s.d2, .int .i64 r.s.bo, .int .i64 r.s.fr, .int .i64 r.s.tr, .int .i64 r.s.ag, .slice x.C r.s.cs.length x.cc, .int .i64 r.s.nw, .int .i64 r.s.nx, .slice x.J r.s.js.length x.cj, .slice x.P r.s.ps.length x.cp, .slice x.K r.s.ks.length x.ck, .slice x.D r.s.dn.length x.cd, .slice x.S r.s.sh.length x.cs, .slice x.U r.s.cu.length x.cu, .int .u8 r.c.kd, .int .i64 r.c.id, .int .i64 r.c.us, .int .i64 r.c.cl, .int .i64 r.c.a, .int .i64 r.c.b, .int .i64 r.c.c, .bool r.c.p, .bool r.c.q, .bool r.c.r, .bool r.c.tn, .int .i64 r.c.wa, .int .i64 r.c.pr, .bool r.c.he, .slice Y r.c.af.length cy, .int .u8 r.c.st, .int .i64 r.c.ca, .int .i64 r.c.ci, .int .i64 r.c.b0, .int .i64 r.c.b1, .int .i64 r.c.b2, .int .i64 r.c.b3, .int .i64 r.c.b4, .int .i64 r.c.b5, .int .i64 r.c.fr, .int .i64 r.c.to, .int .i64 r.c.n, .bool r.c.we] 51) (Below.refl w.heap.size w)))
  generalize (w.alloc (.cells #[.int .i64 r.g, .int .i64 r.s.d0, .int .i64 r.s.d1, .int .i64 r.s.d2, .int .i64 r.s.bo, .int .i64 r.s.fr, .int .i64 r.s.tr, .int .i64 r.s.ag, .slice x.C r.s.cs.length x.cc, .int .i64 r.s.nw, .int .i64 r.s.nx, .slice x.J r.s.js.length x.cj, .slice x.P r.s.ps.length x.cp, .slice x.K r.s.ks.length x.ck, .slice x.D r.s.dn.length x.cd, .slice x.S r.s.sh.length x.cs, .slice x.U r.s.cu.length x.cu, .int .u8 r.c.kd, .int .i64 r.c.id, .int .i64 r.c.us, .int .i64 r.c.cl, .int .i64 r.c.a, .int .i64 r.c.b, .int .i64 r.c.c, .bool r.c.p, .bool r.c.q, .bool r.c.r, .bool r.c.tn, .int .i64 r.c.wa, .int .i64 r.c.pr, .bool r.c.he, .slice Y r.c.af.length cy, .int .u8 r.c.st, .int .i64 r.c.ca, .int .i64 r.c.ci, .int .i64 r.c.b0, .int .i64 r.c.b1, .int .i64 r.c.b2, .int .i64 r.c.b3, .int .i64 r.c.b4, .int .i64 r.c.b5, .int .i64 r.c.fr, .int .i64 r.c.to, .int .i64 r.c.n, .bool r.c.we] 51)).alloc (.cells #[.int .i64 o.g, .int .i64 o.s.d0, .int .i64 o.s.d1, .int .i64 o.s.d2, .int .i64 o.s.bo, .int .i64 o.s.fr, .int .i64 o.s.tr, .int .i64 o.s.ag, .slice y.C o.s.cs.length y.cc, .int .i64 o.s.nw, .int .i64 o.s.nx, .slice y.J o.s.js.length y.cj, .slice y.P o.s.ps.length y.cp, .slice y.K o.s.ks.length y.ck, .slice y.D o.s.dn.length y.cd, .slice y.S o.s.sh.length y.cs, .slice y.U o.s.cu.length y.cu, .int .u8 o.c.kd, .int .i64 o.c.id, .int .i64 o.c.us, .int .i64 o.c.cl, .int .i64 o.c.a, .int .i64 o.c.b, .int .i64 o.c.c, .bool o.c.p, .bool o.c.q, .bool o.c.r, .bool o.c.tn, .int .i64 o.c.wa, .int .i64 o.c.pr, .bool o.c.he, .slice Z o.c.af.length cz, .int .u8 o.c.st, .int .i64 o.c.ca, .int .i64 o.c.ci, .int .i64 o.c.b0, .int .i64 o.c.b1, .int .i64 o.c.b2, .int .i64 o.c.b3, .int .i64 o.c.b4, .int .i64 o.c.b5, .int .i64 o.c.fr, .int .i64 o.c.to, .int .i64 o.c.n, .bool o.c.we] 51) = W0 at *
  go_wp2_with fail
  refine (alive28 W0).mono ?_
  rintro e w1 ⟨rfl, hB1⟩
  have K1 := Lib.hid (And.intro (K0.out.1.below hB1 K0.out.1.lt) (K0.out.2.below hB1 K0.out.2.lt))
  have HB1 := Lib.hid (below_up HB0.out hB1)
  clear K0 HB0 hB1
  have R1 := Lib.hid (show w1.rangeAt w.heap.size 0 [.int .i64 r.g, .int .i64 r.s.d0, .int .i64 r.s.d1, .int .i64 r.s.d2, .int .i64 r.s.bo, .int .i64 r.s.fr, .int .i64 r.s.tr, .int .i64 r.s.ag, .slice x.C r.s.cs.length x.cc, .int .i64 r.s.nw, .int .i64 r.s.nx, .slice x.J r.s.js.length x.cj, .slice x.P r.s.ps.length x.cp, .slice x.K r.s.ks.length x.ck, .slice x.D r.s.dn.length x.cd, .slice x.S r.s.sh.length x.cs, .slice x.U r.s.cu.length x.cu, .int .u8 r.c.kd, .int .i64 r.c.id, .int .i64 r.c.us, .int .i64 r.c.cl, .int .i64 r.c.a, .int .i64 r.c.b, .int .i64 r.c.c, .bool r.c.p, .bool r.c.q, .bool r.c.r, .bool r.c.tn, .int .i64 r.c.wa, .int .i64 r.c.pr, .bool r.c.he, .slice Y r.c.af.length cy, .int .u8 r.c.st, .int .i64 r.c.ca, .int .i64 r.c.ci, .int .i64 r.c.b0, .int .i64 r.c.b1, .int .i64 r.c.b2, .int .i64 r.c.b3, .int .i64 r.c.b4, .int .i64 r.c.b5, .int .i64 r.c.fr, .int .i64 r.c.to, .int .i64 r.c.n, .bool r.c.we] from range_part (n := 45) K1.out.1 rfl)
  go_wp2_with (first | (refine wpList_load_mid rfl 51 _ rfl _ _ rfl _ _ R1.out Try.underlying51 rfl (by kernel_rfl) ?_))
  refine (rgreat28 r x Y cy HF.out.1.ht w1 (HR.out.1.up HB1.out).st).mono ?_
  rintro e w2 ⟨⟨B, rfl⟩, hB2⟩
  have K2 := Lib.hid (And.intro (K1.out.1.below hB2 K1.out.1.lt) (K1.out.2.below hB2 K1.out.2.lt))
  have HB2 := Lib.hid (below_up HB1.out hB2)
  clear K1 HB1 hB2 R1
  cases B
  rotate_left
  · go_wp2_with fail
    go_ret
    exact ⟨rfl, HB2.out⟩
  have R2 := Lib.hid (show w2.rangeAt (w.heap.size + 1) 0 [.int .i64 o.g, .int .i64 o.s.d0, .int .i64 o.s.d1, .int .i64 o.s.d2, .int .i64 o.s.bo, .int .i64 o.s.fr, .int .i64 o.s.tr, .int .i64 o.s.ag, .slice y.C o.s.cs.length y.cc, .int .i64 o.s.nw, .int .i64 o.s.nx, .slice y.J o.s.js.length y.cj, .slice y.P o.s.ps.length y.cp, .slice y.K o.s.ks.length y.ck, .slice y.D o.s.dn.length y.cd, .slice y.S o.s.sh.length y.cs, .slice y.U o.s.cu.length y.cu, .int .u8 o.c.kd, .int .i64 o.c.id, .int .i64 o.c.us, .int .i64 o.c.cl, .int .i64 o.c.a, .int .i64 o.c.b, .int .i64 o.c.c, .bool o.c.p, .bool o.c.q, .bool o.c.r, .bool o.c.tn, .int .i64 o.c.wa, .int .i64 o.c.pr, .bool o.c.he, .slice Z o.c.af.length cz, .int .u8 o.c.st, .int .i64 o.c.ca, .int .i64 o.c.ci, .int .i64 o.c.b0, .int .i64 o.c.b1, .int .i64 o.c.b2, .int .i64 o.c.b3, .int .i64 o.c.b4, .int .i64 o.c.b5, .int .i64 o.c.fr, .int .i64 o.c.to, .int .i64 o.c.n, .bool o.c.we] from range_part (n := 45) K2.out.2 rfl)
  go_wp2_with (first | (refine wpList_load_mid_g (by rfl) 51 _ rfl _ _ rfl _ _ R2.out Try.underlying51 rfl (by kernel_rfl) ?_))
  refine (rgreat28 o y Z cz HF.out.2.ht w2 (HR.out.2.up HB2.out).st).mono ?_
  rintro e w3 ⟨⟨B, rfl⟩, hB3⟩
  have K3 := Lib.hid (And.intro (K2.out.1.below hB3 K2.out.1.lt) (K2.out.2.below hB3 K2.out.2.lt))
  have HB3 := Lib.hid (below_up HB2.out hB3)
  clear K2 HB2 hB3 R2
  cases B
  rotate_left
  · go_wp2_with fail
    go_ret
    exact ⟨rfl, HB3.out⟩
  have R3 := Lib.hid (show w3.rangeAt w.heap.size 0 [.int .i64 r.g, .int .i64 r.s.d0, .int .i64 r.s.d1, .int .i64 r.s.d2, .int .i64 r.s.bo, .int .i64 r.s.fr, .int .i64 r.s.tr, .int .i64 r.s.ag, .slice x.C r.s.cs.length x.cc, .int .i64 r.s.nw, .int .i64 r.s.nx, .slice x.J r.s.js.length x.cj, .slice x.P r.s.ps.length x.cp, .slice x.K r.s.ks.length x.ck, .slice x.D r.s.dn.length x.cd, .slice x.S r.s.sh.length x.cs, .slice x.U r.s.cu.length x.cu, .int .u8 r.c.kd, .int .i64 r.c.id, .int .i64 r.c.us, .int .i64 r.c.cl, .int .i64 r.c.a, .int .i64 r.c.b, .int .i64 r.c.c, .bool r.c.p, .bool r.c.q, .bool r.c.r, .bool r.c.tn, .int .i64 r.c.wa, .int .i64 r.c.pr, .bool r.c.he, .slice Y r.c.af.length cy, .int .u8 r.c.st, .int .i64 r.c.ca, .int .i64 r.c.ci, .int .i64 r.c.b0, .int .i64 r.c.b1, .int .i64 r.c.b2, .int .i64 r.c.b3, .int .i64 r.c.b4, .int .i64 r.c.b5, .int .i64 r.c.fr, .int .i64 r.c.to, .int .i64 r.c.n, .bool r.c.we] from range_part (n := 45) K3.out.1 rfl)
  go_wp2_with (first | (refine wpList_load_mid rfl 51 _ rfl _ _ rfl _ _ R3.out Try.underlying51 rfl (by kernel_rfl) ?_))
  refine (write_v r x Y cy HF.out.1 w3 (HR.out.1.up HB3.out)).mono ?_
  rintro e w4 ⟨⟨X4, n4, c4, v4, rfl, hV, hn4, hc4, hz4, hv4⟩, hB4⟩
  have K4 := Lib.hid (And.intro (K3.out.1.below hB4 K3.out.1.lt) (K3.out.2.below hB4 K3.out.2.lt))
  have HB4 := Lib.hid (below_up HB3.out hB4)
  have HV := Lib.hid (And.intro hV (And.intro hn4 (And.intro hc4 (And.intro hz4 hv4))))
  have hn4m : n4 ≤ 9223372036854775807 := by simp only [maxLen] at hc4; omega
  have hc4m : c4 ≤ 9223372036854775807 := by simp only [maxLen] at hc4; omega
  have hnc4 : n4 ≤ c4 := hn4
  clear K3 HB3 hB4 R3 hV hn4 hc4 hz4 hv4
  have R4 := Lib.hid (show w4.rangeAt (w.heap.size + 1) 0 [.int .i64 o.g, .int .i64 o.s.d0, .int .i64 o.s.d1, .int .i64 o.s.d2, .int .i64 o.s.bo, .int .i64 o.s.fr, .int .i64 o.s.tr, .int .i64 o.s.ag, .slice y.C o.s.cs.length y.cc, .int .i64 o.s.nw, .int .i64 o.s.nx, .slice y.J o.s.js.length y.cj, .slice y.P o.s.ps.length y.cp, .slice y.K o.s.ks.length y.ck, .slice y.D o.s.dn.length y.cd, .slice y.S o.s.sh.length y.cs, .slice y.U o.s.cu.length y.cu, .int .u8 o.c.kd, .int .i64 o.c.id, .int .i64 o.c.us, .int .i64 o.c.cl, .int .i64 o.c.a, .int .i64 o.c.b, .int .i64 o.c.c, .bool o.c.p, .bool o.c.q, .bool o.c.r, .bool o.c.tn, .int .i64 o.c.wa, .int .i64 o.c.pr, .bool o.c.he, .slice Z o.c.af.length cz, .int .u8 o.c.st, .int .i64 o.c.ca, .int .i64 o.c.ci, .int .i64 o.c.b0, .int .i64 o.c.b1, .int .i64 o.c.b2, .int .i64 o.c.b3, .int .i64 o.c.b4, .int .i64 o.c.b5, .int .i64 o.c.fr, .int .i64 o.c.to, .int .i64 o.c.n, .bool o.c.we] from range_part (n := 45) K4.out.2 rfl)
  go_wp2_with (first | (refine wpList_load_mid rfl 51 _ rfl _ _ rfl _ _ R4.out Try.underlying51 rfl (by kernel_rfl) ?_))
  refine (write_v o y Z cz HF.out.2 w4 (HR.out.2.up HB4.out)).mono ?_
  rintro e w5 ⟨⟨X5, n5, c5, v5, rfl, hV5, hn5, hc5, hz5, hv5⟩, hB5⟩
  have K5 := Lib.hid (And.intro (K4.out.1.below hB5 K4.out.1.lt) (K4.out.2.below hB5 K4.out.2.lt))
  have HB5 := Lib.hid (below_up HB4.out hB5)
  have HV5 := Lib.hid (And.intro hV5 (And.intro hn5 (And.intro hc5 (And.intro hz5 hv5))))
  by_cases h0 : v4 = 0
  rotate_left
  · have h1 : (v4 != 0) = true := by simpa using h0
    have hz : n4 = 0 := HV.out.2.2.2.1 h0
    subst hz
    clear h0
    go_wp2_with fail
    go_ret
    exact ⟨by simp, HB5.out⟩
  have HZ := Lib.hid (And.intro (HV.out.1.ok.1 h0) (And.intro (HV.out.2.2.2.2 h0).1 (BytesAt.up (HV.out.2.2.2.2 h0).2 hB5)))
  have hpos : 8 ≤ n4 := by have := recB_pos r; have := HZ.out.2.1; omega
  have hl65 : n4 ≤ 65536 := by have := HZ.out.1.2; have := HZ.out.2.1; omega
  subst h0
  clear hV5 hn5 hc5 hz5 hv5 hB5 R4 K4 HB4
  have hne : ((n4 : Int) == 0) = false := by rw [beq_eq_false_iff_ne]; omega
  obtain ⟨m, hm, hmlt⟩ : ∃ m : Nat, Int.tmod (k : Int) (n4 : Int) = (m : Int) ∧ m < n4 := ⟨k % n4, by simp [Int.tmod, Int.natCast_emod] <;> omega, Nat.mod_lt _ (by omega)⟩
  have hmc : m ≤ c4 := by omega
  have hk16 : (k : Int) ≤ 65535 := by omega
  have HMM := Lib.hid hmlt
  have hcut := readV_cut HZ.out.1.1 HZ.out.1.2 (m := m) (by have := HZ.out.2.1; omega)
  have hlm : m = ((recB r).take m).length := by rw [List.length_take]; have := HZ.out.2.1; omega
  have HC8 := Lib.hid (And.intro hcut hlm)
  clear hcut hlm
  go_wp2_with fail
  refine (read_v X4 ((recB r).take m) m c4 HC8.out.2 w5 (TxtAt.take (txt_of HZ.out.2.2) m) (fun b hb => recB_oct HZ.out.1.1 b (List.mem_of_mem_take hb)) hmc HV.out.2.2.1).mono ?_
  rw [HC8.out.1]
  rintro e w6 ⟨⟨x1, Y1, cy1, rfl, _⟩, hB6⟩
  have HB6 := Lib.hid (below_up HB5.out hB6)
  have K6 := Lib.hid (And.intro (K5.out.1.below hB6 K5.out.1.lt) (K5.out.2.below hB6 K5.out.2.lt))
  have HX6 := Lib.hid (BytesAt.up HZ.out.2.2 hB6)
  have HY6 := Lib.hid hB6
  clear hB6 HB5 K5
  generalize (readV ((recB r).take m)).1 = q at *
  have x6 := box_full (W := w6) 51 #[.int .i64 0, .int .i64 0, .int .i64 0, .int .i64 0, .int .i64 0, .int .i64 0, .int .i64 0, .int .i64 0, .slice none 0 0, .int .i64 0, .int .i64 0, .slice none 0 0, .slice none 0 0, .slice none 0 0, .slice none 0 0, .slice none 0 0, .slice none 0 0, .int .u8 0, .int .i64 0, .int .i64 0, .int .i64 0, .int .i64 0, .int .i64 0, .int .i64 0, .bool false, .bool false, .bool false, .bool false, .int .i64 0, .int .i64 0, .bool false, .slice none 0 0, .int .u8 0, .int .i64 0, .int .i64 0, .int .i64 0, .int .i64 0, .int .i64 0, .int .i64 0, .int .i64 0, .int .i64 0, .int .i64 0, .int .i64 0, .int .i64 0, .bool false] (vs := [.int .i64 q.g, .int .i64 q.s.d0, .int .i64 q.s.d1, .int .i64 q.s.d2, .int .i64 q.s.bo, .int .i64 q.s.fr, .int .i64 q.s.tr, .int .i64 q.s.ag, .slice x1.C q.s.cs.length x1.cc, .int .i64 q.s.nw, .int .i64 q.s.nx, .slice x1.J q.s.js.length x1.cj, .slice x1.P q.s.ps.length x1.cp, .slice x1.K q.s.ks.length x1.ck, .slice x1.D q.s.dn.length x1.cd, .slice x1.S q.s.sh.length x1.cs, .slice x1.U q.s.cu.length x1.cu, .int .u8 q.c.kd, .int .i64 q.c.id, .int .i64 q.c.us, .int .i64 q.c.cl, .int .i64 q.c.a, .int .i64 q.c.b, .int .i64 q.c.c, .bool q.c.p, .bool q.c.q, .bool q.c.r, .bool q.c.tn, .int .i64 q.c.wa, .int .i64 q.c.pr, .bool q.c.he, .slice Y1 q.c.af.length cy1, .int .u8 q.c.st, .int .i64 q.c.ca, .int .i64 q.c.ci, .int .i64 q.c.b0, .int .i64 q.c.b1, .int .i64 q.c.b2, .int .i64 q.c.b3, .int .i64 q.c.b4, .int .i64 q.c.b5, .int .i64 q.c.fr, .int .i64 q.c.to, .int .i64 q.c.n, .bool q.c.we]) rfl
  go_upto_region 11 with (first | (refine wpList_store_mid rfl 51 _ _ rfl w6.heap.size 0 (List.toArray [.int .i64 q.g, .int .i64 q.s.d0, .int .i64 q.s.d1, .int .i64 q.s.d2, .int .i64 q.s.bo, .int .i64 q.s.fr, .int .i64 q.s.tr, .int .i64 q.s.ag, .slice x1.C q.s.cs.length x1.cc, .int .i64 q.s.nw, .int .i64 q.s.nx, .slice x1.J q.s.js.length x1.cj, .slice x1.P q.s.ps.length x1.cp, .slice x1.K q.s.ks.length x1.ck, .slice x1.D q.s.dn.length x1.cd, .slice x1.S q.s.sh.length x1.cs, .slice x1.U q.s.cu.length x1.cu, .int .u8 q.c.kd, .int .i64 q.c.id, .int .i64 q.c.us, .int .i64 q.c.cl, .int .i64 q.c.a, .int .i64 q.c.b, .int .i64 q.c.c, .bool q.c.p, .bool q.c.q, .bool q.c.r, .bool q.c.tn, .int .i64 q.c.wa, .int .i64 q.c.pr, .bool q.c.he, .slice Y1 q.c.af.length cy1, .int .u8 q.c.st, .int .i64 q.c.ca, .int .i64 q.c.ci, .int .i64 q.c.b0, .int .i64 q.c.b1, .int .i64 q.c.b2, .int .i64 q.c.b3, .int .i64 q.c.b4, .int .i64 q.c.b5, .int .i64 q.c.fr, .int .i64 q.c.to, .int .i64 q.c.n, .bool q.c.we]) rfl rfl (there_of (Blk.new w6 51 #[.int .i64 0, .int .i64 0, .int .i64 0, .int .i64 0, .int .i64 0, .int .i64 0, .int .i64 0, .int .i64 0, .slice none 0 0, .int .i64 0, .int .i64 0, .slice none 0 0, .slice none 0 0, .slice none 0 0, .slice none 0 0, .slice none 0 0, .slice none 0 0, .int .u8 0, .int .i64 0, .int .i64 0, .int .i64 0, .int .i64 0, .int .i64 0, .int .i64 0, .bool false, .bool false, .bool false, .bool false, .int .i64 0, .int .i64 0, .bool false, .slice none 0 0, .int .u8 0, .int .i64 0, .int .i64 0, .int .i64 0, .int .i64 0, .int .i64 0, .int .i64 0, .int .i64 0, .int .i64 0, .int .i64 0, .int .i64 0, .int .i64 0, .bool false]) (Nat.le_of_ble_eq_true rfl)) (by kernel_rfl) (by kernel_rfl) ?_; simp only [List.toList_toArray]; generalize World.setCells _ _ _ _ = W6 at *; (try simp only [Act.put])))
  have HB7 := Lib.hid (below_up HB6.out x6.2)
  have K7 := Lib.hid (And.intro (K6.out.1.below x6.2 K6.out.1.lt) (K6.out.2.below x6.2 K6.out.2.lt))
  have HX7 := Lib.hid (BytesAt.up HX6.out x6.2)
  have HY7 := Lib.hid (below_up HY6.out x6.2)
  obtain ⟨g6, hg6⟩ : ∃ n, n = w6.heap.size := ⟨_, rfl⟩
  rw [← hg6]
  clear x6 HB6 K6 HX6 HY6 hg6
  obtain ⟨i0, hi0, hz0, hz1, hz2⟩ := info_parts byte_info
  have HI0 := Lib.hid (And.intro hi0 (And.intro hz0 (And.intro hz1 hz2)))
  clear hi0 hz0 hz1 hz2
  have hcells : ∀ u ∈ (recB r).map (Value.int .u8), u.oneCell' = true := fun u hu => by
    obtain ⟨n, _, rfl⟩ := List.mem_map.1 hu
    rfl
  have HCE := Lib.hid (And.intro hcells (show Reads W6 W6.heap.size 1 X4 n4 ((recB r).map (Value.int .u8)) from by have := HX7.out; unfold BytesAt at this; rw [← HZ.out.2.1] at this; exact this))
  clear hcells
  go_wp2_with (first | (at_builtin; refine wpList_append_any _ rfl (.tmp 58) (.tmp 59) _ rfl W6.heap.size 5 i0 (.int .u8 0) 1 1 Try.underlying37 HI0.out.1 HI0.out.2.1 HI0.out.2.2.1 HI0.out.2.2.2 rfl (by decide) _ _ _ rfl (World.ownsRow_made W6 #[] 0 (Nat.le_refl _) (Nat.zero_le _) (by simp)) W6.heap.size X4 n4 c4 ((recB r).map (Value.int .u8)) rfl (HCE.out.2.alloc (Nat.le_refl _) (.cells #[] 5)) HCE.out.1 (by simp only [maxLen]; omega) (by omega) (by simp) ?_; intro v7 w7 hown0 hg hat; have hown : w7.ownsRow W6.heap.size 5 1 v7 n4 ((recB r).map (Value.int .u8)) := (by simpa using hown0); clear hown0; obtain ⟨Y7, c7, rfl⟩ := own_slice hown; have H7 := Lib.hid (And.intro hown hg); clear hown hg hat) | (at_builtin; refine wpList_append_any _ rfl (.tmp 60) (.tmp 61) _ rfl W6.heap.size 5 i0 (.int .u8 0) 1 1 Try.underlying37 HI0.out.1 HI0.out.2.1 HI0.out.2.2.1 HI0.out.2.2.2 rfl (by decide) _ _ _ rfl (H7.out.1.alloc (.cells #[.int .u8 0] 5)) (w7.heap.size + 1) (some ⟨w7.heap.size, 0, none⟩) 1 1 [.int .u8 0] rfl (reads_one w7 5 (.int .u8 0)) (fun u hu => by simp at hu; subst hu; rfl) (by simp only [maxLen]; omega) (by omega) (by have := H7.out.2.size; simp at this ⊢; omega) ?_; intro v8 w8 hown hg hat; obtain ⟨Y8, c8, rfl⟩ := own_slice hown; have H8 := Lib.hid (And.intro hown hg); clear hown hg hat))
  have hB67 : Below W6.heap.size W6 w7 := (below_alloc (Below.refl _ W6)).grown H7.out.2 (by simp) (by intro k hk; cases hk; exact Nat.le_refl _)
  have hlt7 := H7.out.1.lt
  have hB78 : Below W6.heap.size W6 w8 := (below_alloc2 hB67.size hB67 (.cells #[.int .u8 0] 5)).grown H8.out.2 (by have := hB67.size; simp; omega) (fun k hk => (hlt7 k hk).1)
  have hcap8 := row_cap H8.out.1
  have HX8 := Lib.hid (And.intro (txt_of (t := recB r ++ [0]) (by have := Reads.of_own H8.out.1; rw [List.map_append]; exact this)) (And.intro (readV_more2 HZ.out.1.1 HZ.out.1.2) hcap8))
  have HB8 := Lib.hid (below_up HB7.out hB78)
  have K8 := Lib.hid (And.intro (K7.out.1.below hB78 K7.out.1.lt) (K7.out.2.below hB78 K7.out.2.lt))
  have HXX := Lib.hid (And.intro (BytesAt.up HX7.out hB78) (below_up HY7.out hB78))
  have ho8 := (recB_oct HZ.out.1.1).app (t := [0]) (fun b hb => by simp at hb; subst hb; decide)
  have HO8 := Lib.hid (And.intro ho8 (show n4 + 1 = (recB r ++ [0]).length from by rw [List.length_append]; have := HZ.out.2.1; simp; omega))
  clear hB67 hB78 hlt7 hcap8 ho8 H7 H8 HB7 K7 HX7 HY7 HCE HI0 HC8
  refine (read_v Y8 (recB r ++ [0]) (n4 + 1) c8 HO8.out.2 w8 HX8.out.1 HO8.out.1 HX8.out.2.2.1 HX8.out.2.2.2).mono ?_
  obtain ⟨v9, hv9⟩ : ∃ v, v = (readV (recB r ++ [0])).2 := ⟨_, rfl⟩
  have HV9 := Lib.hid (show v9 = 8 ∨ v9 = 4 from by rw [hv9]; exact HX8.out.2.1)
  rw [← hv9]
  clear hv9
  rintro e w9 ⟨⟨x2, Y2, cy2, rfl, _⟩, hB9⟩
  have HB9 := Lib.hid (below_up HB8.out hB9)
  have K9 := Lib.hid (And.intro (K8.out.1.below hB9 K8.out.1.lt) (K8.out.2.below hB9 K8.out.2.lt))
  have HX9 := Lib.hid (And.intro (BytesAt.up HXX.out.1 hB9) (below_up HXX.out.2 hB9))
  clear hB9 HB8 K8 HXX HX8 HO8
  generalize (readV (recB r ++ [0])).1 = p at *
  have x9 := box_full (W := w9) 51 #[.int .i64 0, .int .i64 0, .int .i64 0, .int .i64 0, .int .i64 0, .int .i64 0, .int .i64 0, .int .i64 0, .slice none 0 0, .int .i64 0, .int .i64 0, .slice none 0 0, .slice none 0 0, .slice none 0 0, .slice none 0 0, .slice none 0 0, .slice none 0 0, .int .u8 0, .int .i64 0, .int .i64 0, .int .i64 0, .int .i64 0, .int .i64 0, .int .i64 0, .bool false, .bool false, .bool false, .bool false, .int .i64 0, .int .i64 0, .bool false, .slice none 0 0, .int .u8 0, .int .i64 0, .int .i64 0, .int .i64 0, .int .i64 0, .int .i64 0, .int .i64 0, .int .i64 0, .int .i64 0, .int .i64 0, .int .i64 0, .int .i64 0, .bool false] (vs := [.int .i64 p.g, .int .i64 p.s.d0, .int .i64 p.s.d1, .int .i64 p.s.d2, .int .i64 p.s.bo, .int .i64 p.s.fr, .int .i64 p.s.tr, .int .i64 p.s.ag, .slice x2.C p.s.cs.length x2.cc, .int .i64 p.s.nw, .int .i64 p.s.nx, .slice x2.J p.s.js.length x2.cj, .slice x2.P p.s.ps.length x2.cp, .slice x2.K p.s.ks.length x2.ck, .slice x2.D p.s.dn.length x2.cd, .slice x2.S p.s.sh.length x2.cs, .slice x2.U p.s.cu.length x2.cu, .int .u8 p.c.kd, .int .i64 p.c.id, .int .i64 p.c.us, .int .i64 p.c.cl, .int .i64 p.c.a, .int .i64 p.c.b, .int .i64 p.c.c, .bool p.c.p, .bool p.c.q, .bool p.c.r, .bool p.c.tn, .int .i64 p.c.wa, .int .i64 p.c.pr, .bool p.c.he, .slice Y2 p.c.af.length cy2, .int .u8 p.c.st, .int .i64 p.c.ca, .int .i64 p.c.ci, .int .i64 p.c.b0, .int .i64 p.c.b1, .int .i64 p.c.b2, .int .i64 p.c.b3, .int .i64 p.c.b4, .int .i64 p.c.b5, .int .i64 p.c.fr, .int .i64 p.c.to, .int .i64 p.c.n, .bool p.c.we]) rfl
  go_upto_region 12 with (first | (refine wpList_store_mid rfl 51 _ _ rfl w9.heap.size 0 (List.toArray [.int .i64 p.g, .int .i64 p.s.d0, .int .i64 p.s.d1, .int .i64 p.s.d2, .int .i64 p.s.bo, .int .i64 p.s.fr, .int .i64 p.s.tr, .int .i64 p.s.ag, .slice x2.C p.s.cs.length x2.cc, .int .i64 p.s.nw, .int .i64 p.s.nx, .slice x2.J p.s.js.length x2.cj, .slice x2.P p.s.ps.length x2.cp, .slice x2.K p.s.ks.length x2.ck, .slice x2.D p.s.dn.length x2.cd, .slice x2.S p.s.sh.length x2.cs, .slice x2.U p.s.cu.length x2.cu, .int .u8 p.c.kd, .int .i64 p.c.id, .int .i64 p.c.us, .int .i64 p.c.cl, .int .i64 p.c.a, .int .i64 p.c.b, .int .i64 p.c.c, .bool p.c.p, .bool p.c.q, .bool p.c.r, .bool p.c.tn, .int .i64 p.c.wa, .int .i64 p.c.pr, .bool p.c.he, .slice Y2 p.c.af.length cy2, .int .u8 p.c.st, .int .i64 p.c.ca, .int .i64 p.c.ci, .int .i64 p.c.b0, .int .i64 p.c.b1, .int .i64 p.c.b2, .int .i64 p.c.b3, .int .i64 p.c.b4, .int .i64 p.c.b5, .int .i64 p.c.fr, .int .i64 p.c.to, .int .i64 p.c.n, .bool p.c.we]) rfl rfl (there_of (Blk.new w9 51 #[.int .i64 0, .int .i64 0, .int .i64 0, .int .i64 0, .int .i64 0, .int .i64 0, .int .i64 0, .int .i64 0, .slice none 0 0, .int .i64 0, .int .i64 0, .slice none 0 0, .slice none 0 0, .slice none 0 0, .slice none 0 0, .slice none 0 0, .slice none 0 0, .int .u8 0, .int .i64 0, .int .i64 0, .int .i64 0, .int .i64 0, .int .i64 0, .int .i64 0, .bool false, .bool false, .bool false, .bool false, .int .i64 0, .int .i64 0, .bool false, .slice none 0 0, .int .u8 0, .int .i64 0, .int .i64 0, .int .i64 0, .int .i64 0, .int .i64 0, .int .i64 0, .int .i64 0, .int .i64 0, .int .i64 0, .int .i64 0, .int .i64 0, .bool false]) (Nat.le_of_ble_eq_true rfl)) (by kernel_rfl) (by kernel_rfl) ?_; simp only [List.toList_toArray]; generalize World.setCells _ _ _ _ = W7 at *; (try simp only [Act.put])))
  have HBa := Lib.hid (below_up HB9.out x9.2)
  have Ka := Lib.hid (And.intro (K9.out.1.below x9.2 K9.out.1.lt) (K9.out.2.below x9.2 K9.out.2.lt))
  have HXa := Lib.hid (And.intro (BytesAt.up HX9.out.1 x9.2) (below_up HX9.out.2 x9.2))
  obtain ⟨g9, hg9⟩ : ∃ n, n = w9.heap.size := ⟨_, rfl⟩
  rw [← hg9]
  clear x9 HB9 K9 HX9 hg9
  have hh : (v9 = 8) ∨ (v9 = 4) := HV9.out
  by_cases h5 : v5 = 0
  · have HZ5 := Lib.hid (And.intro (HV5.out.1.ok.1 h5) (And.intro (HV5.out.2.2.2.2 h5).1 (HV5.out.2.2.2.2 h5).2))
    have HX5 := Lib.hid (BytesAt.up HZ5.out.2.2 HXa.out.2)
    subst h5
    obtain ⟨V, hV⟩ : ∃ V, V = decide (r = o) := ⟨_, rfl⟩
    have e2 : ((strOf (recB r)).toList == (strOf (recB o)).toList) = V := by rw [hV, strOf_eq (recB_oct HZ.out.1.1) (recB_oct HZ5.out.1.1), recB_inj HZ.out.1.1 HZ5.out.1.1]
    have HS := Lib.hid (fun (W : World) (hB : Below W7.heap.size W7 W) => show Calls Try.prog 18 #[.agg #[.int .i64 r.g, .int .i64 r.s.d0, .int .i64 r.s.d1, .int .i64 r.s.d2, .int .i64 r.s.bo, .int .i64 r.s.fr, .int .i64 r.s.tr, .int .i64 r.s.ag, .slice x.C r.s.cs.length x.cc, .int .i64 r.s.nw, .int .i64 r.s.nx, .slice x.J r.s.js.length x.cj, .slice x.P r.s.ps.length x.cp, .slice x.K r.s.ks.length x.ck, .slice x.D r.s.dn.length x.cd, .slice x.S r.s.sh.length x.cs, .slice x.U r.s.cu.length x.cu, .int .u8 r.c.kd, .int .i64 r.c.id, .int .i64 r.c.us, .int .i64 r.c.cl, .int .i64 r.c.a, .int .i64 r.c.b, .int .i64 r.c.c, .bool r.c.p, .bool r.c.q, .bool r.c.r, .bool r.c.tn, .int .i64 r.c.wa, .int .i64 r.c.pr, .bool r.c.he, .slice Y r.c.af.length cy, .int .u8 r.c.st, .int .i64 r.c.ca, .int .i64 r.c.ci, .int .i64 r.c.b0, .int .i64 r.c.b1, .int .i64 r.c.b2, .int .i64 r.c.b3, .int .i64 r.c.b4, .int .i64 r.c.b5, .int .i64 r.c.fr, .int .i64 r.c.to, .int .i64 r.c.n, .bool r.c.we], .agg #[.int .i64 o.g, .int .i64 o.s.d0, .int .i64 o.s.d1, .int .i64 o.s.d2, .int .i64 o.s.bo, .int .i64 o.s.fr, .int .i64 o.s.tr, .int .i64 o.s.ag, .slice y.C o.s.cs.length y.cc, .int .i64 o.s.nw, .int .i64 o.s.nx, .slice y.J o.s.js.length y.cj, .slice y.P o.s.ps.length y.cp, .slice y.K o.s.ks.length y.ck, .slice y.D o.s.dn.length y.cd, .slice y.S o.s.sh.length y.cs, .slice y.U o.s.cu.length y.cu, .int .u8 o.c.kd, .int .i64 o.c.id, .int .i64 o.c.us, .int .i64 o.c.cl, .int .i64 o.c.a, .int .i64 o.c.b, .int .i64 o.c.c, .bool o.c.p, .bool o.c.q, .bool o.c.r, .bool o.c.tn, .int .i64 o.c.wa, .int .i64 o.c.pr, .bool o.c.he, .slice Z o.c.af.length cz, .int .u8 o.c.st, .int .i64 o.c.ca, .int .i64 o.c.ci, .int .i64 o.c.b0, .int .i64 o.c.b1, .int .i64 o.c.b2, .int .i64 o.c.b3, .int .i64 o.c.b4, .int .i64 o.c.b5, .int .i64 o.c.fr, .int .i64 o.c.to, .int .i64 o.c.n, .bool o.c.we]] W fun e w' => e = .returned (.bool V) ∧ Below W.heap.size W w' from by
      have := rsameA r o x y Y Z cy cz HF.out.1.hs HF.out.2.hs HF.out.1.hc HF.out.2.hc HF.out.1.ht HF.out.2.ht W (HR.out.1.st.up (below_up HBa.out hB)) (HR.out.2.st.up (below_up HBa.out hB)) (HR.out.1.af.up (below_up HBa.out hB)) (HR.out.2.af.up (below_up HBa.out hB))
      rw [← hV] at this
      exact this)
    have kv0 := fun (dq : _) (osq : _) => run_strOf (n := n4) (c := c4) (show Reads (grow (redrawn W7 dq) osq) (grow (redrawn W7 dq) osq).heap.size 1 X4 n4 ((recB r).map (Value.int .u8)) from by have := BytesAt.up HXa.out.1 (below_regrown W7 dq osq); unfold BytesAt at this; rw [← HZ.out.2.1] at this; exact this)
    have kv1 := fun (dq : _) (osq : _) => run_strOf (n := n5) (c := c5) (show Reads (grow (redrawn W7 dq) osq) (grow (redrawn W7 dq) osq).heap.size 1 X5 n5 ((recB o).map (Value.int .u8)) from by have := BytesAt.up HX5.out (below_regrown W7 dq osq); unfold BytesAt at this; rw [← HZ5.out.2.1] at this; exact this)
    have RA := Lib.hid (show W7.rangeAt w.heap.size 0 [.int .i64 r.g, .int .i64 r.s.d0, .int .i64 r.s.d1, .int .i64 r.s.d2, .int .i64 r.s.bo, .int .i64 r.s.fr, .int .i64 r.s.tr, .int .i64 r.s.ag, .slice x.C r.s.cs.length x.cc, .int .i64 r.s.nw, .int .i64 r.s.nx, .slice x.J r.s.js.length x.cj, .slice x.P r.s.ps.length x.cp, .slice x.K r.s.ks.length x.ck, .slice x.D r.s.dn.length x.cd, .slice x.S r.s.sh.length x.cs, .slice x.U r.s.cu.length x.cu, .int .u8 r.c.kd, .int .i64 r.c.id, .int .i64 r.c.us, .int .i64 r.c.cl, .int .i64 r.c.a, .int .i64 r.c.b, .int .i64 r.c.c, .bool r.c.p, .bool r.c.q, .bool r.c.r, .bool r.c.tn, .int .i64 r.c.wa, .int .i64 r.c.pr, .bool r.c.he, .slice Y r.c.af.length cy, .int .u8 r.c.st, .int .i64 r.c.ca, .int .i64 r.c.ci, .int .i64 r.c.b0, .int .i64 r.c.b1, .int .i64 r.c.b2, .int .i64 r.c.b3, .int .i64 r.c.b4, .int .i64 r.c.b5, .int .i64 r.c.fr, .int .i64 r.c.to, .int .i64 r.c.n, .bool r.c.we] from range_part (n := 45) Ka.out.1 rfl)
    have RB := Lib.hid (show W7.rangeAt (w.heap.size + 1) 0 [.int .i64 o.g, .int .i64 o.s.d0, .int .i64 o.s.d1, .int .i64 o.s.d2, .int .i64 o.s.bo, .int .i64 o.s.fr, .int .i64 o.s.tr, .int .i64 o.s.ag, .slice y.C o.s.cs.length y.cc, .int .i64 o.s.nw, .int .i64 o.s.nx, .slice y.J o.s.js.length y.cj, .slice y.P o.s.ps.length y.cp, .slice y.K o.s.ks.length y.ck, .slice y.D o.s.dn.length y.cd, .slice y.S o.s.sh.length y.cs, .slice y.U o.s.cu.length y.cu, .int .u8 o.c.kd, .int .i64 o.c.id, .int .i64 o.c.us, .int .i64 o.c.cl, .int .i64 o.c.a, .int .i64 o.c.b, .int .i64 o.c.c, .bool o.c.p, .bool o.c.q, .bool o.c.r, .bool o.c.tn, .int .i64 o.c.wa, .int .i64 o.c.pr, .bool o.c.he, .slice Z o.c.af.length cz, .int .u8 o.c.st, .int .i64 o.c.ca, .int .i64 o.c.ci, .int .i64 o.c.b0, .int .i64 o.c.b1, .int .i64 o.c.b2, .int .i64 o.c.b3, .int .i64 o.c.b4, .int .i64 o.c.b5, .int .i64 o.c.fr, .int .i64 o.c.to, .int .i64 o.c.n, .bool o.c.we] from range_part (n := 45) Ka.out.2 rfl)
    clear hV
    rcases hh with rfl | rfl
    all_goals
      cases V
      all_goals
        refine wp_region_quiet_below (by kernel_rfl) (by kernel_rfl) ?_
        repeat (go_big_quiet_step (first | fail))
        (refine quiet_load_mid (by rfl) 51 _ rfl _ _ rfl _ RA.out _ Try.underlying51 rfl (by kernel_rfl) ?_; simp only [Act.put, List.setIfInBounds_toArray, List.set_cons_zero, List.set_cons_succ])
        repeat (go_big_quiet_step (first | fail))
        (refine quiet_load_mid (by rfl) 51 _ rfl _ _ rfl _ RB.out _ Try.underlying51 rfl (by kernel_rfl) ?_; simp only [Act.put, List.setIfInBounds_toArray, List.set_cons_zero, List.set_cons_succ])
        repeat (go_big_quiet_step (first | fail | exact Calls.regrown_of (HS.out _ (below_regrown _ _ _))))
        refine wpQuiet_nil ?_
        intro _ hw'
        obtain ⟨⟨dq, osq⟩, hw''⟩ := hw'
        subst hw''
        have hBq := below_regrown W7 dq osq
        clear kv0 kv1
        generalize grow (redrawn W7 dq) osq = wz at *
        go_wp2_with fail
        go_ret
        exact ⟨rfl, below_up HBa.out hBq⟩
  · have h1 : (v5 != 0) = true := by simpa using h5
    clear h5
    rcases hh with rfl | rfl
    all_goals
      refine wp_region_quiet_below (by kernel_rfl) (by kernel_rfl) ?_
      repeat (go_big_quiet_step (first | fail))
      refine wpQuiet_nil ?_
      intro _ hw'
      obtain ⟨⟨dq, osq⟩, hw''⟩ := hw'
      subst hw''
      have hBq := below_regrown W7 dq osq
      generalize grow (redrawn W7 dq) osq = wz at *
      go_wp2_with fail
      go_ret
      exact ⟨rfl, below_up HBa.out hBq⟩
end Go.Proofs.Ytfdldbfjeamlcaa.RecApartW
/-! RecNames answers yes. -/
namespace Go.Proofs.Ytfdldbfjeamlcaa.RecNamesW
open Go.Sort Go.RowKit RecGuard Mem RecMem RecByte RecNum RecEach RecMath RecCod RecCods RecPort RecCommand RecCmdJ RecVal RecSame RecWr0 RecWrite RecAlive2 RecOwn RecRecC RecSameA RecRead RecAt RecWrite0 RecAll RecF4 RecGreat LogMath QuietRow RecWOk RecApart0
set_option linter.unusedVariables false
set_option linter.unusedSimpArgs false

def cBad : CV := { CV.z with kd := 7, ci := 1 }
def rGen : RV := ⟨1, SV.z, { CV.z with kd := 7 }⟩
theorem bad_wf : CWf cBad := ⟨by decide, by decide⟩
theorem wbad (w : World) : Calls Try.prog 17 #[.agg (recA cBad none 0)] w fun e w' => (∃ X n cc, e = .returned (.tuple #[.slice X n cc, .int .i64 8])) ∧ Below w.heap.size w w' := by
  have h := write_v ⟨0, SV.z, cBad⟩ SA.z none 0 (facts_of bad_wf (by decide)) w ⟨StAt.z, IntsAt.nil, Nat.zero_le _⟩
  refine Calls.mono (show Calls Try.prog 17 #[.agg (recA cBad none 0)] w _ from h) ?_
  rintro e w' ⟨⟨X, n, cc, v, rfl, hV, _⟩, hB⟩
  have e0 : v = 8 := hV.bad.2 fun h => by
    have := (okR_cmd (r := ⟨0, SV.z, cBad⟩) rfl bad_wf).1 h
    have h2 := congrArg RV.c this.2.2
    revert h2
    decide
  subst e0
  exact ⟨⟨X, n, cc, rfl⟩, hB⟩
theorem gen_facts : RFacts rGen := ⟨RecWrite0.z_wf, ⟨by decide, by decide⟩, (show (Lit.int .i64 1).wf = true by decide), ⟨Nat.zero_le _, Nat.zero_le _, Nat.zero_le _, Nat.zero_le _, Nat.zero_le _, Nat.zero_le _, Nat.zero_le _, (fun j hj => by cases hj), Nat.zero_le _⟩, Nat.zero_le _⟩
set_option maxRecDepth 100000 in
theorem wgen (w : World) : Calls Try.prog 17 #[.agg #[.int .i64 1, .int .i64 0, .int .i64 0, .int .i64 0, .int .i64 0, .int .i64 0, .int .i64 0, .int .i64 0, .slice none 0 0, .int .i64 0, .int .i64 0, .slice none 0 0, .slice none 0 0, .slice none 0 0, .slice none 0 0, .slice none 0 0, .slice none 0 0, .int .u8 7, .int .i64 0, .int .i64 0, .int .i64 0, .int .i64 0, .int .i64 0, .int .i64 0, .bool false, .bool false, .bool false, .bool false, .int .i64 0, .int .i64 0, .bool false, .slice none 0 0, .int .u8 0, .int .i64 0, .int .i64 0, .int .i64 0, .int .i64 0, .int .i64 0, .int .i64 0, .int .i64 0, .int .i64 0, .int .i64 0, .int .i64 0, .int .i64 0, .bool false]] w fun e w' => (∃ X n cc, e = .returned (.tuple #[.slice X n cc, .int .i64 8])) ∧ Below w.heap.size w w' := by
  rw [show (Value.agg #[.int .i64 1, .int .i64 0, .int .i64 0, .int .i64 0, .int .i64 0, .int .i64 0, .int .i64 0, .int .i64 0, .slice none 0 0, .int .i64 0, .int .i64 0, .slice none 0 0, .slice none 0 0, .slice none 0 0, .slice none 0 0, .slice none 0 0, .slice none 0 0, .int .u8 7, .int .i64 0, .int .i64 0, .int .i64 0, .int .i64 0, .int .i64 0, .int .i64 0, .bool false, .bool false, .bool false, .bool false, .int .i64 0, .int .i64 0, .bool false, .slice none 0 0, .int .u8 0, .int .i64 0, .int .i64 0, .int .i64 0, .int .i64 0, .int .i64 0, .int .i64 0, .int .i64 0, .int .i64 0, .int .i64 0, .int .i64 0, .int .i64 0, .bool false]) = .agg (rL rGen SA.z none 0).toArray from by kernel_rfl]
  refine (write_v rGen SA.z none 0 gen_facts w ⟨StAt.z, IntsAt.nil, Nat.zero_le _⟩).mono ?_
  rintro e w' ⟨⟨X, n, cc, v, rfl, hV, _⟩, hB⟩
  have e0 : v = 8 := hV.bad.2 fun h => by
    have := (okR_state (r := rGen) (by decide) gen_facts.hs).1 h
    have h2 := congrArg RV.c this.2
    revert h2
    decide
  subst e0
  exact ⟨⟨X, n, cc, rfl⟩, hB⟩
theorem made_zero (n : Nat) : (madeCells #[.int .u8 0] n).toList = (List.replicate n (0 : Int)).map (Value.int .u8) := by
  unfold madeCells
  apply List.ext_getElem?
  intro i
  by_cases hi : i < n
  · simp [Nat.mod_one, hi]
  · simp [Nat.mod_one, hi]
theorem readV_one : (readV [0]).2 = 8 := by
  rcases readV_cases [0] (fun b hb => by simp at hb; subst hb; decide) with ⟨_, _, h, _⟩ | ⟨_, ⟨_, h⟩ | ⟨h, _⟩⟩
  · have := congrArg List.length h
    have := recB_pos (readV [0]).1
    simp at *
    omega
  · simp at h
  · exact h
set_option maxRecDepth 100000 in
set_option maxHeartbeats 6000000 in
theorem walkNames (w : World) : Calls Try.prog 4 #[] w fun e w' => e = .returned (.bool true) ∧ Below w.heap.size w w' := by
  go_enter Try.func4, Try.ntmps4
  go_wp2_with fail
  refine (wbad w).mono ?_
  rintro e w1 ⟨⟨X1, n1, c1, rfl⟩, hB1⟩
  have HB1 := Lib.hid hB1
  clear hB1
  have HC2 := Lib.hid (read_v (some ⟨w1.heap.size, 0, none⟩) [0] 1 1 rfl (w1.alloc (.cells #[.int .u8 0] 5)) (txt_of (t := [0]) (n := 1) (by have := reads_one w1 5 (.int .u8 0); simpa using this)) (fun b hb => by simp at hb; subst hb; decide) (Nat.le_refl _) (by decide))
  go_wp2_with fail
  refine HC2.out.mono ?_
  rw [readV_one]
  rintro e w2 ⟨⟨x2, Y2, cy2, rfl, _⟩, hB2⟩
  have HB2 := Lib.hid (below_up (below_alloc (o := .cells #[.int .u8 0] 5) HB1.out) hB2)
  clear hB2 HC2 HB1
  generalize (readV [0]).1 = q at *
  have x2' := box_full (W := w2) 51 #[.int .i64 0, .int .i64 0, .int .i64 0, .int .i64 0, .int .i64 0, .int .i64 0, .int .i64 0, .int .i64 0, .slice none 0 0, .int .i64 0, .int .i64 0, .slice none 0 0, .slice none 0 0, .slice none 0 0, .slice none 0 0, .slice none 0 0, .slice none 0 0, .int .u8 0, .int .i64 0, .int .i64 0, .int .i64 0, .int .i64 0, .int .i64 0, .int .i64 0, .bool false, .bool false, .bool false, .bool false, .int .i64 0, .int .i64 0, .bool false, .slice none 0 0, .int .u8 0, .int .i64 0, .int .i64 0, .int .i64 0, .int .i64 0, .int .i64 0, .int .i64 0, .int .i64 0, .int .i64 0, .int .i64 0, .int .i64 0, .int .i64 0, .bool false] (vs := [.int .i64 q.g, .int .i64 q.s.d0, .int .i64 q.s.d1, .int .i64 q.s.d2, .int .i64 q.s.bo, .int .i64 q.s.fr, .int .i64 q.s.tr, .int .i64 q.s.ag, .slice x2.C q.s.cs.length x2.cc, .int .i64 q.s.nw, .int .i64 q.s.nx, .slice x2.J q.s.js.length x2.cj, .slice x2.P q.s.ps.length x2.cp, .slice x2.K q.s.ks.length x2.ck, .slice x2.D q.s.dn.length x2.cd, .slice x2.S q.s.sh.length x2.cs, .slice x2.U q.s.cu.length x2.cu, .int .u8 q.c.kd, .int .i64 q.c.id, .int .i64 q.c.us, .int .i64 q.c.cl, .int .i64 q.c.a, .int .i64 q.c.b, .int .i64 q.c.c, .bool q.c.p, .bool q.c.q, .bool q.c.r, .bool q.c.tn, .int .i64 q.c.wa, .int .i64 q.c.pr, .bool q.c.he, .slice Y2 q.c.af.length cy2, .int .u8 q.c.st, .int .i64 q.c.ca, .int .i64 q.c.ci, .int .i64 q.c.b0, .int .i64 q.c.b1, .int .i64 q.c.b2, .int .i64 q.c.b3, .int .i64 q.c.b4, .int .i64 q.c.b5, .int .i64 q.c.fr, .int .i64 q.c.to, .int .i64 q.c.n, .bool q.c.we]) rfl
  go_upto_region 3 with (first | (refine wpList_store_mid rfl 51 _ _ rfl w2.heap.size 0 (List.toArray [.int .i64 q.g, .int .i64 q.s.d0, .int .i64 q.s.d1, .int .i64 q.s.d2, .int .i64 q.s.bo, .int .i64 q.s.fr, .int .i64 q.s.tr, .int .i64 q.s.ag, .slice x2.C q.s.cs.length x2.cc, .int .i64 q.s.nw, .int .i64 q.s.nx, .slice x2.J q.s.js.length x2.cj, .slice x2.P q.s.ps.length x2.cp, .slice x2.K q.s.ks.length x2.ck, .slice x2.D q.s.dn.length x2.cd, .slice x2.S q.s.sh.length x2.cs, .slice x2.U q.s.cu.length x2.cu, .int .u8 q.c.kd, .int .i64 q.c.id, .int .i64 q.c.us, .int .i64 q.c.cl, .int .i64 q.c.a, .int .i64 q.c.b, .int .i64 q.c.c, .bool q.c.p, .bool q.c.q, .bool q.c.r, .bool q.c.tn, .int .i64 q.c.wa, .int .i64 q.c.pr, .bool q.c.he, .slice Y2 q.c.af.length cy2, .int .u8 q.c.st, .int .i64 q.c.ca, .int .i64 q.c.ci, .int .i64 q.c.b0, .int .i64 q.c.b1, .int .i64 q.c.b2, .int .i64 q.c.b3, .int .i64 q.c.b4, .int .i64 q.c.b5, .int .i64 q.c.fr, .int .i64 q.c.to, .int .i64 q.c.n, .bool q.c.we]) rfl rfl (there_of (Blk.new w2 51 #[.int .i64 0, .int .i64 0, .int .i64 0, .int .i64 0, .int .i64 0, .int .i64 0, .int .i64 0, .int .i64 0, .slice none 0 0, .int .i64 0, .int .i64 0, .slice none 0 0, .slice none 0 0, .slice none 0 0, .slice none 0 0, .slice none 0 0, .slice none 0 0, .int .u8 0, .int .i64 0, .int .i64 0, .int .i64 0, .int .i64 0, .int .i64 0, .int .i64 0, .bool false, .bool false, .bool false, .bool false, .int .i64 0, .int .i64 0, .bool false, .slice none 0 0, .int .u8 0, .int .i64 0, .int .i64 0, .int .i64 0, .int .i64 0, .int .i64 0, .int .i64 0, .int .i64 0, .int .i64 0, .int .i64 0, .int .i64 0, .int .i64 0, .bool false]) (Nat.le_of_ble_eq_true rfl)) (by kernel_rfl) (by kernel_rfl) ?_; simp only [List.toList_toArray]; generalize World.setCells _ _ _ _ = W3 at *; (try simp only [Act.put])))
  have HB3 := Lib.hid (below_up HB2.out x2'.2)
  obtain ⟨g2, hg2⟩ : ∃ n, n = w2.heap.size := ⟨_, rfl⟩
  rw [← hg2]
  clear x2' HB2 hg2
  obtain ⟨i0, hi0, hz0, hz1, hz2⟩ := info_parts byte_info
  obtain ⟨w4, hr4, hown4, hg4⟩ := run_make_full W3 W3.heap.size 37 5 i0 (.int .u8 0) 1 Try.underlying37 hi0 hz0 hz1 .i64 .i64 65537 (by rw [hz2]; decide) (by decide) (Nat.le_refl _)
  have e5 : (madeCells (Value.int IntKind.u8 0).cells (65537 * 1)).toList = (List.replicate 65537 (0 : Int)).map (Value.int .u8) := made_zero 65537
  rw [e5] at hown4
  have HOW := Lib.hid (And.intro hown4 hg4)
  have hB4 : Below W3.heap.size W3 w4 := (Below.refl _ W3).grown HOW.out.2 (Nat.le_refl _) (by intro k hk; cases hk)
  have HB4 := Lib.hid (below_up HB3.out hB4)
  clear hi0 hz0 hz1 hz2 e5 hown4 hg4 hB4 HB3
  have hr4 : (Instr.makeSlice 37 (.int .i64 65537) (.int .i64 65537)).run Try.prog W3 = .ok (.slice (some ⟨W3.heap.size, 0, none⟩) 65537 65537) w4 := hr4
  go_wp2_with fail
  have hl : (List.replicate 65537 (0 : Int)).length = 65537 := List.length_replicate
  generalize hT : List.replicate 65537 (0 : Int) = T at *
  have hoct : Oct T := fun b hb => by rw [← hT] at hb; have := List.eq_of_mem_replicate hb; subst this; decide
  refine (read_v (some ⟨W3.heap.size, 0, none⟩) T 65537 65537 hl.symm w4 (txt_of (Reads.of_own HOW.out.1)) hoct (Nat.le_refl _) (by decide)).mono ?_
  rw [readV_long (by rw [hl]; decide)]
  rintro e w5 ⟨⟨x5, Y5, cy5, rfl, _⟩, hB5⟩
  have HB5 := Lib.hid (below_up HB4.out hB5)
  clear hB5 HB4 HOW hT hl hoct hr4
  generalize RV.z = q5 at *
  have x5' := box_full (W := w5) 51 #[.int .i64 0, .int .i64 0, .int .i64 0, .int .i64 0, .int .i64 0, .int .i64 0, .int .i64 0, .int .i64 0, .slice none 0 0, .int .i64 0, .int .i64 0, .slice none 0 0, .slice none 0 0, .slice none 0 0, .slice none 0 0, .slice none 0 0, .slice none 0 0, .int .u8 0, .int .i64 0, .int .i64 0, .int .i64 0, .int .i64 0, .int .i64 0, .int .i64 0, .bool false, .bool false, .bool false, .bool false, .int .i64 0, .int .i64 0, .bool false, .slice none 0 0, .int .u8 0, .int .i64 0, .int .i64 0, .int .i64 0, .int .i64 0, .int .i64 0, .int .i64 0, .int .i64 0, .int .i64 0, .int .i64 0, .int .i64 0, .int .i64 0, .bool false] (vs := [.int .i64 q5.g, .int .i64 q5.s.d0, .int .i64 q5.s.d1, .int .i64 q5.s.d2, .int .i64 q5.s.bo, .int .i64 q5.s.fr, .int .i64 q5.s.tr, .int .i64 q5.s.ag, .slice x5.C q5.s.cs.length x5.cc, .int .i64 q5.s.nw, .int .i64 q5.s.nx, .slice x5.J q5.s.js.length x5.cj, .slice x5.P q5.s.ps.length x5.cp, .slice x5.K q5.s.ks.length x5.ck, .slice x5.D q5.s.dn.length x5.cd, .slice x5.S q5.s.sh.length x5.cs, .slice x5.U q5.s.cu.length x5.cu, .int .u8 q5.c.kd, .int .i64 q5.c.id, .int .i64 q5.c.us, .int .i64 q5.c.cl, .int .i64 q5.c.a, .int .i64 q5.c.b, .int .i64 q5.c.c, .bool q5.c.p, .bool q5.c.q, .bool q5.c.r, .bool q5.c.tn, .int .i64 q5.c.wa, .int .i64 q5.c.pr, .bool q5.c.he, .slice Y5 q5.c.af.length cy5, .int .u8 q5.c.st, .int .i64 q5.c.ca, .int .i64 q5.c.ci, .int .i64 q5.c.b0, .int .i64 q5.c.b1, .int .i64 q5.c.b2, .int .i64 q5.c.b3, .int .i64 q5.c.b4, .int .i64 q5.c.b5, .int .i64 q5.c.fr, .int .i64 q5.c.to, .int .i64 q5.c.n, .bool q5.c.we]) rfl
  go_upto_region 4 with (first | (refine wpList_store_mid rfl 51 _ _ rfl w5.heap.size 0 (List.toArray [.int .i64 q5.g, .int .i64 q5.s.d0, .int .i64 q5.s.d1, .int .i64 q5.s.d2, .int .i64 q5.s.bo, .int .i64 q5.s.fr, .int .i64 q5.s.tr, .int .i64 q5.s.ag, .slice x5.C q5.s.cs.length x5.cc, .int .i64 q5.s.nw, .int .i64 q5.s.nx, .slice x5.J q5.s.js.length x5.cj, .slice x5.P q5.s.ps.length x5.cp, .slice x5.K q5.s.ks.length x5.ck, .slice x5.D q5.s.dn.length x5.cd, .slice x5.S q5.s.sh.length x5.cs, .slice x5.U q5.s.cu.length x5.cu, .int .u8 q5.c.kd, .int .i64 q5.c.id, .int .i64 q5.c.us, .int .i64 q5.c.cl, .int .i64 q5.c.a, .int .i64 q5.c.b, .int .i64 q5.c.c, .bool q5.c.p, .bool q5.c.q, .bool q5.c.r, .bool q5.c.tn, .int .i64 q5.c.wa, .int .i64 q5.c.pr, .bool q5.c.he, .slice Y5 q5.c.af.length cy5, .int .u8 q5.c.st, .int .i64 q5.c.ca, .int .i64 q5.c.ci, .int .i64 q5.c.b0, .int .i64 q5.c.b1, .int .i64 q5.c.b2, .int .i64 q5.c.b3, .int .i64 q5.c.b4, .int .i64 q5.c.b5, .int .i64 q5.c.fr, .int .i64 q5.c.to, .int .i64 q5.c.n, .bool q5.c.we]) rfl rfl (there_of (Blk.new w5 51 #[.int .i64 0, .int .i64 0, .int .i64 0, .int .i64 0, .int .i64 0, .int .i64 0, .int .i64 0, .int .i64 0, .slice none 0 0, .int .i64 0, .int .i64 0, .slice none 0 0, .slice none 0 0, .slice none 0 0, .slice none 0 0, .slice none 0 0, .slice none 0 0, .int .u8 0, .int .i64 0, .int .i64 0, .int .i64 0, .int .i64 0, .int .i64 0, .int .i64 0, .bool false, .bool false, .bool false, .bool false, .int .i64 0, .int .i64 0, .bool false, .slice none 0 0, .int .u8 0, .int .i64 0, .int .i64 0, .int .i64 0, .int .i64 0, .int .i64 0, .int .i64 0, .int .i64 0, .int .i64 0, .int .i64 0, .int .i64 0, .int .i64 0, .bool false]) (Nat.le_of_ble_eq_true rfl)) (by kernel_rfl) (by kernel_rfl) ?_; simp only [List.toList_toArray]; generalize World.setCells _ _ _ _ = W6 at *; (try simp only [Act.put])))
  have HB6 := Lib.hid (below_up HB5.out x5'.2)
  obtain ⟨g5, hg5⟩ : ∃ n, n = w5.heap.size := ⟨_, rfl⟩
  rw [← hg5]
  clear x5' HB5 hg5
  go_wp2_with fail
  refine (wgen W6).mono ?_
  rintro e w7 ⟨⟨X7, n7, c7, rfl⟩, hB7⟩
  have HB7 := Lib.hid (below_up HB6.out hB7)
  clear hB7 HB6
  go_wp2_with fail
  refine (alive28 w7).mono ?_
  rintro e w8 ⟨rfl, hB8⟩
  have HB8 := Lib.hid (below_up HB7.out hB8)
  clear hB8 HB7
  go_wp2_with fail
  go_ret
  exact ⟨rfl, HB8.out⟩
end Go.Proofs.Ytfdldbfjeamlcaa.RecNamesW
