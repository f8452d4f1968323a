/- Several texts joined: bytes.Join of three parts, behind nothing: off the kit's shelf. No conditions but those named. -/
import Derived.Shelf.Bytes.SlJoin
import Derived.Test.YtfdldbfjeamlcaaL15
import Derived.BigQuiet
import Derived.Deep.QuietTactic
import Derived.Deep.MidRow
import Derived.Deep.DeepCutAuto
import Derived.RangeFuncNested
import Derived.Test.YtfdldbfjeamlcaaG1
import Derived.ControlIn
import Derived.RangeFuncSeq
import Derived.RangeFuncLeaves
import Derived.OwnWalkIn
/-! bytes.Join of three parts, behind nothing: off the kit's shelf. No conditions but those named. -/
namespace Go.Proofs.Ytfdldbfjeamlcaa.LogJoin
open Go.Shelf Go.RowKit Mem RecMem RecCod RecWr0 RecRead RecAll LogFour
set_option linter.unusedVariables false
set_option linter.unusedSimpArgs false

def rn : Ren := ⟨fun n => if n = 14 then 66 else if n = 15 then 96 else n, fun n => if n = 0 then 0 else if n = 3 then 3 else if n = 4 then 4 else if n = 9 then 9 else if n = 20 then 20 else if n = 22 then 37 else if n = 26 then 139 else if n = 5 then 5 else n, fun n => n⟩
theorem lay : SlLaysJ.n14 Try.prog rn := {
  mixed := by kernel_rfl
  f14 := Try.func66.trans (by kernel_rfl)
  f15 := Try.func96.trans (by kernel_rfl)
  t0 := Try.underlying0
  a0 := fun w => by kernel_rfl
  z0 := fun w => by kernel_rfl
  v0 := fun w => by kernel_rfl
  t3 := Try.underlying3
  a3 := fun w => by kernel_rfl
  z3 := fun w => by kernel_rfl
  v3 := fun w => by kernel_rfl
  t4 := Try.underlying4
  a4 := fun w => by kernel_rfl
  z4 := fun w => by kernel_rfl
  v4 := fun w => by kernel_rfl
  t9 := Try.underlying9
  a9 := fun w => by kernel_rfl
  z9 := fun w => by kernel_rfl
  v9 := fun w => by kernel_rfl
  t20 := Try.underlying20
  a20 := fun w => by kernel_rfl
  z20 := fun w => by kernel_rfl
  v20 := fun w => by kernel_rfl
  t22 := Try.underlying37
  a22 := fun w => by kernel_rfl
  z22 := fun w => by kernel_rfl
  v22 := fun w => by kernel_rfl
  t26 := Try.underlying139
  a26 := fun w => by kernel_rfl
  z26 := fun w => by kernel_rfl
  v26 := fun w => by kernel_rfl
  t5 := Try.underlying5
  z5 := fun w => by kernel_rfl
  i5 := by kernel_rfl }
/-- The bytes as the shelf has them. -/
def u8L (t : Bs) : List UInt8 := t.map fun n => UInt8.ofNat n.toNat
theorem u8L_len (t : Bs) : (u8L t).length = t.length := by simp [u8L]
theorem u8L_num {x : Int} (h : 0 ≤ x ∧ x < 256) : ((UInt8.ofNat x.toNat).toNat : Int) = x := by
  rw [UInt8.toNat_ofNat']; omega
theorem holds_of {w : World} {X : Option Addr} {t : Bs} {n c : Nat} (hn : n = t.length) (h : TxtAt w X t) (ho : Oct t) : Lib.HoldsBytes w (.slice X n c) (u8L t) := by
  refine ⟨X, c, by rw [u8L_len, hn], fun e => ?_, fun a ha i x hx => ?_⟩
  · cases t with
    | nil => rfl
    | cons y t =>
      obtain ⟨_, _, e2, _⟩ := h 0 y rfl
      rw [e] at e2; cases e2
  · unfold u8L at hx
    rw [List.getElem?_map] at hx
    cases hi : t[i]? with
    | none => rw [hi] at hx; cases hx
    | some y =>
      rw [hi] at hx
      cases hx
      obtain ⟨b, o, e2, _, hc⟩ := h i y hi
      rw [e2] at ha
      cases ha
      rw [add_flat, hc, u8L_num (ho y (List.mem_of_getElem? hi))]
/-- Bytes in a block of their own, that may be written. -/
structure Fresh (B : Nat) (w : World) (g : Nat) (t : Bs) (c : Nat) : Prop where
  le : B ≤ g
  lt : g < w.heap.size
  cap : t.length ≤ c
  top : c ≤ maxLen
  cell : ∀ i x, t[i]? = some x → w.cell? ⟨g, i, none⟩ = some (.int .u8 x)
  free : ∀ i, i < c → w.frozen? ⟨g, i, none⟩ = false
theorem Fresh.txt {B : Nat} {w : World} {g : Nat} {t : Bs} {c : Nat} (h : Fresh B w g t c) : TxtAt w (some ⟨g, 0, none⟩) t := fun i x hi => ⟨g, 0, rfl, h.lt, by rw [Nat.zero_add]; exact h.cell i x hi⟩
theorem Fresh.up {B : Nat} {w w' : World} {g : Nat} {t : Bs} {c : Nat} (h : Fresh B w g t c) (hB : Below w.heap.size w w') : Fresh B w' g t c :=
  ⟨h.le, Nat.lt_of_lt_of_le h.lt hB.size, h.cap, h.top, fun i x hi => keep_cell (h.cell i x hi) hB, fun i hi => (hB.frozen (p := ⟨g, i, none⟩) h.lt).trans (h.free i hi)⟩
theorem join3 (g : Nat) (X Y Z : Option Addr) (a b c : Bs) (na nb nc ca cb cc : Nat) (ea : na = a.length) (eb : nb = b.length) (ec : nc = c.length) (ha : Oct a) (hb : Oct b) (hc : Oct c) (hla : a.length ≤ 1000000000) (hlb : b.length ≤ 1000000000) (hlc : c.length ≤ 1000000000)
    (w : World) (hg : Blk w g 37 #[.slice X na ca, .slice Y nb cb, .slice Z nc cc]) (hA : TxtAt w X a) (hB : TxtAt w Y b) (hC : TxtAt w Z c) (hne : 0 < a.length) :
    Calls Try.prog 66 #[.slice (some ⟨g, 0, none⟩) 3 3, .slice none 0 0] w fun e w' => (∃ h k, e = .returned (.slice (some ⟨h, 0, none⟩) (a ++ b ++ c).length k) ∧ Fresh w.heap.size w' h (a ++ b ++ c) k) ∧ Below w.heap.size w w' := by
  have hP : Lib.PartsAt w ⟨g, 0, none⟩ [.slice X na ca, .slice Y nb cb, .slice Z nc cc] [u8L a, u8L b, u8L c] := by
    refine ⟨rfl, fun i v hv => ?_, fun i v l hv hl => ?_⟩
    · rw [add_flat, Nat.zero_add, hg.cell]
      simpa using hv
    · match i with
      | 0 => simp at hv hl; subst hv hl; exact holds_of ea hA ha
      | 1 => simp at hv hl; subst hv hl; exact holds_of eb hB hb
      | 2 => simp at hv hl; subst hv hl; exact holds_of ec hC hc
      | i + 3 => simp at hv
  have hS : Lib.HoldsBytes w (.slice none 0 0) ([] : List UInt8) := ⟨none, 0, rfl, fun _ => rfl, fun a ha => by cases ha⟩
  have h := Any.bytes_Join_many lay g 0 3 3 _ [u8L a, u8L b, u8L c] (.slice none 0 0) [] w rfl (by decide) hP (by decide) hS (by decide) (by simp [Lib.lens, u8L_len]; omega)
  refine Calls.mono (show Calls Try.prog 66 #[.slice (some ⟨g, 0, none⟩) 3 3, .slice none 0 0] w _ from h) ?_
  rintro e w' ⟨v', rfl, hF, hBl⟩
  have ej : Lib.join [u8L a, u8L b, u8L c] [] = u8L (a ++ b ++ c) := by
    rw [Lib.join_cons]
    simp [Lib.joinTail, u8L, List.append_assoc]
  rw [ej] at hF
  obtain ⟨q, cap, zs, rfl, h1, h2, h3, h4, h5, h6, h7, h8⟩ := hF
  have ho : Oct (a ++ b ++ c) := (ha.app hb).app hc
  rw [u8L_len] at h2 h6 ⊢
  have hz : ∀ i x, (a ++ b ++ c)[i]? = some x → zs.getD i 0 = x := fun i x hi => by
    have hil : i < (a ++ b ++ c).length := (List.getElem?_eq_some_iff.1 hi).1
    have e2 := congrArg (fun l => l[i]?) h6
    unfold Lib.bytesOf u8L at e2
    rw [List.getElem?_map, List.getElem?_map, hi, List.getElem?_take_of_lt hil] at e2
    have hzi : i < zs.length := by omega
    rw [List.getElem?_eq_getElem hzi] at e2
    have hr := h5 zs[i] (List.getElem_mem hzi)
    have hx := ho x (List.mem_of_getElem? hi)
    simp only [Option.map_some, Option.some.injEq] at e2
    have e3 := congrArg UInt8.toNat e2
    rw [UInt8.toNat_ofNat', UInt8.toNat_ofNat'] at e3
    rw [List.getD_eq_getElem?_getD, List.getElem?_eq_getElem hzi]
    simp only [Option.getD_some]
    omega
  refine ⟨⟨q, cap, rfl, ⟨h1, ?_, h2, h3, fun i x hi => ?_, h8⟩⟩, hBl⟩
  · have hl2 : a.length ≤ (a ++ b ++ c).length := by simp only [List.length_append]; omega
    have h0 : 0 < cap := by omega
    have := h7 0 h0
    exact cell_lt this
  · have hil : i < (a ++ b ++ c).length := (List.getElem?_eq_some_iff.1 hi).1
    rw [h7 i (by omega), hz i x hi]
end Go.Proofs.Ytfdldbfjeamlcaa.LogJoin
/-! log.Wrap. -/
namespace Go.Proofs.Ytfdldbfjeamlcaa.LogWrap
open Go.RowKit Go.Shelf MarkMath MarkSeq MarkOf Mem RecMem RecByte RecNum RecMath RecCod RecVal RecSame RecWr0 RecRecC RecRead RecAll LogFour LogJoin
set_option linter.unusedVariables false
set_option linter.unusedSimpArgs false

/-- A record's frame. -/
def wrapB (r : RV) : Bs := fourB ((recB r).length : Int) ++ fourB (mk 0 (recB r)) ++ recB r
theorem wrapB_len (r : RV) : (wrapB r).length = (recB r).length + 8 := by unfold wrapB fourB; simp only [List.length_append, List.length_cons, List.length_nil]; omega
theorem mk_in {t : Bs} : 0 ≤ mk 0 t ∧ mk 0 t < 4294967291 := mk_range t 0 (by omega) (by omega)
theorem of_txt (X : Option Addr) (n c : Nat) (t : Bs) (hn : n = t.length) (ho : Oct t) (hl : t.length ≤ 1000000000) (w : World) (ty : TypeId) (hX : TxtAt w X t) :
    Calls Try.prog 68 #[.slice (some ⟨w.heap.size, 0, none⟩) 1 1] (w.alloc (.cells #[.slice X n c] ty)) fun e w' => e = .returned (.int .u32 (mk 0 t)) ∧ Below w.heap.size w w' := by
  obtain ⟨b, rfl⟩ := of_bytes t (fun x hx => by have := ho x hx; omega)
  subst hn
  have h := of_one X c b (by rw [ints_length] at hl; omega) w ty (by have := txt_bytes hX; unfold BytesAt at this; rw [ints_length] at this; exact this)
  rw [ints_length]
  exact h
theorem four_txt (w : World) (n : Int) : TxtAt (w.alloc (.cells #[.int .u8 (n % 256), .int .u8 (n / 256 % 256), .int .u8 (n / 65536 % 256), .int .u8 (n / 16777216 % 256)] 5)) (some ⟨w.heap.size, 0, none⟩) (fourB n) := fun i x hi => by
  refine ⟨w.heap.size, 0, rfl, by simp, ?_⟩
  rw [Nat.zero_add, (Blk.new w 5 _).cell]
  match i with
  | 0 => simp [fourB] at hi; subst hi; rfl
  | 1 => simp [fourB] at hi; subst hi; rfl
  | 2 => simp [fourB] at hi; subst hi; rfl
  | 3 => simp [fourB] at hi; subst hi; rfl
  | i + 4 => simp [fourB] at hi
/-- How Wrap ends. -/
def WpPost (r : RV) (w : World) (e : Ending) (w' : World) : Prop :=
  (∃ v X n c, e = .returned (.tuple #[.slice X n c, .int .i64 v]) ∧ WV r v ∧ (v ≠ 0 → X = none ∧ n = 0 ∧ c = 0) ∧ (v = 0 → ∃ g, X = some ⟨g, 0, none⟩ ∧ n = (wrapB r).length ∧ Fresh w.heap.size w' g (wrapB r) c)) ∧ Below w.heap.size w w'
set_option maxRecDepth 100000 in
set_option maxHeartbeats 4000000 in
theorem wrap_v (r : RV) (x : SA) (Y : Option Addr) (cy : Nat) (F : RFacts r) (w : World) (h : RIs w r x Y cy) :
    Calls Try.prog 37 #[.agg #[.int .i64 r.g, .int .i64 r.s.d0, .int .i64 r.s.d1, .int .i64 r.s.d2, .int .i64 r.s.bo, .int .i64 r.s.fr, .int .i64 r.s.tr, .int .i64 r.s.ag, .slice x.C r.s.cs.length x.cc, .int .i64 r.s.nw, .int .i64 r.s.nx, .slice x.J r.s.js.length x.cj, .slice x.P r.s.ps.length x.cp, .slice x.K r.s.ks.length x.ck, .slice x.D r.s.dn.length x.cd, .slice x.S r.s.sh.length x.cs, .slice x.U r.s.cu.length x.cu, .int .u8 r.c.kd, .int .i64 r.c.id, .int .i64 r.c.us, .int .i64 r.c.cl, .int .i64 r.c.a, .int .i64 r.c.b, .int .i64 r.c.c, .bool r.c.p, .bool r.c.q, .bool r.c.r, .bool r.c.tn, .int .i64 r.c.wa, .int .i64 r.c.pr, .bool r.c.he, .slice Y r.c.af.length cy, .int .u8 r.c.st, .int .i64 r.c.ca, .int .i64 r.c.ci, .int .i64 r.c.b0, .int .i64 r.c.b1, .int .i64 r.c.b2, .int .i64 r.c.b3, .int .i64 r.c.b4, .int .i64 r.c.b5, .int .i64 r.c.fr, .int .i64 r.c.to, .int .i64 r.c.n, .bool r.c.we]] w fun e w' => WpPost r w e w' := by
  have HR := Lib.hid h
  have HF := Lib.hid F
  clear h F
  go_enter Try.func37, Try.ntmps37
  go_upto_region 1 with fail
  have K0 := Lib.hid (Blk.new w 51 #[.int .i64 r.g, .int .i64 r.s.d0, .int .i64 r.s.d1, .int .i64 r.s.d2, .int .i64 r.s.bo, .int .i64 r.s.fr, .int .i64 r.s.tr, .int .i64 r.s.ag, .slice x.C r.s.cs.length x.cc, .int .i64 r.s.nw, .int .i64 r.s.nx, .slice x.J r.s.js.length x.cj, .slice x.P r.s.ps.length x.cp, .slice x.K r.s.ks.length x.ck, .slice x.D r.s.dn.length x.cd, .slice x.S r.s.sh.length x.cs, .slice x.U r.s.cu.length x.cu, .int .u8 r.c.kd, .int .i64 r.c.id, .int .i64 r.c.us, .int .i64 r.c.cl, .int .i64 r.c.a, .int .i64 r.c.b, .int .i64 r.c.c, .bool r.c.p, .bool r.c.q, .bool r.c.r, .bool r.c.tn, .int .i64 r.c.wa, .int .i64 r.c.pr, .bool r.c.he, .slice Y r.c.af.length cy, .int .u8 r.c.st, .int .i64 r.c.ca, .int .i64 r.c.ci, .int .i64 r.c.b0, .int .i64 r.c.b1, .int .i64 r.c.b2, .int .i64 r.c.b3, .int .i64 r.c.b4, .int .i64 r.c.b5, .int .i64 r.c.fr, .int .i64 r.c.to, .int .i64 r.c.n, .bool r.c.we])
  have HB0 := Lib.hid (below_alloc (o := .cells #[.int .i64 r.g, .int .i64 r.s.d0, .int .i64 r.s.d1, .int .i64 r.s.d2, .int .i64 r.s.bo, .int .i64 r.s.fr, .int .i64 r.s.tr, .int .i64 r.s.ag, .slice x.C r.s.cs.length x.cc, .int .i64 r.s.nw, .int .i64 r.s.nx, .slice x.J r.s.js.length x.cj, .slice x.P r.s.ps.length x.cp, .slice x.K r.s.ks.length x.ck, .slice x.D r.s.dn.length x.cd, .slice x.S r.s.sh.length x.cs, .slice x.U r.s.cu.length x.cu, .int .u8 r.c.kd, .int .i64 r.c.id, .int .i64 r.c.us, .int .i64 r.c.cl, .int .i64 r.c.a, .int .i64 r.c.b, .int .i64 r.c.c, .bool r.c.p, .bool r.c.q, .bool r.c.r, .bool r.c.tn, .int .i64 r.c.wa, .int .i64 r.c.pr, .bool r.c.he, .slice Y r.c.af.length cy, .int .u8 r.c.st, .int .i64 r.c.ca, .int .i64 r.c.ci, .int .i64 r.c.b0, .int .i64 r.c.b1, .int .i64 r.c.b2, .int .i64 r.c.b3, .int .i64 r.c.b4, .int .i64 r.c.b5, .int .i64 r.c.fr, .int .i64 r.c.to, .int .i64 r.c.n, .bool r.c.we] 51) (Below.refl w.heap.size w))
  generalize w.alloc (.cells #[.int .i64 r.g, .int .i64 r.s.d0, .int .i64 r.s.d1, .int .i64 r.s.d2, .int .i64 r.s.bo, .int .i64 r.s.fr, .int .i64 r.s.tr, .int .i64 r.s.ag, .slice x.C r.s.cs.length x.cc, .int .i64 r.s.nw, .int .i64 r.s.nx, .slice x.J r.s.js.length x.cj, .slice x.P r.s.ps.length x.cp, .slice x.K r.s.ks.length x.ck, .slice x.D r.s.dn.length x.cd, .slice x.S r.s.sh.length x.cs, .slice x.U r.s.cu.length x.cu, .int .u8 r.c.kd, .int .i64 r.c.id, .int .i64 r.c.us, .int .i64 r.c.cl, .int .i64 r.c.a, .int .i64 r.c.b, .int .i64 r.c.c, .bool r.c.p, .bool r.c.q, .bool r.c.r, .bool r.c.tn, .int .i64 r.c.wa, .int .i64 r.c.pr, .bool r.c.he, .slice Y r.c.af.length cy, .int .u8 r.c.st, .int .i64 r.c.ca, .int .i64 r.c.ci, .int .i64 r.c.b0, .int .i64 r.c.b1, .int .i64 r.c.b2, .int .i64 r.c.b3, .int .i64 r.c.b4, .int .i64 r.c.b5, .int .i64 r.c.fr, .int .i64 r.c.to, .int .i64 r.c.n, .bool r.c.we] 51) = W0 at *
  have R1 := Lib.hid (show W0.rangeAt w.heap.size 0 [.int .i64 r.g, .int .i64 r.s.d0, .int .i64 r.s.d1, .int .i64 r.s.d2, .int .i64 r.s.bo, .int .i64 r.s.fr, .int .i64 r.s.tr, .int .i64 r.s.ag, .slice x.C r.s.cs.length x.cc, .int .i64 r.s.nw, .int .i64 r.s.nx, .slice x.J r.s.js.length x.cj, .slice x.P r.s.ps.length x.cp, .slice x.K r.s.ks.length x.ck, .slice x.D r.s.dn.length x.cd, .slice x.S r.s.sh.length x.cs, .slice x.U r.s.cu.length x.cu, .int .u8 r.c.kd, .int .i64 r.c.id, .int .i64 r.c.us, .int .i64 r.c.cl, .int .i64 r.c.a, .int .i64 r.c.b, .int .i64 r.c.c, .bool r.c.p, .bool r.c.q, .bool r.c.r, .bool r.c.tn, .int .i64 r.c.wa, .int .i64 r.c.pr, .bool r.c.he, .slice Y r.c.af.length cy, .int .u8 r.c.st, .int .i64 r.c.ca, .int .i64 r.c.ci, .int .i64 r.c.b0, .int .i64 r.c.b1, .int .i64 r.c.b2, .int .i64 r.c.b3, .int .i64 r.c.b4, .int .i64 r.c.b5, .int .i64 r.c.fr, .int .i64 r.c.to, .int .i64 r.c.n, .bool r.c.we] from range_part (n := 45) K0.out rfl)
  go_wp2_with (first | (refine wpList_load_mid rfl 51 _ rfl _ _ rfl _ _ R1.out Try.underlying51 rfl (by kernel_rfl) ?_))
  refine (write_v r x Y cy HF.out W0 (HR.out.up HB0.out)).mono ?_
  rintro e w1 ⟨⟨X1, n1, c1, v1, rfl, hV, hn1, hc1, hz1, hv1⟩, hB1⟩
  have HB1 := Lib.hid (below_up HB0.out hB1)
  have HV := Lib.hid (And.intro hV (And.intro hn1 (And.intro hc1 (And.intro hz1 hv1))))
  clear hV hn1 hc1 hz1 hv1 hB1 R1 K0 HB0 HR HF
  by_cases h0 : v1 = 0
  rotate_left
  · have h1 : (v1 != 0) = true := by simpa using h0
    have HZ := Lib.hid h0
    clear h0
    go_wp2_with fail
    go_ret2
    exact ⟨⟨v1, none, 0, 0, rfl, HV.out.1, fun _ => ⟨rfl, rfl, rfl⟩, fun e => absurd e HZ.out⟩, HB1.out⟩
  have HZ := Lib.hid (And.intro (HV.out.1.ok.1 h0) (And.intro (HV.out.2.2.2.2 h0).1 (txt_of (HV.out.2.2.2.2 h0).2)))
  have HVV := Lib.hid (show WV r 0 from h0 ▸ HV.out.1)
  have hn : n1 ≤ 65536 := by have := HZ.out.1.2; have := HZ.out.2.1; omega
  subst h0
  have ho := Lib.hid (recB_oct HZ.out.1.1)
  obtain ⟨t, ht⟩ : ∃ t, t = recB r := ⟨_, rfl⟩
  have HT := Lib.hid (And.intro (show n1 = t.length by rw [ht]; exact HZ.out.2.1) (And.intro (show Oct t by rw [ht]; exact ho.out) (And.intro (show TxtAt w1 X1 t by rw [ht]; exact HZ.out.2.2) ht)))
  clear ht HV HZ ho
  have HM := Lib.hid (mk_in (t := t))
  obtain ⟨m, hm⟩ : ∃ m, m = mk 0 t := ⟨_, rfl⟩
  have HM := Lib.hid (And.intro (show 0 ≤ m ∧ m < 4294967291 by rw [hm]; exact mk_in) hm)
  have hm0 : 0 ≤ m := HM.out.1.1
  have hm1 : m < 4294967291 := HM.out.1.2
  clear hm
  go_wp2_with fail
  refine (four_any (n1 : Int) (by omega) (by omega) w1).mono ?_
  rintro e w2 ⟨rfl, rfl⟩
  have HX2 := Lib.hid (And.intro (four_txt w1 (n1 : Int)) (HT.out.2.2.1.up (below_alloc (o := .cells #[.int .u8 ((n1 : Int) % 256), .int .u8 ((n1 : Int) / 256 % 256), .int .u8 ((n1 : Int) / 65536 % 256), .int .u8 ((n1 : Int) / 16777216 % 256)] 5) (Below.refl _ w1))))
  have HB2 := Lib.hid (below_alloc (o := .cells #[.int .u8 ((n1 : Int) % 256), .int .u8 ((n1 : Int) / 256 % 256), .int .u8 ((n1 : Int) / 65536 % 256), .int .u8 ((n1 : Int) / 16777216 % 256)] 5) HB1.out)
  generalize w1.alloc (.cells #[.int .u8 ((n1 : Int) % 256), .int .u8 ((n1 : Int) / 256 % 256), .int .u8 ((n1 : Int) / 65536 % 256), .int .u8 ((n1 : Int) / 16777216 % 256)] 5) = W2 at *
  obtain ⟨g1, hg1⟩ : ∃ n, n = w1.heap.size := ⟨_, rfl⟩
  rw [← hg1] at HX2
  rw [← hg1]
  clear hg1 HB1
  go_wp2_with fail
  refine (of_txt X1 n1 c1 t HT.out.1 HT.out.2.1 (by have := HT.out.1; omega) W2 37 HX2.out.2).mono ?_
  rw [← HM.out.2]
  rintro e w3 ⟨rfl, hB3⟩
  have HX3 := Lib.hid (And.intro (HX2.out.1.up hB3) (HX2.out.2.up hB3))
  have HB3 := Lib.hid (below_up HB2.out hB3)
  clear HX2 HB2 hB3
  go_wp2_with fail
  refine (four_any m hm0 (by omega) w3).mono ?_
  rintro e w4 ⟨rfl, rfl⟩
  have hb4 : Below w3.heap.size w3 (w3.alloc (.cells #[.int .u8 (m % 256), .int .u8 (m / 256 % 256), .int .u8 (m / 65536 % 256), .int .u8 (m / 16777216 % 256)] 5)) := below_alloc (Below.refl _ w3)
  have HX4 := Lib.hid (And.intro (four_txt w3 m) (And.intro (HX3.out.1.up hb4) (HX3.out.2.up hb4)))
  have HB4 := Lib.hid (below_up HB3.out hb4)
  clear hb4
  generalize w3.alloc (.cells #[.int .u8 (m % 256), .int .u8 (m / 256 % 256), .int .u8 (m / 65536 % 256), .int .u8 (m / 16777216 % 256)] 5) = W4 at *
  obtain ⟨g3, hg3⟩ : ∃ n, n = w3.heap.size := ⟨_, rfl⟩
  rw [← hg3] at HX4
  rw [← hg3]
  clear hg3 HB3 HX3
  go_wp2_with fail
  have hb5 : Below W4.heap.size W4 (W4.alloc (.cells #[.slice (some ⟨g1, 0, none⟩) 4 4, .slice (some ⟨g3, 0, none⟩) 4 4, .slice X1 n1 c1] 37)) := below_alloc (Below.refl _ W4)
  refine (join3 W4.heap.size (some ⟨g1, 0, none⟩) (some ⟨g3, 0, none⟩) X1 (fourB (n1 : Int)) (fourB m) t 4 4 n1 4 4 c1 rfl rfl HT.out.1 (fourB_oct _) (fourB_oct _) HT.out.2.1 (by simp [fourB]) (by simp [fourB]) (by have := HT.out.1; omega) _ (Blk.new W4 37 _) (HX4.out.2.1.up hb5) (HX4.out.1.up hb5) (HX4.out.2.2.up hb5) (by simp [fourB])).mono ?_
  rintro e w5 ⟨⟨g5, k5, rfl, hF5⟩, hB5⟩
  have HB5 := Lib.hid (below_up (below_up HB4.out hb5) hB5)
  have hsz : w.heap.size ≤ (W4.alloc (.cells #[.slice (some ⟨g1, 0, none⟩) 4 4, .slice (some ⟨g3, 0, none⟩) 4 4, .slice X1 n1 c1] 37)).heap.size := (below_up HB4.out hb5).size
  have eW : fourB (n1 : Int) ++ fourB m ++ t = wrapB r := by
    unfold wrapB
    rw [HM.out.2, HT.out.1, HT.out.2.2.2]
  rw [eW] at hF5 ⊢
  have HF5 := Lib.hid (show Fresh w.heap.size w5 g5 (wrapB r) k5 from ⟨Nat.le_trans hsz hF5.le, hF5.lt, hF5.cap, hF5.top, hF5.cell, hF5.free⟩)
  clear hb5 hB5 hF5 hsz eW HX4 HB4 HM HT hm0 hm1
  go_wp2_with fail
  go_ret2
  exact ⟨⟨0, _, _, k5, rfl, HVV.out, fun e => absurd rfl e, fun _ => ⟨g5, rfl, rfl, HF5.out⟩⟩, HB5.out⟩
end Go.Proofs.Ytfdldbfjeamlcaa.LogWrap
/-! A range over a function whose iterator tells, of each thing that it yields, where it lies (a fact R of the thing and the world): the body is handed that fact. A law turned from the kit's law on iterators' loops. No conditions but those named. -/
namespace Go.Proofs.Ytfdldbfjeamlcaa.RangeGiven
open Go Go.RowKit Mem
set_option linter.unusedVariables false

variable {F : Fence} {n : Nat} {P : Program} {w : World}
/-- An iterator's contract: R is given at each yield. -/
def SeqR {α : Type} (F : Fence) (n : Nat) (P : Program) (g : Nat) (lb : Array Value) (encs : α → Array Value) (Kp : World → World → Prop) (R : α → World → Prop) (S Sp : List α → Prop) (w : World) : Prop :=
  ∀ (l : Nat) (J Jx : List α → World → Prop) (W : World), Below w.heap.size w W → AbidesFrom W.heap.size J → AbidesFrom W.heap.size Jx →
    (∀ pre x W1, J pre W1 → R x W1 → Sp (pre ++ [x]) → YieldAt F (n - 1) P l (encs x) W1 fun e W' =>
      (e = .returned (.bool true) ∧ J (pre ++ [x]) W' ∧ Kp W1 W') ∨ (e = .returned (.bool false) ∧ Jx (pre ++ [x]) W')) →
    J [] W →
    CallsIn F n P g (#[.func (.yield l) #[] #[]] ++ lb) W fun e W' => (∃ v, e = .returned v) ∧ ((∃ xs, S xs ∧ J xs W') ∨ (∃ pre, Sp pre ∧ Jx pre W'))

theorem range_given {α : Type} {g : Operand} {ps : Array Tmp} {assign body : Code} {Q : Exit → Act → World → Prop} {a : Act}
    (hro : F.round = none) (h1 : 1 ≤ n) {gf : Nat} {lb : Array Value} (hg : a.eval g = .func (.func gf) #[] lb) (hFg : F.fn gf) (eg : ∀ args w, (callFunc gf args).run P w = .ok (.enter gf args) w)
    {encs : α → Array Value} {Kp : World → World → Prop} {R : α → World → Prop} {S Sp : List α → Prop} {w0 : World} (hseq : SeqR F (n - 1) P gf lb encs Kp R S Sp w0)
    (hKt : ∀ {A B C : World}, Kp A B → Kp B C → Kp A C) (hKb : ∀ (W : World) (l : Nat) (o o' : Obj), w.heap.size ≤ l → W.heap[l]? = some o → o.isCells = false → o.isWalk = false → Kp W (W.putObj l o')) (hb0 : Below w0.heap.size w0 w) (hps : ∀ x, (encs x).size = ps.size)
    (I : List α → World → Prop) (Ix : Code → List α → World → Prop) (hI : OwnFrom w.heap.size I) (hIx : ∀ c, OwnFrom w.heap.size (Ix c)) (hR : OwnFrom w.heap.size R) (h0 : I [] w) (Ax : α → Act → World → Prop) (hAx : ∀ x a', OwnFrom w.heap.size (fun (_ : Unit) W => Ax x a' W))
    (hassign : ∀ (l : Nat) (pre : List α) (x : α) (W : World) (K : Act → World → Prop), I pre W → R x W → (∀ a' W', KeepsFrom w.heap.size W W' → Kp W W' → I pre W' → R x W' → Ax x a' W' → K a' W') →
      assign.wpIn (F.inRound l) (n - 1 - 1) P (Exit.then K (fun _ _ _ => False)) { tmps := (ps.zip (encs x)).foldl (fun t (p, v) => t.setIfInBounds p v) a.tmps, defers := [] } W)
    (hbody : ∀ (l : Nat) (pre : List α) (x : α) (a' : Act) (W : World), w.heap.size ≤ l → (∃ r, W.heap[l]? = some (.loop r)) → I pre W → R x W → Ax x a' W → Sp (pre ++ [x]) → body.wpIn (F.inRound l) (n - 1 - 1) P (ownPostG w.heap.size Kp I Ix (pre ++ [x]) W) a' W)
    (hdone : ∀ (D : Nat) (xs : List α) (W : World), w.heap.size ≤ D → S xs → I xs W → W.heap[D]? = some (.deferred (some [])) → Q .normal { a with defers := { target := .collected D, args := #[] } :: a.defers } W)
    (hstop : ∀ (D : Nat) (c : Code) (pre : List α) (W : World), w.heap.size ≤ D → Sp pre → Ix c pre W → W.heap[D]? = some (.deferred (some [])) → c.wpIn F n P Q { a with defers := { target := .collected D, args := #[] } :: a.defers } W) :
    (Code.rangeFunc g ps assign body).wpIn F n P Q a w := by
  refine wpIn_rangeFunc ?_
  intro fn hfn
  rw [hro]
  obtain ⟨q, hq⟩ : ∃ q : LoopState → Option Code → Loop, q = fun st pe => { state := st, pending := pe, fn, tmps := a.tmps, params := ps, assign, body, defers := w.heap.size } := ⟨_, rfl⟩
  obtain ⟨V, hV⟩ : ∃ V, (w.alloc (.deferred (some []))).alloc (.loop (q .ready none)) = V := ⟨_, rfl⟩
  have hVl : V.heap[w.heap.size + 1]? = some (.loop (q .ready none)) := by
    rw [← hV]; have := World.alloc_heap_new (w.alloc (.deferred (some []))) (.loop (q .ready none)); rwa [World.size_alloc] at this
  have hVd : V.heap[w.heap.size]? = some (.deferred (some [])) := by
    rw [← hV]; exact (Below.heap_alloc _ _ _ (by simp)).trans (World.alloc_heap_new w _)
  have hVI : I [] V := by rw [← hV]; exact hI.alloc _ (hI.alloc _ h0)
  have hVb : Below w0.heap.size w0 V := by
    rw [← hV]; exact hb0.trans ((((Below.refl _ w).alloc (Nat.le_refl _) _).alloc (by simp) _).mono hb0.size)
  have hVs : w.heap.size ≤ V.heap.size := by rw [← hV]; simp; omega
  refine ⟨w.heap.size + 1, [{ target := .collected w.heap.size, args := #[] }], V, { target := .fn (.func gf) lb, args := #[.func (.yield (w.heap.size + 1)) #[] #[]] }, V, gf,
    #[.func (.yield (w.heap.size + 1)) #[] #[]] ++ lb, V, ?_, ?_, ?_, ?_, fun _ => h1, ?_⟩
  · rw [← hV, hq]; exact run_enterLoop_outer _ _ _ _ _
  · simp only [resolve, hg]
    simp [go_sem]
  · intro f' hf'; simp [Target.leads] at hf'; subst hf'; exact hFg
  · simp [invoke, go_sem, eg]
  · have hrow : ∀ {A : World} {row : Option Nat}, (∀ r, row = some r → V.heap.size ≤ r ∧ ∃ o : Obj, A.heap[r]? = some o ∧ o.isWalk = true) → (∀ r, row = some r → w.heap.size ≤ r ∧ ∃ o : Obj, A.heap[r]? = some o ∧ o.isCells = false) :=
      fun hr r e => by obtain ⟨hB, o, ho, hw⟩ := hr r e; exact ⟨Nat.le_trans hVs hB, o, ho, Obj.not_cells_of_walk hw⟩
    refine (hseq (w.heap.size + 1)
      (fun pre W => I pre W ∧ W.heap[w.heap.size + 1]? = some (.loop (q .ready none)) ∧ W.heap[w.heap.size]? = some (.deferred (some [])))
      (fun pre W => ∃ c, Ix c pre W ∧ W.heap[w.heap.size + 1]? = some (.loop (q .done (some c))) ∧ W.heap[w.heap.size]? = some (.deferred (some [])))
      V hVb
      (fun s A B row hs hg' hr => ⟨hI s A B row hs.1 hg' (hrow hr), (grownBy_keeps hg' (fun r e => (hr r e).2) hs.2.1 rfl).trans hs.2.1, (grownBy_keeps hg' (fun r e => (hr r e).2) hs.2.2 rfl).trans hs.2.2⟩)
      (fun s A B row hs hg' hr => by
        obtain ⟨c, hc, hl, hk⟩ := hs
        exact ⟨c, hIx c s A B row hc hg' (hrow hr), (grownBy_keeps hg' (fun r e => (hr r e).2) hl rfl).trans hl, (grownBy_keeps hg' (fun r e => (hr r e).2) hk rfl).trans hk⟩)
      ?_ ⟨hVI, hVl, hVd⟩).mono ?_
    · rintro pre x W0 ⟨hi0, hl0, hk0⟩ hx0 hsp
      have hy := run_yield (P := P) (args := encs x) hl0 (by rw [hq]; exact hps x)
      rw [hq] at hy
      refine ⟨fn, _, assign, body, hy, roundIn_of_wpIn hfn (hassign _ pre x W0 _ hi0 hx0 ?_)⟩
      clear hy
      intro a' W hkf hkp hi hx hax
      have hl := hkf.same _ _ (by omega) hl0 rfl
      have hk := hkf.same _ _ (Nat.le_refl _) hk0 rfl
      have hlt : w.heap.size + 1 < W.heap.size := (Array.getElem?_eq_some_iff.1 hl).1
      obtain ⟨bz, hbz⟩ : ∃ bz, bz = Obj.loop { q .ready none with state := .busy } := ⟨_, rfl⟩
      refine ⟨_, run_beginRound hl (by rw [hq]), ?_⟩
      rw [← hbz]
      have hl2 : (W.putObj (w.heap.size + 1) bz).heap[w.heap.size + 1]? = some bz := World.putObj_heap_same hlt
      have hk2 : (W.putObj (w.heap.size + 1) bz).heap[w.heap.size]? = some (.deferred (some [])) := (World.putObj_heap_other (by omega)).trans hk
      have hw2 : Kp W (W.putObj (w.heap.size + 1) bz) := hKb _ _ _ _ (by omega) hl rfl rfl
      refine wpIn_mono (hbody _ pre x a' _ (by omega) ⟨_, by rw [hl2, hbz]⟩ (hI.putObj _ hi (by omega) hl rfl) (hR.putObj _ hx (by omega) hl rfl) ((hAx x a').putObj (s := ()) _ hax (by omega) hl rfl) hsp) ?_
      have fin : ∀ (jump : Option Code) (W3 : World), KeepsFrom w.heap.size (W.putObj (w.heap.size + 1) bz) W3 →
          (Instr.endRound (w.heap.size + 1) jump).run P W3 = .ok (.bool jump.isNone) (W3.putObj (w.heap.size + 1) (.loop (q (if jump.isNone then .ready else .done) jump))) ∧
          W3.heap[w.heap.size + 1]? = some bz ∧
          (W3.putObj (w.heap.size + 1) (.loop (q (if jump.isNone then .ready else .done) jump))).heap[w.heap.size + 1]? = some (.loop (q (if jump.isNone then .ready else .done) jump)) ∧
          (W3.putObj (w.heap.size + 1) (.loop (q (if jump.isNone then .ready else .done) jump))).heap[w.heap.size]? = some (.deferred (some [])) := fun jump W3 hk3 => by
        have hl3 := hk3.same _ _ (by omega) hl2 (by rw [hbz]; rfl)
        have hl3' := hl3
        rw [hbz] at hl3'
        have := run_endRound (P := P) jump hl3'
        rw [hq] at this ⊢
        exact ⟨this, hl3, World.putObj_heap_same (Array.getElem?_eq_some_iff.1 hl3).1, (World.putObj_heap_other (by omega)).trans (hk3.same _ _ (Nat.le_refl _) hk2 rfl)⟩
      have nc : bz.isCells = false := by rw [hbz]; rfl
      have nw : bz.isWalk = false := by rw [hbz]; rfl
      rintro e a3 W3 hp
      cases e with
      | normal =>
        obtain ⟨hk3, hkp3, hi3⟩ := hp
        obtain ⟨hr, hl3, hl4, hk4⟩ := fin none W3 hk3
        exact ⟨_, _, hr, .inl ⟨rfl, ⟨hI.putObj _ hi3 (by omega) hl3 nc, hl4, hk4⟩, hKt hkp (hKt (hKt hw2 hkp3) (hKb _ _ _ _ (by omega) hl3 nc nw))⟩⟩
      | ret =>
        obtain ⟨hk3, hi3⟩ := hp
        obtain ⟨hr, hl3, hl4, hk4⟩ := fin (some .ret) W3 hk3
        exact ⟨_, _, hr, .inr ⟨rfl, .ret, (hIx _).putObj _ hi3 (by omega) hl3 nc, hl4, hk4⟩⟩
      | exit id =>
        obtain ⟨hk3, hi3⟩ := hp
        obtain ⟨hr, hl3, hl4, hk4⟩ := fin (some (.exit id)) W3 hk3
        exact ⟨_, _, hr, .inr ⟨rfl, .exit id, (hIx _).putObj _ hi3 (by omega) hl3 nc, hl4, hk4⟩⟩
      | goto t =>
        obtain ⟨hk3, hi3⟩ := hp
        obtain ⟨hr, hl3, hl4, hk4⟩ := fin (some (.goto t)) W3 hk3
        exact ⟨_, _, hr, .inr ⟨rfl, .goto t, (hIx _).putObj _ hi3 (by omega) hl3 nc, hl4, hk4⟩⟩
      | panic ch => exact hp.elim
      | outgrown => exact hp.elim
    · rintro e W2 ⟨⟨v, rfl⟩, (⟨xs, hS, hi, hl, hk⟩ | ⟨pre, hSp, c, hi, hl, hk⟩)⟩
      · exact ⟨none, _, by have := run_endLoop (P := P) hl (by rw [hq]; simp); rw [hq] at this; exact this, hdone _ xs _ (Nat.le_refl _) hS (hI.putObj _ hi (by omega) hl rfl) ((World.putObj_heap_other (by omega)).trans hk)⟩
      · exact ⟨some c, _, by have := run_endLoop (P := P) hl (by rw [hq]; simp); rw [hq] at this; exact this, hstop _ c pre _ (Nat.le_refl _) hSp ((hIx c).putObj _ hi (by omega) hl rfl) ((World.putObj_heap_other (by omega)).trans hk)⟩
end Go.Proofs.Ytfdldbfjeamlcaa.RangeGiven
/-! The frames of bytes, in plain Lean; what an iterator gives of them; a call of a yield from outside of any fence; whole loads and stores inside a fence. No conditions but those named. -/
namespace Go.Proofs.Ytfdldbfjeamlcaa.LogFrm
open Go Go.RowKit MarkMath Mem RecMem RecByte RecNum RecEach RecMath RecCod RecVal RecSame RecWr0 RecRecC RecOwn RecRd RecRL0 RecRAsk RecRState RecRCmd RecRRec RecRead RecAt RecAll LogFour LogJoin LogWrap RangeGiven
set_option linter.unusedVariables false
set_option linter.unusedSimpArgs false

/-! The bytes. -/
theorem TxtAt.drop {w : World} {tb o : Nat} {t : Bs} (h : TxtAt w (some ⟨tb, o, none⟩) t) (m : Nat) : TxtAt w (some ⟨tb, o + m, none⟩) (t.drop m) := fun i x hi => by
  rw [List.getElem?_drop] at hi
  obtain ⟨tb', o', e, h1, h2⟩ := h (m + i) x hi
  cases e
  exact ⟨tb, o + m, rfl, h1, by rw [Nat.add_assoc]; exact h2⟩
theorem TxtAt.take {w : World} {X : Option Addr} {t : Bs} (h : TxtAt w X t) (m : Nat) : TxtAt w X (t.take m) := fun i x hi => by
  rw [List.getElem?_take] at hi
  split at hi
  · exact h i x hi
  · cases hi
theorem Oct.drop {t : Bs} (h : Oct t) (m : Nat) : Oct (t.drop m) := fun b hb => h b (List.mem_of_mem_drop hb)
theorem Oct.take {t : Bs} (h : Oct t) (m : Nat) : Oct (t.take m) := fun b hb => h b (List.mem_of_mem_take hb)
/-- The number of the first four bytes. -/
def num4 : Bs → Int
  | a :: b :: d :: f :: _ => numb a b d f
  | _ => 0
theorem four_of : ∀ {t : Bs}, 4 ≤ t.length → ∃ a b d f u, t = a :: b :: d :: f :: u
  | a :: b :: d :: f :: u, _ => ⟨a, b, d, f, u, rfl⟩
  | [], h => by simp at h
  | [_], h => by simp at h
  | [_, _], h => by simp at h
  | [_, _, _], h => by simp at h
theorem num4_in {t : Bs} (ho : Oct t) : 0 ≤ num4 t ∧ num4 t < 4294967296 := by
  unfold num4
  split
  · rename_i a b d f u
    have h1 := ho a (by simp)
    have h2 := ho b (by simp)
    have h3 := ho d (by simp)
    have h4 := ho f (by simp)
    unfold numb
    omega
  · omega
theorem num4_any (X : Option Addr) (t : Bs) (n c : Nat) (hn : n = t.length) (h4 : 4 ≤ t.length) (ho : Oct t) (hl : t.length ≤ 9223372036854775807) (w : World) (hX : TxtAt w X t) :
    Calls Try.prog 100 #[.slice X n c] w fun e w' => e = .returned (.int .u32 (num4 t)) ∧ Below w.heap.size w w' := by
  obtain ⟨a, b, d, f, u, ht⟩ := four_of h4
  subst hn
  have h := number_any X t c a b d f u ht ho hl w hX
  rw [ht] at h ⊢
  exact h

/-! The frames. -/
def frT (t : Bs) (k : Nat) : Bs := (t.drop (k + 8)).take (num4 (t.drop k)).toNat
def frOk (t : Bs) (k : Nat) : Prop := (readV (frT t k)).2 = 0 ∧ mk 0 (frT t k) = num4 (t.drop (k + 4))
instance (t : Bs) (k : Nat) : Decidable (frOk t k) := inferInstanceAs (Decidable (_ ∧ _))
def fr (t : Bs) : Nat → Nat → List (Int × RV)
  | 0, _ => []
  | f + 1, k => if t.length < k + 8 then [] else if 65536 < num4 (t.drop k) then [(-1, RV.z)] else if (t.length : Int) < (k : Int) + 8 + num4 (t.drop k) then [] else
    if frOk t k then ((k : Int) + 8 + num4 (t.drop k), (readV (frT t k)).1) :: fr t f (k + 8 + (num4 (t.drop k)).toNat) else [(-1, RV.z)]
theorem fr_end {t : Bs} {f k : Nat} (h : t.length < k + 8) : fr t (f + 1) k = [] := by unfold fr; rw [if_pos h]
theorem fr_big {t : Bs} {f k : Nat} (h : ¬ t.length < k + 8) (h1 : 65536 < num4 (t.drop k)) : fr t (f + 1) k = [(-1, RV.z)] := by unfold fr; rw [if_neg h, if_pos h1]
theorem fr_cut {t : Bs} {f k : Nat} (h : ¬ t.length < k + 8) (h1 : ¬ 65536 < num4 (t.drop k)) (h2 : (t.length : Int) < (k : Int) + 8 + num4 (t.drop k)) : fr t (f + 1) k = [] := by unfold fr; rw [if_neg h, if_neg h1, if_pos h2]
theorem fr_bad {t : Bs} {f k : Nat} (h : ¬ t.length < k + 8) (h1 : ¬ 65536 < num4 (t.drop k)) (h2 : ¬ (t.length : Int) < (k : Int) + 8 + num4 (t.drop k)) (h3 : ¬ frOk t k) : fr t (f + 1) k = [(-1, RV.z)] := by unfold fr; rw [if_neg h, if_neg h1, if_neg h2, if_neg h3]
theorem fr_ok {t : Bs} {f k : Nat} (h : ¬ t.length < k + 8) (h1 : ¬ 65536 < num4 (t.drop k)) (h2 : ¬ (t.length : Int) < (k : Int) + 8 + num4 (t.drop k)) (h3 : frOk t k) :
    fr t (f + 1) k = ((k : Int) + 8 + num4 (t.drop k), (readV (frT t k)).1) :: fr t f (k + 8 + (num4 (t.drop k)).toNat) := by conv => lhs; unfold fr; rw [if_neg h, if_neg h1, if_neg h2, if_pos h3]

/-! What an iterator gives: where the frame ends, and the record where it lies. -/
structure FE where
  e : Int
  r : RV
  x : SA
  Y : Option Addr
  cy : Nat
def FE.key (a : FE) : Int × RV := (a.e, a.r)
def FE.enc (a : FE) : Array Value := #[.int .i64 a.e, .agg (rL a.r a.x a.Y a.cy).toArray]
def FE.R (F : Nat) (a : FE) (w : World) : Prop := recR.At w F a.r (rL a.r a.x a.Y a.cy)
def FE.bad : FE := ⟨-1, RV.z, SA.z, none, 0⟩
theorem FE.bad_at {F : Nat} {w : World} : FE.bad.R F w := recR_nil
/-! What was read stays where rows of records turn. -/
theorem keepN_list {α : Type} {R : Rep α} {e e0 : TypeId} (he : e0 ≠ e) (hR : KeepN e R) : KeepN e (listR R e0) := by
  rintro w w' F l vs ⟨V, c, xs, rfl, h1, h2⟩ hk
  exact ⟨V, c, xs, rfl, ownsRow_agree h1 (fun g cur hg hh => hk g cur e0 he hg hh), fun i x hi => hR _ _ _ _ _ (h2 i x hi) hk⟩
theorem keepN_state {e : TypeId} (h1 : CLT ≠ e) (h2 : JBT ≠ e) (h3 : PAT ≠ e) (h4 : KET ≠ e) (h5 : INT ≠ e) : KeepN e stateR := keepN_iso (keepN_pair (keepN_pair (keepN_pair (keepN_pair (keepN_pair (keepN_pair (keepN_pair (keepN_pair (keepN_pair (keepN_pair (keepN_pair (keepN_pair (keepN_pair keepN_flat keepN_num) keepN_num) keepN_num) keepN_num) (keepN_list h1 keepN_flat)) keepN_num) keepN_num) (keepN_list h2 (keepN_job h5))) (keepN_list h3 keepN_flat)) (keepN_list h4 keepN_flat)) (keepN_ints h5)) (keepN_ints h5)) (keepN_ints h5))
theorem keepN_rec {e : TypeId} (h1 : CLT ≠ e) (h2 : JBT ≠ e) (h3 : PAT ≠ e) (h4 : KET ≠ e) (h5 : INT ≠ e) : KeepN e recR := by
  rintro w w' F r vs ⟨s, c, rfl, h, Y, cy, rfl, k⟩ hk
  exact ⟨s, _, rfl, keepN_state h1 h2 h3 h4 h5 _ _ _ _ _ h hk, Y, cy, rfl, keepN_ints h5 _ _ _ _ _ k hk⟩
abbrev RECT : TypeId := 51
/-- Records of one's own. -/
abbrev recsR : Rep (List RV) := listR recR RECT
theorem keep_row : KeepN RECT recR := keepN_rec (by decide) (by decide) (by decide) (by decide) (by decide)
theorem keep_none : KeepN 1000000 recR := keepN_rec (by decide) (by decide) (by decide) (by decide) (by decide)
theorem keeps_none : KeepN 1000000 recsR := keepN_list (by decide) keep_none
/-- A step that turns at most one block, and no cells. -/
theorem at_grown {α : Type} {R : Rep α} (hR : KeepN 1000000 R) {w w' : World} {F : Nat} {x : α} {vs : List Value} (h : R.At w F x vs) {row : Option Nat} (hg : w.grownBy w' row) (hr : ∀ r, row = some r → ∃ o : Obj, w.heap[r]? = some o ∧ o.isCells = false) : R.At w' F x vs :=
  hR _ _ _ _ _ h fun k cs e' _ _ hh => hg.block k (Array.getElem?_eq_some_iff.1 hh).1 fun e => by
    obtain ⟨o, ho, hc⟩ := hr k e.symm
    rw [hh] at ho
    injection ho with ho
    subst ho
    cases hc
theorem at_below {α : Type} {R : Rep α} {w w' : World} {F : Nat} {x : α} {vs : List Value} (h : R.At w F x vs) (hB : Below w.heap.size w w') : R.At w' F x vs := R.keep h (fun k _ hl => hB.block k hl) hB.size
def keys (l : List FE) : List (Int × RV) := l.map FE.key
theorem keys_snoc (l : List FE) (a : FE) : keys (l ++ [a]) = keys l ++ [a.key] := by simp [keys]

/-- A step that leaves all blocks is one that grows. -/
theorem grown_of_below {w w' : World} (h : Below w.heap.size w w') : w.grownBy w' none := ⟨h.os, h.tape, h.output, h.size, fun k hk _ => h.block k hk⟩
theorem abides_below {β : Type} {B : Nat} {J : β → World → Prop} (h : AbidesFrom B J) {s : β} {w w' : World} (hs : J s w) (hb : Below w.heap.size w w') : J s w' := h s w w' none hs (grown_of_below hb) (fun r e => by cases e)

/-- All blocks below n0 stay, and block Bp. -/
structure Kpt (n0 Bp : Nat) (w w' : World) : Prop where
  b : Below n0 w w'
  e : w'.heap[Bp]? = w.heap[Bp]?
  lo : n0 ≤ w.heap.size
  hb : Bp < w.heap.size
theorem Kpt.trans {n0 Bp : Nat} {a b c : World} (h : Kpt n0 Bp a b) (k : Kpt n0 Bp b c) : Kpt n0 Bp a c := ⟨h.b.trans k.b, k.e.trans h.e, h.lo, h.hb⟩
theorem Kpt.up {n0 Bp : Nat} {a b c : World} (h : Kpt n0 Bp a b) (k : Below b.heap.size b c) : Kpt n0 Bp a c := h.trans ⟨k.mono (Nat.le_trans h.lo h.b.size), k.block Bp (Nat.lt_of_lt_of_le h.hb h.b.size), Nat.le_trans h.lo h.b.size, Nat.lt_of_lt_of_le h.hb h.b.size⟩
theorem Kpt.of {n0 Bp : Nat} {a b : World} (lo : n0 ≤ a.heap.size) (hb : Bp < a.heap.size) (k : Below a.heap.size a b) : Kpt n0 Bp a b := ⟨k.mono lo, k.block Bp hb, lo, hb⟩
theorem Kpt.cell {n0 Bp : Nat} {a b : World} (h : Kpt n0 Bp a b) : b.cell? ⟨Bp, 0, none⟩ = a.cell? ⟨Bp, 0, none⟩ := by simp only [World.cell?, h.e]

/-! Whole structs inside a fence. -/
variable {F : Fence} {nF : Nat} {P : Program}
theorem wpListIn_load_mid {ops : Array Oper} {rest : List Oper} {op : Oper} {a : Act} {w : World} {Q : Exit → Act → World → Prop} (hgd : op.guard = none) (ty : TypeId) (x : Operand) (ho : op.op = .load ty x)
    (b o : Nat) (hx : a.eval x = .pointer (some ⟨b, o, none⟩)) (cs : List Value) (d : TypeDesc) (hc : w.rangeAt b o cs)
    (hu : P.underlying ty = some d) (hd : d.isRow = true) (hi : (P.info? ty).map (·.size) = some cs.length)
    (h : wpListIn F nF P ops Q rest (a.put op.dst (.agg cs.toArray)) w) : wpListIn F nF P ops Q (op :: rest) a w := by
  refine wpListIn_plain hgd fun K hK => ?_
  unfold Oper.wpIn
  refine ⟨by simp [Oper.about, ho], ?_⟩
  rw [Oper.semAt_plain F _ _ (by rw [ho]; intro c hc'; cases hc')]
  unfold execOp
  simp only [ho, hx, Instr.loadAt, Instr.sureAddr, Sem.run_bind, Sem.run_pure, Result.andThen_ok, run_loadVar_mid w b o ty cs d hc hu hd hi]
  exact hK _ _ h
theorem wpListIn_store_mid {ops : Array Oper} {rest : List Oper} {op : Oper} {a : Act} {w : World} {Q : Exit → Act → World → Prop} (hgd : op.guard = none) (ty : TypeId) (x y : Operand) (ho : op.op = .store ty x y)
    (b o : Nat) (cells : Array Value) (hx : a.eval x = .pointer (some ⟨b, o, none⟩)) (hy : a.eval y = .agg cells)
    (ht : w.there b o cells.size) (hi : (P.info? ty).map (·.size) = some cells.size) (h1 : cells.all (·.oneCell') = true)
    (h : wpListIn F nF P ops Q rest (a.put op.dst undef) (w.setCells b o cells.toList)) : wpListIn F nF P ops Q (op :: rest) a w := by
  refine wpListIn_plain hgd fun K hK => ?_
  unfold Oper.wpIn
  refine ⟨by simp [Oper.about, ho], ?_⟩
  rw [Oper.semAt_plain F _ _ (by rw [ho]; intro c hc'; cases hc')]
  unfold execOp
  simp only [ho, hx, hy, Instr.storeAt, Instr.sureAddr, Sem.run_bind, Sem.run_pure, Result.andThen_ok, run_storeVar_mid w b o ty cells ht hi h1]
  exact hK _ _ h
end Go.Proofs.Ytfdldbfjeamlcaa.LogFrm
/-! log.frames' iterator: every frame, in order. No conditions but those named. -/
namespace Go.Proofs.Ytfdldbfjeamlcaa.LogFrames
open Go Go.RowKit Go.Sort MarkMath Mem RecMem RecByte RecNum RecMath RecCod RecVal RecSame RecWr0 RecRecC RecRd RecRead RecRRec RecAt RecAll LogFour LogJoin LogWrap RangeGiven LogFrm RecOwn RecCmdJ
set_option linter.unusedVariables false
set_option linter.unusedSimpArgs false

/-- Behind some frames. -/
structure FrAt (t : Bs) (n0 Bp : Nat) (w0 : World) (J : List FE → World → Prop) (k f : Nat) (pre : List FE) (wr : World) : Prop where
  fu : t.length < k + f
  eq : keys pre ++ fr t f k = fr t (t.length + 1) 0
  j : J pre wr
  b : Kpt n0 Bp w0 wr
theorem read_at (X : Option Addr) (t : Bs) (n c : Nat) (hn : n = t.length) (w : World) (hX : TxtAt w X t) (ho : Oct t) (hc : n ≤ c) (hm : c ≤ maxLen) :
    Calls Try.prog 19 #[.slice X n c] w fun e w' => (∃ x Y cy, e = .returned (.tuple #[.agg (rL (readV t).1 x Y cy).toArray, .int .i64 (readV t).2]) ∧ recR.At w' w.heap.size (readV t).1 (rL (readV t).1 x Y cy)) ∧ Below w.heap.size w w' := by
  subst hn
  refine (rread X t c w hX ho hc hm).mono ?_
  rintro e w' ⟨vs, rfl, hR, hB⟩
  obtain ⟨x, Y, cy, rfl, _⟩ := rec_at hR
  exact ⟨⟨x, Y, cy, rfl, hR⟩, hB⟩
theorem ok_v {t : Bs} {k : Nat} {v m1 m2 : Int} (h0 : v = 0) (hv : v = (readV (frT t k)).2) (h1 : m1 = mk 0 (frT t k)) (h2 : m2 = num4 (t.drop (k + 4))) : (m1 != m2) = !decide (frOk t k) := by
  by_cases h : frOk t k
  · have h3 := h.2
    rw [← h1, ← h2] at h3
    rw [decide_eq_true h, h3]
    simp
  · have h3 : m1 ≠ m2 := fun e => h ⟨by rw [← hv]; exact h0, by rw [← h1, ← h2]; exact e⟩
    rw [decide_eq_false h]
    simpa using h3
set_option maxRecDepth 100000 in
set_option maxHeartbeats 6000000 in
theorem frames1_any (l Bp : Nat) (X : Option Addr) (c : Nat) (t : Bs) (ho : Oct t) (hc : t.length ≤ c) (hm : c ≤ maxLen) (hl : t.length ≤ 4611686018427387904) (wS w0 : World) (hS : Below wS.heap.size wS w0) (hBp : Bp < w0.heap.size) (hbx : w0.cell? ⟨Bp, 0, none⟩ = some (.slice X t.length c)) (hX : TxtAt wS X t)
    (J Jx : List FE → World → Prop) (W : World) (hW : Below w0.heap.size w0 W) (hJ : AbidesFrom W.heap.size J)
    (hY : ∀ pre x W1, J pre W1 → x.R w0.heap.size W1 → keys (pre ++ [x]) <+: fr t (t.length + 1) 0 → YieldAt Fence.wide 3 Try.prog l x.enc W1 fun e W' =>
      (e = .returned (.bool true) ∧ J (pre ++ [x]) W' ∧ Kpt wS.heap.size Bp W1 W') ∨ (e = .returned (.bool false) ∧ Jx (pre ++ [x]) W'))
    (h0 : J [] W) :
    Calls Try.prog 99 #[.func (.yield l) #[] #[], .pointer (some ⟨Bp, 0, none⟩)] W fun e W' => (∃ v, e = .returned v) ∧
      ((∃ xs, keys xs = fr t (t.length + 1) 0 ∧ J xs W') ∨ (∃ pre, keys pre <+: fr t (t.length + 1) 0 ∧ Jx pre W')) := by
  have HY := Lib.hid hY
  have HX := Lib.hid (And.intro hX ho)
  have HJ := Lib.hid hJ
  have HBX := Lib.hid (And.intro hBp hbx)
  have hm2 := hm
  simp only [maxLen] at hm2
  have hcm : c ≤ 9223372036854775807 := by omega
  have H0 := Lib.hid (show FrAt t wS.heap.size Bp w0 J 0 (t.length + 1) [] W from ⟨by omega, rfl, h0, Kpt.of hS.size hBp hW⟩)
  have HS := Lib.hid hS
  have HM := Lib.hid hm
  clear hY hX ho hJ hm2 hbx hBp h0 hW hm hS
  go_enter Try.func99, Try.ntmps99
  go_wp2_with fail
  go_loopw [3] (fun i wr => ∃ (k f : Nat) (pre : List FE), k ≤ t.length ∧ i = .int .i64 k ∧ Hid (FrAt t wS.heap.size Bp w0 J k f pre wr)) (fun i _ => t.length - (intOf i).toNat)
  case atStart => exact ⟨0, _, _, Nat.zero_le _, rfl, H0.out⟩
  case round =>
    clear H0
    obtain ⟨k, f, pre, hk, rfl, HL⟩ := hrel
    obtain ⟨f, rfl⟩ : ∃ g, f = g + 1 := ⟨f - 1, by have := HL.out.fu; omega⟩
    have hcl : wr.cell? ⟨Bp, 0, none⟩ = some (.slice X t.length c) := HL.out.b.cell.trans HBX.out.2
    by_cases h8 : t.length < k + 8
    · have h8i : ¬ (8 : Int) ≤ (t.length : Int) - (k : Int) := by omega
      go_wp2_with fail
      go_end0
      exact ⟨⟨_, rfl⟩, .inl ⟨pre, by have := HL.out.eq; rw [fr_end h8, List.append_nil] at this; exact this, HL.out.j⟩⟩
    have h8i : (8 : Int) ≤ (t.length : Int) - (k : Int) := by omega
    obtain ⟨tb, o, hXe, htb, hrr⟩ := HX.out.1 0 (t[0]'(by omega)) (List.getElem?_eq_getElem _)
    clear hrr htb
    subst hXe
    have hck : ¬ c = k := by omega
    have hki : ¬ (c : Int) = (k : Int) := by omega
    have HT := Lib.hid (HX.out.1.up (HS.out.trans HL.out.b.b))
    go_wp2_with fail
    have hdl : (t.drop k).length = t.length - k := List.length_drop
    refine (num4_any (some ⟨tb, o + k, none⟩) (t.drop k) (t.length - k) (c - k) hdl.symm (by omega) (Oct.drop HX.out.2 k) (by omega) wr (TxtAt.drop HT.out k)).mono ?_
    rintro e w1 ⟨rfl, hB1⟩
    have HB1 := Lib.hid hB1
    have HN := Lib.hid (num4_in (Oct.drop HX.out.2 k))
    obtain ⟨m, hm⟩ : ∃ m : Nat, (m : Int) = num4 (t.drop k) := ⟨(num4 (t.drop k)).toNat, Int.toNat_of_nonneg HN.out.1⟩
    have hm32 : (m : Int) < 4294967296 := by rw [hm]; exact HN.out.2
    rw [← hm]
    have HM2 := Lib.hid hm
    have hcl1 : w1.cell? ⟨Bp, 0, none⟩ = some (.slice (some ⟨tb, o, none⟩) t.length c) := keep_cell hcl hB1
    have HJ1 := Lib.hid (abides_below HJ.out HL.out.j hB1)
    clear hm hB1 hcl
    by_cases hbig : 65536 < m
    · have hbi : (65536 : Int) < (m : Int) := by omega
      have hfull := Lib.hid (show fr t (t.length + 1) 0 = keys (pre ++ [FE.bad]) by have := HL.out.eq; rw [fr_big h8 (by rw [← HM2.out]; exact hbi)] at this; rw [← this, keys_snoc]; rfl)
      obtain ⟨fn, tmps, assign, body, hy, hR⟩ := HY.out pre FE.bad w1 HJ1.out FE.bad_at (by rw [hfull.out]; exact List.prefix_refl _)
      have HR := Lib.hid hR
      have hy2 : (Instr.yield l #[.int .i64 (-1), .agg #[.int .i64 0, .int .i64 0, .int .i64 0, .int .i64 0, .int .i64 0, .int .i64 0, .int .i64 0, .int .i64 0, .slice none 0 0, .int .i64 0, .int .i64 0, .slice none 0 0, .slice none 0 0, .slice none 0 0, .slice none 0 0, .slice none 0 0, .slice none 0 0, .int .u8 0, .int .i64 0, .int .i64 0, .int .i64 0, .int .i64 0, .int .i64 0, .int .i64 0, .bool false, .bool false, .bool false, .bool false, .int .i64 0, .int .i64 0, .bool false, .slice none 0 0, .int .u8 0, .int .i64 0, .int .i64 0, .int .i64 0, .int .i64 0, .int .i64 0, .int .i64 0, .int .i64 0, .int .i64 0, .int .i64 0, .int .i64 0, .int .i64 0, .bool false]]).run Try.prog w1 = .ok (.round l fn tmps assign body) w1 := hy
      clear hR hy
      go_upto_region 4 with fail
      refine (wpIn_wide (n := 4)).1 ?_
      gi_wp2
      refine HR.out.mono ?_
      rintro e W3 (⟨rfl, hJ3, hk3⟩ | ⟨rfl, hJx3⟩)
      · have HJ3 := Lib.hid hJ3
        clear hJ3
        gi_wp2
        go_wp2_with fail
        refine bodyPost_ret (results_none rfl _ _ _) rfl ?_
        exact ⟨⟨_, rfl⟩, .inl ⟨_, hfull.out.symm, HJ3.out⟩⟩
      · have HJ3 := Lib.hid hJx3
        clear hJx3
        gi_wp2
        go_wp2_with fail
        refine bodyPost_ret (results_none rfl _ _ _) rfl ?_
        exact ⟨⟨_, rfl⟩, .inr ⟨_, by rw [hfull.out]; exact List.prefix_refl _, HJ3.out⟩⟩
    have hbi : ¬ (65536 : Int) < (m : Int) := by omega
    have HBI := Lib.hid hbi
    have hbi2 : decide ((65536 : Int) < (m : Int)) = false := decide_eq_false hbi
    clear hbig hbi
    by_cases hcut : t.length < k + 8 + m
    · have hcu : (t.length : Int) < (k : Int) + 8 + (m : Int) := by omega
      have HCU := Lib.hid hcu
      have hcu2 : decide ((t.length : Int) < (k : Int) + 8 + (m : Int)) = true := decide_eq_true hcu
      clear hdl hcu hcut
      go_wp2_with fail
      refine bodyPost_ret (results_none rfl _ _ _) rfl ?_
      exact ⟨⟨_, rfl⟩, .inl ⟨pre, by have := HL.out.eq; rw [fr_cut h8 (by rw [← HM2.out]; have := HBI.out; omega) (by rw [← HM2.out]; exact HCU.out), List.append_nil] at this; exact this, HJ1.out⟩⟩
    have hcu : ¬ (t.length : Int) < (k : Int) + 8 + (m : Int) := by omega
    have HCU := Lib.hid (And.intro hcut hcu)
    have hcu2 : decide ((t.length : Int) < (k : Int) + 8 + (m : Int)) = false := decide_eq_false hcu
    clear hcut hcu
    go_upto_region 7 with fail
    have hfl : (frT t k).length = m := by unfold frT; rw [List.length_take, List.length_drop, ← HM2.out]; have := HCU.out.1; omega
    have HT1 := Lib.hid (HT.out.up HB1.out)
    have HCX := Lib.hid (show m + (k + 8) ≤ t.length from by have := HCU.out.1; omega)
    go_cut [6] from 9 to 63 (fun s6 wx => ∃ (Z : Option Addr) (cz : Nat), s6 = .slice Z m cz ∧ m ≤ cz ∧ cz ≤ c ∧ TxtAt wx Z (frT t k) ∧ wx.cell? ⟨Bp, 0, none⟩ = some (.slice (some ⟨tb, o, none⟩) t.length c) ∧ TxtAt wx (some ⟨tb, o, none⟩) t ∧ J pre wx ∧ Kpt wS.heap.size Bp w0 wx)
    case first =>
      have HF0 := Lib.hid (show J pre w1 ∧ Kpt wS.heap.size Bp w0 w1 from ⟨HJ1.out, HL.out.b.up HB1.out⟩)
      have HFL := Lib.hid (And.intro hfl hc)
      have hcB : (k : Int) + 8 + (m : Int) ≤ (c : Int) := by have := HCX.out; omega
      by_cases hk8 : c = k + 8
      · have hki8 : (c : Int) = (k : Int) + 8 := by omega
        have HK8 := Lib.hid hk8
        clear hk8 hdl hck hki hbi2 hcu2 h8 h8i hk hm32 hc hl hki8 hfl
        go_wp2_with fail
        go_meet
        refine ⟨_, 0, rfl, by have := HCX.out; have := HFL.out.2; have := HK8.out; omega, Nat.zero_le _, ?_, hcl1, HT1.out, HF0.out.1, HF0.out.2⟩
        intro i x hi
        have := (List.getElem?_eq_some_iff.1 hi).1
        have := HCX.out; have := HFL.out; have := HK8.out
        omega
      · have hki8 : ¬ (c : Int) = (k : Int) + 8 := by omega
        have HK8 := Lib.hid hk8
        clear hdl hck hki hbi2 hcu2 h8 h8i hk hm32 hc hl hki8 hfl
        go_wp2_with fail
        go_meet
        exact ⟨_, c - (k + 8), rfl, by have := HCX.out; have := HFL.out.2; omega, Nat.sub_le _ _, TxtAt.take (TxtAt.drop HT1.out (k + 8)) _, hcl1, HT1.out, HF0.out.1, HF0.out.2⟩
    case rest =>
      clear HT HT1 HB1 HJ1 hcl1
      obtain ⟨Z, cz, rfl, hnc, hcz, hZ, hcl2, hT2, hJ2, hB2⟩ := hcut
      have HW2 := Lib.hid (And.intro hZ (And.intro hT2 (And.intro hJ2 (And.intro hB2 (And.intro hnc (And.intro hcz (And.intro hfl hc)))))))
      have HKK := Lib.hid (And.intro h8 (And.intro hk hl))
      clear hZ hT2 hJ2 hB2 hnc hcz hfl hc h8 hk hl hdl hck hki hbi2 hcu2 h8i hm32
      go_wp2_with fail
      refine (read_at Z (frT t k) m cz HW2.out.2.2.2.2.2.2.1.symm wc HW2.out.1 (Oct.take (Oct.drop HX.out.2 _) _) HW2.out.2.2.2.2.1 (Nat.le_trans HW2.out.2.2.2.2.2.1 HM.out)).mono ?_
      rintro e w2 ⟨⟨x, Y, cy, rfl, hI⟩, hB⟩
      have hI := recR.mono hI HW2.out.2.2.2.1.b.size
      obtain ⟨q, hq⟩ : ∃ q, q = (readV (frT t k)).1 := ⟨_, rfl⟩
      obtain ⟨v, hv⟩ : ∃ v, v = (readV (frT t k)).2 := ⟨_, rfl⟩
      rw [← hq] at hI
      rw [← hq, ← hv]
      have HQ := Lib.hid (And.intro hq hv)
      have HB := Lib.hid hB
      have HI := Lib.hid hI
      have x5 := box_full (W := w2) 51 #[.int .i64 0, .int .i64 0, .int .i64 0, .int .i64 0, .int .i64 0, .int .i64 0, .int .i64 0, .int .i64 0, .slice none 0 0, .int .i64 0, .int .i64 0, .slice none 0 0, .slice none 0 0, .slice none 0 0, .slice none 0 0, .slice none 0 0, .slice none 0 0, .int .u8 0, .int .i64 0, .int .i64 0, .int .i64 0, .int .i64 0, .int .i64 0, .int .i64 0, .bool false, .bool false, .bool false, .bool false, .int .i64 0, .int .i64 0, .bool false, .slice none 0 0, .int .u8 0, .int .i64 0, .int .i64 0, .int .i64 0, .int .i64 0, .int .i64 0, .int .i64 0, .int .i64 0, .int .i64 0, .int .i64 0, .int .i64 0, .int .i64 0, .bool false] (vs := rL q x Y cy) rfl
      clear hq hv hB hI
      go_upto_region 9 with (first | (refine wpList_store_mid rfl 51 _ _ rfl w2.heap.size 0 (rL q x Y cy).toArray rfl rfl (there_of (Blk.new w2 51 #[.int .i64 0, .int .i64 0, .int .i64 0, .int .i64 0, .int .i64 0, .int .i64 0, .int .i64 0, .int .i64 0, .slice none 0 0, .int .i64 0, .int .i64 0, .slice none 0 0, .slice none 0 0, .slice none 0 0, .slice none 0 0, .slice none 0 0, .slice none 0 0, .int .u8 0, .int .i64 0, .int .i64 0, .int .i64 0, .int .i64 0, .int .i64 0, .int .i64 0, .bool false, .bool false, .bool false, .bool false, .int .i64 0, .int .i64 0, .bool false, .slice none 0 0, .int .u8 0, .int .i64 0, .int .i64 0, .int .i64 0, .int .i64 0, .int .i64 0, .int .i64 0, .int .i64 0, .int .i64 0, .int .i64 0, .int .i64 0, .int .i64 0, .bool false]) (Nat.le_of_ble_eq_true rfl)) (by kernel_rfl) (by kernel_rfl) ?_; simp only [List.toList_toArray]; generalize World.setCells _ _ _ _ = W5 at *; (try simp only [Act.put])))
      have HB5 := Lib.hid (below_up HB.out x5.2)
      have KB := Lib.hid (And.intro x5.1 (at_below HI.out x5.2))
      obtain ⟨g5, hg5⟩ : ∃ n, n = w2.heap.size := ⟨_, rfl⟩
      rw [← hg5] at KB
      rw [← hg5]
      have hcl5 : W5.cell? ⟨Bp, 0, none⟩ = some (.slice (some ⟨tb, o, none⟩) t.length c) := keep_cell hcl2 HB5.out
      have H5 := Lib.hid (And.intro (HW2.out.1.up HB5.out) (And.intro (HW2.out.2.1.up HB5.out) (And.intro (abides_below HJ.out HW2.out.2.2.1 HB5.out) (HW2.out.2.2.2.1.up HB5.out))))
      clear x5 HI HB hg5 hcl2
      obtain ⟨m1, hm1⟩ : ∃ n, n = mk 0 (frT t k) := ⟨_, rfl⟩
      obtain ⟨m2, hm2⟩ : ∃ n, n = num4 (t.drop (k + 4)) := ⟨_, rfl⟩
      have HMK := Lib.hid (And.intro hm1 hm2)
      clear hm1 hm2
      go_cut [54] from 9 to 63 (fun s54 wx => s54 = .bool (!decide (frOk t k)) ∧ Below W5.heap.size W5 wx)
      case first =>
        by_cases hv0 : v = 0
        · have hv1 : (v != 0) = false := by simpa using hv0
          have HV0 := Lib.hid hv0
          clear hv0
          have HOF := Lib.hid (show Calls Try.prog 68 #[.slice (some ⟨W5.heap.size, 0, none⟩) 1 1] (W5.drew.alloc (.cells #[.slice Z m cz] 37)) fun e w' => e = .returned (.int .u32 m1) ∧ Below W5.heap.size W5 w' from by
            have h := of_txt Z m cz (frT t k) HW2.out.2.2.2.2.2.2.1.symm (Oct.take (Oct.drop HX.out.2 _) _) (by have := HW2.out.2.2.2.2.2.2.1; have := HBI.out; omega) W5.drew 37 (H5.out.1.up (Below.refl _ W5).drew)
            rw [← HMK.out.1] at h
            exact h.mono fun e w' q => ⟨q.1, (Below.drew (Below.refl _ W5)).trans q.2⟩)
          have HNU := Lib.hid (show ∀ W : World, Below W5.heap.size W5 W → Calls Try.prog 100 #[.slice (some ⟨tb, o + (k + 4), none⟩) (t.length - (k + 4)) (c - (k + 4))] W fun e w' => e = .returned (.int .u32 m2) ∧ Below W.heap.size W w' from fun W hW => by
            have h := num4_any (some ⟨tb, o + (k + 4), none⟩) (t.drop (k + 4)) (t.length - (k + 4)) (c - (k + 4)) List.length_drop.symm (by rw [List.length_drop]; have := HKK.out.1; omega) (Oct.drop HX.out.2 _) (by rw [List.length_drop]; have := HKK.out.2.2; omega) W (TxtAt.drop (H5.out.2.1.up hW) (k + 4))
            rw [← HMK.out.2] at h
            exact h)
          have K0 : KeptL W5 [(⟨Bp, 0, none⟩, .slice (some ⟨tb, o, none⟩) t.length c)] W5.drew := KeptL.drew ⟨Below.refl _ _, hcl5⟩
          have K00 : KeptL W5 [(⟨Bp, 0, none⟩, .slice (some ⟨tb, o, none⟩) t.length c)] W5 := ⟨Below.refl _ _, hcl5⟩
          have hk4a : (k : Int) + 4 ≤ (t.length : Int) := by have := HKK.out.1; omega
          have s1 : IntKind.i64.wrap ((k : Int) + 4) = (k : Int) + 4 := IntWalk.i64_in _ (by have := HKK.out.2.1; have := HKK.out.2.2; omega)
          have hk4n : k + 4 ≤ t.length := by have := HKK.out.1; omega
          have hk4m : t.length ≤ c := HW2.out.2.2.2.2.2.2.2
          have hk4o : k + 4 ≤ c := by omega
          have hk4p : (k : Int) + 4 ≤ (c : Int) := by omega
          have hk4b : (t.length : Int) ≤ (c : Int) := by have := HW2.out.2.2.2.2.2.2.2; omega
          have hk4c : (0 : Int) ≤ (k : Int) + 4 := by omega
          have hk4d : ¬ c = k + 4 := by have := HKK.out.1; have := HW2.out.2.2.2.2.2.2.2; omega
          have hk4e : k + 4 ≤ 9223372036854775807 := by have := HKK.out.2.1; have := HKK.out.2.2; omega
          go_region_held3 (fun W => Below W5.heap.size W5 W ∧ W.cell? ⟨Bp, 0, none⟩ = some (.slice (some ⟨tb, o, none⟩) t.length c)) (first | exact K0 | (exact (fun h => KeptL.up K00 h) (by assumption)) | exact KeptL.alloc (fs := [(⟨Bp, 0, none⟩, .slice (some ⟨tb, o, none⟩) t.length c)]) (by assumption) _ | exact KeptL.up (fs := [(⟨Bp, 0, none⟩, .slice (some ⟨tb, o, none⟩) t.length c)]) (by assumption) (by assumption) | assumption)
            (first
              | (go_at_call 68; refine HOF.out.mono ?_; rintro e w6 ⟨rfl, hB6⟩)
              | (go_at_call 100; refine (HNU.out _ (And.left (by assumption))).mono ?_; rintro e w7 ⟨rfl, hB7⟩))
          all_goals
            go_wp2_with fail
            go_meet
            refine ⟨?_, And.left (by assumption)⟩
            have hz := ok_v HV0.out HQ.out.2 HMK.out.1 HMK.out.2
            first | exact congrArg Value.bool hz | (simp only [← hz]; done) | trace_state
        · have hv1 : (v != 0) = true := by simpa using hv0
          have HV0 := Lib.hid hv0
          clear hv0
          have kq0 := cell_regrown hcl5
          refine wp_region_quiet_below (by kernel_rfl) (by kernel_rfl) ?_
          repeat (go_big_quiet_step (first | fail))
          refine wpQuiet_nil ?_
          intro _ hw'
          obtain ⟨⟨dq, osq⟩, hw''⟩ := hw'
          subst hw''
          have hBq := below_regrown W5 dq osq
          clear kq0
          generalize grow (redrawn W5 dq) osq = wq at *
          go_wp2_with fail
          go_meet
          exact ⟨by rw [decide_eq_false (show ¬ frOk t k from fun h => HV0.out (HQ.out.2.trans h.1))]; rfl, hBq⟩
      case rest =>
        obtain ⟨rfl, hBx⟩ := hcut
        have HJ6 := Lib.hid (And.intro (abides_below HJ.out H5.out.2.2.1 hBx) (H5.out.2.2.2.up hBx))
        have KX := Lib.hid (And.intro (KB.out.1.below hBx KB.out.1.lt) (at_below KB.out.2 hBx))
        clear hBx hcl5 KB HB5
        have hf1 : ¬ 65536 < num4 (t.drop k) := by rw [← HM2.out]; have := HBI.out; omega
        have hf2 : ¬ (t.length : Int) < (k : Int) + 8 + num4 (t.drop k) := by rw [← HM2.out]; have := HCX.out; omega
        have HF := Lib.hid (And.intro hf1 hf2)
        clear hf1 hf2
        by_cases hok : frOk t k
        rotate_left
        · have hd : decide (frOk t k) = false := decide_eq_false hok
          have HOK := Lib.hid hok
          have hfull := Lib.hid (show fr t (t.length + 1) 0 = keys (pre ++ [FE.bad]) by have := HL.out.eq; rw [fr_bad (by have := HKK.out.1; omega) (by have := HF.out.1; omega) (by have := HF.out.2; omega) HOK.out] at this; rw [← this, keys_snoc]; rfl)
          obtain ⟨fn, tmps, assign, body, hy, hR⟩ := HY.out pre FE.bad wc HJ6.out.1 FE.bad_at (by rw [hfull.out]; exact List.prefix_refl _)
          have HR := Lib.hid hR
          have hy2 : (Instr.yield l #[.int .i64 (-1), .agg #[.int .i64 0, .int .i64 0, .int .i64 0, .int .i64 0, .int .i64 0, .int .i64 0, .int .i64 0, .int .i64 0, .slice none 0 0, .int .i64 0, .int .i64 0, .slice none 0 0, .slice none 0 0, .slice none 0 0, .slice none 0 0, .slice none 0 0, .slice none 0 0, .int .u8 0, .int .i64 0, .int .i64 0, .int .i64 0, .int .i64 0, .int .i64 0, .int .i64 0, .bool false, .bool false, .bool false, .bool false, .int .i64 0, .int .i64 0, .bool false, .slice none 0 0, .int .u8 0, .int .i64 0, .int .i64 0, .int .i64 0, .int .i64 0, .int .i64 0, .int .i64 0, .int .i64 0, .int .i64 0, .int .i64 0, .int .i64 0, .int .i64 0, .bool false]]).run Try.prog wc = .ok (.round l fn tmps assign body) wc := hy
          clear hR hy hok
          simp only [hd, Bool.not_false]
          go_upto_region 10 with fail
          refine (wpIn_wide (n := 4)).1 ?_
          gi_wp2
          refine HR.out.mono ?_
          rintro e W3 (⟨rfl, hJ3, hk3⟩ | ⟨rfl, hJx3⟩)
          · have HJ3 := Lib.hid hJ3
            clear hJ3
            gi_wp2
            go_wp2_with fail
            refine bodyPost_ret (results_none rfl _ _ _) rfl ?_
            exact ⟨⟨_, rfl⟩, .inl ⟨_, hfull.out.symm, HJ3.out⟩⟩
          · have HJ3 := Lib.hid hJx3
            clear hJx3
            gi_wp2
            go_wp2_with fail
            refine bodyPost_ret (results_none rfl _ _ _) rfl ?_
            exact ⟨⟨_, rfl⟩, .inr ⟨_, by rw [hfull.out]; exact List.prefix_refl _, HJ3.out⟩⟩
        have hd : decide (frOk t k) = true := decide_eq_true hok
        have HOK := Lib.hid hok
        obtain ⟨E, hE⟩ : ∃ E : FE, E = ⟨(k : Int) + 8 + (m : Int), q, x, Y, cy⟩ := ⟨_, rfl⟩
        have HE := Lib.hid hE
        have R6 := Lib.hid (show wc.rangeAt g5 0 (rL q x Y cy) from range_part (n := 45) KX.out.1 rfl)
        have hfull := Lib.hid (show fr t (t.length + 1) 0 = keys (pre ++ [E]) ++ fr t f (k + 8 + m) by
          have := HL.out.eq
          rw [fr_ok (by have := HKK.out.1; omega) (by have := HF.out.1; omega) (by have := HF.out.2; omega) HOK.out, ← HM2.out, ← HQ.out.1, Int.toNat_natCast] at this
          rw [← this, keys_snoc, List.append_assoc, HE.out]
          rfl)
        obtain ⟨fn, tmps, assign, body, hy, hR⟩ := HY.out pre E wc HJ6.out.1 (by rw [hE]; exact KX.out.2) (by rw [hfull.out]; exact List.prefix_append _ _)
        have HR := Lib.hid hR
        rw [hE] at hy
        have hy2 : (Instr.yield l #[.int .i64 ((k : Int) + 8 + (m : Int)), .agg (rL q x Y cy).toArray]).run Try.prog wc = .ok (.round l fn tmps assign body) wc := hy
        clear hR hy hok hE
        simp only [hd, Bool.not_true]
        go_upto_region 12 with fail
        refine (wpIn_wide (n := 4)).1 ?_
        gi_wp2_with (first | (refine wpListIn_load_mid rfl 51 _ rfl g5 0 rfl (rL q x Y cy) _ R6.out Try.underlying51 rfl (by kernel_rfl) ?_))
        refine HR.out.mono ?_
        rintro e W3 (⟨rfl, hJ3, hk3⟩ | ⟨rfl, hJx3⟩)
        · have HJ3 := Lib.hid (And.intro hJ3 hk3)
          clear hJ3 hk3
          gi_wp2
          go_wp2_with fail
          go_roundw
          case rel => exact ⟨k + 8 + m, f, pre ++ [E], by have := HCX.out; omega, by go_num, ⟨by have := HL.out.fu; omega, hfull.out.symm, HJ3.out.1, HJ6.out.2.trans HJ3.out.2⟩⟩
          case measure => have := HCX.out; simp [intOf]; omega
        · have HJ3 := Lib.hid hJx3
          clear hJx3
          gi_wp2
          go_wp2_with fail
          refine bodyPost_ret (results_none rfl _ _ _) rfl ?_
          exact ⟨⟨_, rfl⟩, .inr ⟨_, by rw [hfull.out]; exact List.prefix_append _ _, HJ3.out⟩⟩
end Go.Proofs.Ytfdldbfjeamlcaa.LogFrames
/-! log.All of any bytes. No conditions but those named. -/
namespace Go.Proofs.Ytfdldbfjeamlcaa.LogAllV
open Go Go.RowKit MarkMath Mem SeqKit RecMem RecByte RecNum RecEach RecMath RecCod RecVal RecSame RecWr0 RecRecC RecOwn RecCmdJ RecRd RecRL0 RecRRec RecRead RecAt RecAll LogFour LogJoin LogWrap RangeGiven LogFrm LogFrames
attribute [local go_sem] Oper.semAt_some
set_option linter.unusedVariables false
set_option linter.unusedSimpArgs false

abbrev LT : TypeId := 86
abbrev ET : TypeId := 38
theorem frames_in (F : Fence) (n : Nat) (hf : F.fn 70) (hro : F.round = none) (v : Value) (w : World) (hv : v.oneCell' = true) :
    CallsIn F n Try.prog 70 #[v] w fun e w' => e = .returned (.func (.func 99) #[] #[.pointer (some ⟨w.heap.size, 0, none⟩)]) ∧ w' = w.alloc (.cells #[v] 37) := by
  refine callsIn_of_wp Try.func70 rfl hf ?_ hro
  simp only [Try.ntmps70, List.size_toArray, List.length_cons, List.length_nil, Nat.reduceAdd, Nat.reduceSub, Array.replicate_succ, Array.replicate_zero, List.push_toArray, List.append_toArray, List.nil_append, List.cons_append]
  gi_wp2
  go_ret
  exact ⟨rfl, rfl⟩
/-- The iterator's contract. -/
theorem frames_seq (Bp : Nat) (X : Option Addr) (c : Nat) (t : Bs) (ho : Oct t) (hc : t.length ≤ c) (hm : c ≤ maxLen) (hl : t.length ≤ 4611686018427387904) (wS w0 : World) (hS : Below wS.heap.size wS w0) (hBp : Bp < w0.heap.size) (hbx : w0.cell? ⟨Bp, 0, none⟩ = some (.slice X t.length c)) (hX : TxtAt wS X t) :
    SeqR Fence.wide 4 Try.prog 99 #[.pointer (some ⟨Bp, 0, none⟩)] FE.enc (Kpt wS.heap.size Bp) (FE.R w0.heap.size) (fun xs => keys xs = fr t (t.length + 1) 0) (fun pre => keys pre <+: fr t (t.length + 1) 0) w0 := fun l J Jx W hW hJ _ hY h0 =>
  callsIn_wide.2 (frames1_any l Bp X c t ho hc hm hl wS w0 hS hBp hbx hX J Jx W hW hJ hY h0)
/-- Where the last of the frames ends. -/
def endOf (l : List FE) : Int := (l.getLast?.map FE.e).getD 0
theorem endOf_snoc (l : List FE) (x : FE) : endOf (l ++ [x]) = x.e := by simp [endOf]
/-- Where All stands behind some frames. -/
structure AllIn (n0 B : Nat) (w0 : World) (pre : List FE) (W : World) : Prop where
  row : ∃ V c, Blk W B LT #[.slice V pre.length c] ∧ recsR.At W w0.heap.size (pre.map FE.r) [.slice V pre.length c]
  c1 : Blk W (B + 1) INT #[.int .i64 (endOf pre)]
  c2 : Blk W (B + 2) ET #[.int .i64 0]
  ng : ∀ x ∈ pre, ¬ x.e < 0
  kp : Kpt n0 (B + 3) w0 W
structure AllX (n0 B : Nat) (w0 : World) (pre : List FE) (W : World) : Prop where
  c0 : Blk W B LT #[.slice none 0 0]
  c1 : Blk W (B + 1) INT #[.int .i64 0]
  c2 : Blk W (B + 2) ET #[.int .i64 290]
  ng : ∃ x ∈ pre, x.e < 0
  kp : Kpt n0 (B + 3) w0 W
theorem Kpt.grown {n0 Bp F : Nat} {w0 W W' : World} {row : Option Nat} (h : Kpt n0 Bp w0 W) (hF : F = w0.heap.size) (hg : W.grownBy W' row) (hr : ∀ r, row = some r → F ≤ r) : Kpt n0 Bp w0 W' := by
  subst hF
  have ha : ∀ k, k < w0.heap.size → W'.heap[k]? = W.heap[k]? := fun k hk => hg.block k (Nat.lt_of_lt_of_le hk h.b.size) fun e => by have := hr k e.symm; omega
  exact h.trans ⟨⟨hg.os, hg.tape, hg.output, hg.size, fun k hk => ha k (Nat.lt_of_lt_of_le hk h.lo)⟩, ha Bp h.hb, Nat.le_trans h.lo h.b.size, Nat.lt_of_lt_of_le h.hb h.b.size⟩
theorem own_blk {F g : Nat} {t : TypeId} {cs : Array Value} {W W' : World} {row : Option Nat} (h : Blk W g t cs) (hg : W.grownBy W' row) (hr : ∀ r, row = some r → F ≤ r ∧ ∃ o : Obj, W.heap[r]? = some o ∧ o.isCells = false) : Blk W' g t cs := h.grown hg fun e => by
  obtain ⟨_, o, ho, hc⟩ := hr g e.symm
  rw [show W.heap[g]? = _ from h] at ho
  cases ho
  cases hc
theorem own_in (n0 B : Nat) (w0 : World) : OwnFrom w0.heap.size (AllIn n0 B w0) := fun pre W W' row hs hg hr => by
  obtain ⟨⟨V, c, h0, h1⟩, h2, h3, h4, h5⟩ := hs
  exact ⟨⟨V, c, own_blk h0 hg hr, at_grown keeps_none h1 hg (fun r e => (hr r e).2)⟩, own_blk h2 hg hr, own_blk h3 hg hr, h4, Kpt.grown h5 rfl hg (fun r e => (hr r e).1)⟩
theorem own_x (n0 B : Nat) (w0 : World) (c : Code) : OwnFrom w0.heap.size (fun pre W => c = .ret ∧ AllX n0 B w0 pre W) := fun pre W W' row hs hg hr => by
  obtain ⟨hc, h0, h1, h2, h3, h4⟩ := hs
  exact ⟨hc, own_blk h0 hg hr, own_blk h1 hg hr, own_blk h2 hg hr, h3, Kpt.grown h4 rfl hg (fun r e => (hr r e).1)⟩
theorem own_r (w0 : World) : OwnFrom w0.heap.size (FE.R w0.heap.size) := fun x W W' row hs hg hr => at_grown keep_none hs hg (fun r e => (hr r e).2)
theorem loadVar_slice {P : Program} {w : World} {ty e : TypeId} {a : Addr} {v : Value} (hu : P.underlying ty = some (.slice e)) (hc : w.cell? a = some v) : (loadVar ty a).run P w = .ok v w := by
  simp [loadVar, isAgg, run_underlying hu, go_sem, hc]
theorem results_three {P : Program} {fn : Func} {p q s : Tmp} {ty ty2 ty3 e : TypeId} {k k3 : IntKind} (h : fn.results = #[.cell p ty, .cell q ty2, .cell s ty3]) (tmps : Array Value) (w : World) (g g2 g3 : Nat) (v0 v v3 : Value)
    (hp : tmps.getD p undef = .pointer (some ⟨g, 0, none⟩)) (hq : tmps.getD q undef = .pointer (some ⟨g2, 0, none⟩)) (hs : tmps.getD s undef = .pointer (some ⟨g3, 0, none⟩)) (h0 : w.cell? ⟨g, 0, none⟩ = some v0) (hc : w.cell? ⟨g2, 0, none⟩ = some v) (h3 : w.cell? ⟨g3, 0, none⟩ = some v3)
    (hu : P.underlying ty = some (.slice e)) (hu2 : P.underlying ty2 = some (.int k)) (hu3 : P.underlying ty3 = some (.int k3)) :
    (results fn tmps).run P w = .ok (.tuple #[v0, v, v3]) w := by
  have hp' : tmps[p]?.getD undef = .pointer (some ⟨g, 0, none⟩) := by simpa using hp
  have hq' : tmps[q]?.getD undef = .pointer (some ⟨g2, 0, none⟩) := by simpa using hq
  have hs' : tmps[s]?.getD undef = .pointer (some ⟨g3, 0, none⟩) := by simpa using hs
  simp [results, h, hp', hq', hs', asAddr, loadVar_slice hu h0, loadVar_int hu2 hc, loadVar_int hu3 h3]
/-- How All ends. -/
def AllPost (t : Bs) (w : World) (e : Ending) (w' : World) : Prop :=
  (((∀ p ∈ fr t (t.length + 1) 0, ¬ p.1 < 0) ∧ ∃ V c, e = .returned (.tuple #[.slice V (fr t (t.length + 1) 0).length c, .int .i64 (((fr t (t.length + 1) 0).getLast?.map (·.1)).getD 0), .int .i64 0]) ∧ recsR.At w' w.heap.size ((fr t (t.length + 1) 0).map (·.2)) [.slice V (fr t (t.length + 1) 0).length c]) ∨
    ((∃ p ∈ fr t (t.length + 1) 0, p.1 < 0) ∧ e = .returned (.tuple #[.slice none 0 0, .int .i64 0, .int .i64 290]))) ∧ Below w.heap.size w w'
theorem AllIn.up {n0 B : Nat} {w0 : World} {pre : List FE} {W W' : World} (h : AllIn n0 B w0 pre W) (hB : Below W.heap.size W W') : AllIn n0 B w0 pre W' := own_in n0 B w0 pre W W' none h (grown_of_below hB) (fun r e => by cases e)
theorem keeps_below {F : Nat} {W W' : World} (hB : Below W.heap.size W W') : KeepsFrom F W W' := ⟨hB.size, fun k o _ hk _ => (hB.block k (Array.getElem?_eq_some_iff.1 hk).1).trans hk⟩
theorem push {n0 B : Nat} {w0 W w3 : World} {pre : List FE} {x : FE} {V V2 : Option Addr} {c c2 : Nat} {xs : List Value} {ob : Obj} (hn : n0 ≤ B) (hF : w0.heap.size = B + 4) (hI : AllIn n0 B w0 pre W) (hb : Blk W B LT #[.slice V pre.length c])
    (ho : W.ownsRow w0.heap.size RECT 45 (.slice V pre.length c) pre.length xs) (he : ∀ i y, (pre.map FE.r)[i]? = some y → recR.At W w0.heap.size y ((xs.drop (i * recR.n)).take recR.n)) (hx : x.R w0.heap.size W) (hng : ¬ x.e < 0)
    (ho3 : w3.ownsRow w0.heap.size RECT 45 (.slice V2 (pre.length + 1) c2) (pre.length + 1) (xs ++ rL x.r x.x x.Y x.cy)) (hg : (W.alloc ob).grownBy w3 (Value.slice V pre.length c).ownBlock) :
    Blk w3 B LT #[.slice V pre.length c] ∧ Blk w3 (B + 1) INT #[.int .i64 (endOf pre)] ∧ KeepsFrom w0.heap.size W ((w3.setCell ⟨B, 0, none⟩ (.slice V2 (pre.length + 1) c2)).setCell ⟨B + 1, 0, none⟩ (.int .i64 x.e)) ∧ Kpt n0 (B + 3) W ((w3.setCell ⟨B, 0, none⟩ (.slice V2 (pre.length + 1) c2)).setCell ⟨B + 1, 0, none⟩ (.int .i64 x.e)) ∧
    AllIn n0 B w0 (pre ++ [x]) ((w3.setCell ⟨B, 0, none⟩ (.slice V2 (pre.length + 1) c2)).setCell ⟨B + 1, 0, none⟩ (.int .i64 x.e)) := by
  have hsW := hI.kp.b.size
  have hown : ∀ g, (Value.slice V pre.length c).ownBlock = some g → w0.heap.size ≤ g ∧ ∃ cur, W.heap[g]? = some (.cells cur RECT (0, 0)) := fun g hgo => by
    obtain ⟨a, _, q⟩ := own_ge ho hgo
    exact ⟨a, q⟩
  have hlow : ∀ k, k < w0.heap.size → w3.heap[k]? = W.heap[k]? := fun k hk => by
    rw [hg.block k (by simp; omega) (fun e => by have := (hown k e.symm).1; omega), Below.heap_alloc W ob k (by omega)]
  have b0 : Blk w3 B LT #[.slice V pre.length c] := (hlow B (by omega)).trans hb
  have b1 : Blk w3 (B + 1) INT #[.int .i64 (endOf pre)] := (hlow _ (by omega)).trans hI.c1
  have b2 : Blk w3 (B + 2) ET #[.int .i64 0] := (hlow _ (by omega)).trans hI.c2
  obtain ⟨W', hW'⟩ : ∃ W', W' = (w3.setCell ⟨B, 0, none⟩ (.slice V2 (pre.length + 1) c2)).setCell ⟨B + 1, 0, none⟩ (.int .i64 x.e) := ⟨_, rfl⟩
  rw [← hW']
  have hsame : ∀ k, k ≠ B → k ≠ B + 1 → W'.heap[k]? = w3.heap[k]? := fun k h1 h2 => by
    rw [hW', Below.heap_setCell _ _ _ k (by simpa using h2), Below.heap_setCell _ _ _ k (by simpa using h1)]
  have hsz : W.heap.size ≤ W'.heap.size := by
    rw [hW']; have := hg.size; simp at this ⊢; omega
  have hag : ∀ k o, w0.heap.size ≤ k → W.heap[k]? = some o → (∀ cs, o ≠ .cells cs RECT (0, 0)) → W'.heap[k]? = W.heap[k]? := fun k o hk hh hne => by
    have hl := (Array.getElem?_eq_some_iff.1 hh).1
    rw [hsame k (by omega) (by omega), hg.block k (by simp; omega) (fun e => by
      obtain ⟨_, cur, hc⟩ := hown k e.symm
      rw [hc] at hh
      injection hh with hh
      exact hne cur hh.symm), Below.heap_alloc W ob k hl]
  have hkr : ∀ (y : RV) (vs : List Value), recR.At W w0.heap.size y vs → recR.At W' w0.heap.size y vs := fun y vs hy => keep_row _ _ _ _ _ hy fun k cs e' he' hk hh => hag k _ hk hh (fun cs' e => by injection e with _ e; exact he' e)
  have hKpt : Kpt n0 (B + 3) W W' := by
    refine ⟨?_, ?_, by omega, by omega⟩
    · rw [hW']
      have h3 : Below n0 W w3 := ⟨hg.os, hg.tape, hg.output, by have := hg.size; simp at this; omega, fun k hk => hlow k (by omega)⟩
      exact (h3.setCell (p := ⟨B, 0, none⟩) hn _).setCell (p := ⟨B + 1, 0, none⟩) (by show n0 ≤ B + 1; omega) _
    · rw [hsame _ (by omega) (by omega)]; exact hlow _ (by omega)
  have hlen : xs.length = pre.length * 45 := ho.1
  refine ⟨b0, b1, ⟨hsz, fun k o hk hh hc => (hag k o hk hh (fun cs e => by subst e; cases hc)).trans hh⟩, hKpt, ⟨V2, c2, ?_, V2, c2, xs ++ rL x.r x.x x.Y x.cy, ?_, ?_, ?_⟩, ?_, ?_, ?_, hI.kp.trans hKpt⟩
  · rw [hW', List.length_append]
    exact (b0.set_ 0 (.slice V2 (pre.length + 1) c2)).far (p := ⟨B + 1, 0, none⟩) (by show B ≠ B + 1; omega) _
  · simp
  · rw [hW']
    have e : (List.map FE.r (pre ++ [x])).length = pre.length + 1 := by simp
    rw [e]
    exact Go.ownsRow_setCell_other (Go.ownsRow_setCell_other ho3 (a := ⟨B, 0, none⟩) (fun e1 => by have := (own_ge ho3 e1).1; simp at this; omega) _) (a := ⟨B + 1, 0, none⟩) (fun e1 => by have := (own_ge ho3 e1).1; simp at this; omega) _
  · intro i y hi
    rw [List.map_append] at hi
    rcases Nat.lt_or_ge i pre.length with hlt | hge
    · rw [List.getElem?_append_left (by simpa using hlt)] at hi
      have hik : (i + 1) * 45 ≤ pre.length * 45 := Nat.mul_le_mul_right _ hlt
      rw [show recR.n = 45 from rfl, List.drop_append_of_le_length (by omega), List.take_append_of_le_length (by rw [List.length_drop]; omega)]
      exact hkr _ _ (he i y hi)
    · rw [List.getElem?_append_right (by simpa using hge)] at hi
      have hi0 : i = pre.length := by
        have := (List.getElem?_eq_some_iff.1 hi).1
        simp at this; omega
      subst hi0
      simp at hi
      subst hi
      rw [show recR.n = 45 from rfl, ← hlen, List.drop_left, List.take_of_length_le (Nat.le_refl 45)]
      exact hkr _ _ hx
  · rw [hW', endOf_snoc]
    exact (b1.far (p := ⟨B, 0, none⟩) (by show B + 1 ≠ B; omega) _).set_ 0 (.int .i64 x.e)
  · rw [hW']
    exact (b2.far (p := ⟨B, 0, none⟩) (by show B + 2 ≠ B; omega) _).far (p := ⟨B + 1, 0, none⟩) (by show B + 2 ≠ B + 1; omega) _
  · intro y hy
    rcases List.mem_append.1 hy with h | h
    · exact hI.ng y h
    · simp at h; subst h; exact hng
theorem keys_len (l : List FE) : (keys l).length = l.length := by simp [keys]
theorem keys_r (l : List FE) : (keys l).map (·.2) = l.map FE.r := by simp [keys, FE.key]
theorem keys_end (l : List FE) : ((keys l).getLast?.map (·.1)).getD 0 = endOf l := by
  unfold keys endOf
  rw [List.getLast?_map]
  cases l.getLast? <;> rfl
theorem post_ok {t : Bs} {w W0 W : World} {xs : List FE} {V : Option Addr} {c : Nat} (hS : keys xs = fr t (t.length + 1) 0) (hI : AllIn w.heap.size w.heap.size W0 xs W) (hA : recsR.At W W0.heap.size (xs.map FE.r) [.slice V xs.length c]) (hB : Below w.heap.size w W) :
    AllPost t w (.returned (.tuple #[.slice V xs.length c, .int .i64 (endOf xs), .int .i64 0])) W := by
  unfold AllPost
  rw [← hS, keys_len, keys_r, keys_end]
  refine ⟨.inl ⟨fun p hp => ?_, V, c, rfl, recsR.mono hA hI.kp.lo⟩, hB⟩
  obtain ⟨x, hx, rfl⟩ := List.mem_map.1 hp
  exact hI.ng x hx
theorem post_bad {t : Bs} {w W : World} {pre : List FE} (hS : keys pre <+: fr t (t.length + 1) 0) (hn : ∃ x ∈ pre, x.e < 0) (hB : Below w.heap.size w W) : AllPost t w (.returned (.tuple #[.slice none 0 0, .int .i64 0, .int .i64 290])) W := by
  obtain ⟨x, hx, h⟩ := hn
  exact ⟨.inr ⟨⟨x.key, hS.subset (List.mem_map.2 ⟨x, hx, rfl⟩), h⟩, rfl⟩, hB⟩
theorem fr_len (t : Bs) : ∀ f k, (fr t f k).length ≤ f
  | 0, k => by simp [fr]
  | f + 1, k => by
    unfold fr
    have := fr_len t f (k + 8 + (num4 (t.drop k)).toNat)
    split
    · simp
    split
    · simp
    split
    · simp
    split
    · simp; omega
    · simp
theorem r_info : (Try.prog.info? RECT).map (fun i => (i.zero, i.size, i.bytes)) = some (some (.agg zA), 45, 464) := by kernel_rfl
set_option maxRecDepth 100000 in
set_option maxHeartbeats 6000000 in
theorem all_any (X : Option Addr) (c : Nat) (t : Bs) (ho : Oct t) (hc : t.length ≤ c) (hm : c ≤ maxLen) (hl : t.length ≤ 1000000000) (w : World) (hX : TxtAt w X t) :
    Calls Try.prog 39 #[.slice X t.length c] w fun e w' => AllPost t w e w' := by
  refine (callsIn_wide (n := 5)).1 ?_
  refine callsIn_of_wp_marks Try.func39 rfl trivial ?_ rfl
  simp only [Try.ntmps39, List.size_toArray, List.length_cons, List.length_nil, Nat.reduceAdd, Nat.reduceSub, Array.replicate_succ, Array.replicate_zero, List.push_toArray, List.append_toArray, List.nil_append, List.cons_append]
  obtain ⟨i0, hi0, hz0, hz1, hz2⟩ := info_parts r_info
  have HI := Lib.hid (And.intro hi0 (And.intro hz0 (And.intro hz1 hz2)))
  clear hi0 hz0 hz1 hz2
  have HX := Lib.hid hX
  have HC := Lib.hid (And.intro hc (And.intro hm hl))
  clear hX hc hm hl
  gi_wp2_with (refine ⟨trivial, ?_⟩; gi_at_call 70; refine (frames_in Fence.wide 4 trivial rfl _ _ rfl).mono ?_; rintro e w' ⟨rfl, rfl⟩)
  have k0 : Blk ((((w.alloc (.cells #[.slice none 0 0] LT)).alloc (.cells #[.int .i64 0] INT)).alloc (.cells #[.int .i64 0] ET)).alloc (.cells #[.slice X t.length c] 37)) w.heap.size LT #[.slice none 0 0] := (((Blk.new w LT _).alloc _).alloc _).alloc _
  have k1 : Blk ((((w.alloc (.cells #[.slice none 0 0] LT)).alloc (.cells #[.int .i64 0] INT)).alloc (.cells #[.int .i64 0] ET)).alloc (.cells #[.slice X t.length c] 37)) (w.heap.size + 1) INT #[.int .i64 0] := by
    have h := ((Blk.new (w.alloc (.cells #[.slice none 0 0] LT)) INT #[.int .i64 0]).alloc (.cells #[.int .i64 0] ET)).alloc (.cells #[.slice X t.length c] 37)
    rwa [World.size_alloc] at h
  have k2 : Blk ((((w.alloc (.cells #[.slice none 0 0] LT)).alloc (.cells #[.int .i64 0] INT)).alloc (.cells #[.int .i64 0] ET)).alloc (.cells #[.slice X t.length c] 37)) (w.heap.size + 2) ET #[.int .i64 0] := by
    have h := (Blk.new ((w.alloc (.cells #[.slice none 0 0] LT)).alloc (.cells #[.int .i64 0] INT)) ET #[.int .i64 0]).alloc (.cells #[.slice X t.length c] 37)
    rwa [World.size_alloc, World.size_alloc] at h
  have k3 : Blk ((((w.alloc (.cells #[.slice none 0 0] LT)).alloc (.cells #[.int .i64 0] INT)).alloc (.cells #[.int .i64 0] ET)).alloc (.cells #[.slice X t.length c] 37)) (w.heap.size + 3) 37 #[.slice X t.length c] := by
    have h := Blk.new (((w.alloc (.cells #[.slice none 0 0] LT)).alloc (.cells #[.int .i64 0] INT)).alloc (.cells #[.int .i64 0] ET)) 37 #[.slice X t.length c]
    rwa [World.size_alloc, World.size_alloc, World.size_alloc] at h
  have hB0 : Below w.heap.size w ((((w.alloc (.cells #[.slice none 0 0] LT)).alloc (.cells #[.int .i64 0] INT)).alloc (.cells #[.int .i64 0] ET)).alloc (.cells #[.slice X t.length c] 37)) := below_alloc (below_alloc (below_alloc (below_alloc (Below.refl _ w))))
  have hs0 : ((((w.alloc (.cells #[.slice none 0 0] LT)).alloc (.cells #[.int .i64 0] INT)).alloc (.cells #[.int .i64 0] ET)).alloc (.cells #[.slice X t.length c] 37)).heap.size = w.heap.size + 4 := by simp only [World.size_alloc]
  generalize (((w.alloc (.cells #[.slice none 0 0] LT)).alloc (.cells #[.int .i64 0] INT)).alloc (.cells #[.int .i64 0] ET)).alloc (.cells #[.slice X t.length c] 37) = w0 at *
  have kp0 : Kpt w.heap.size (w.heap.size + 3) w0 w0 := ⟨Below.refl _ _, rfl, by omega, by omega⟩
  refine range_given rfl (by omega) (gf := 99) (lb := #[.pointer (some ⟨w.heap.size + 3, 0, none⟩)]) rfl trivial (enters_of Try.func99 (by kernel_rfl) rfl)
    (frames_seq (w.heap.size + 3) X c t ho HC.out.1 HC.out.2.1 (by have := HC.out.2.2; omega) w w0 hB0 (by omega) (k3.cell 0) HX.out) Kpt.trans
    (fun W l o o' hl ho1 ho2 ho3 => ⟨belowK_b (w := w0) hB0.size W l o o' hl ho1 ho2 ho3, World.putObj_heap_other (by omega), by have := (Array.getElem?_eq_some_iff.1 ho1).1; omega, by have := (Array.getElem?_eq_some_iff.1 ho1).1; omega⟩)
    (Below.refl _ _) (fun _ => rfl)
    (AllIn w.heap.size w.heap.size w0) (fun c pre W => c = .ret ∧ AllX w.heap.size w.heap.size w0 pre W)
    (own_in _ _ _) (fun c => own_x _ _ _ c) (own_r w0)
    ⟨⟨none, 0, k0, list_nil⟩, k1, k2, fun x hx => by simp at hx, kp0⟩
    (fun x a' W => ∃ eb, w0.heap.size ≤ eb ∧ Blk W eb RECT (rL x.r x.x x.Y x.cy).toArray ∧ a' = { tmps := #[.slice X t.length c, undef, .pointer (some ⟨w.heap.size, 0, none⟩), .pointer (some ⟨w.heap.size + 1, 0, none⟩), .pointer (some ⟨w.heap.size + 2, 0, none⟩), .int .i64 x.e, .pointer (some ⟨eb, 0, none⟩), .slice X t.length c, .func (.func 99) #[] #[.pointer (some ⟨w.heap.size + 3, 0, none⟩)], .int .i64 x.e, .agg (rL x.r x.x x.Y x.cy).toArray, undef, undef, undef, undef, undef, undef, undef], defers := [] })
    (fun x a' _ Y Z row hs hg hr => by
      obtain ⟨eb, h1, h2, h3⟩ := hs
      exact ⟨eb, h1, own_blk h2 hg hr, h3⟩)
    ?assign ?body ?done ?stop
  case assign =>
    rintro l pre x W K hI hR hK
    have HK := Lib.hid hK
    have H1 := Lib.hid (And.intro hI hR)
    have hsz : w0.heap.size ≤ W.heap.size := hI.kp.b.size
    have x5 := box_full (W := W) RECT #[.int .i64 0, .int .i64 0, .int .i64 0, .int .i64 0, .int .i64 0, .int .i64 0, .int .i64 0, .int .i64 0, .slice none 0 0, .int .i64 0, .int .i64 0, .slice none 0 0, .slice none 0 0, .slice none 0 0, .slice none 0 0, .slice none 0 0, .slice none 0 0, .int .u8 0, .int .i64 0, .int .i64 0, .int .i64 0, .int .i64 0, .int .i64 0, .int .i64 0, .bool false, .bool false, .bool false, .bool false, .int .i64 0, .int .i64 0, .bool false, .slice none 0 0, .int .u8 0, .int .i64 0, .int .i64 0, .int .i64 0, .int .i64 0, .int .i64 0, .int .i64 0, .int .i64 0, .int .i64 0, .int .i64 0, .int .i64 0, .int .i64 0, .bool false] (vs := rL x.r x.x x.Y x.cy) rfl
    clear hK hI hR k0 k1 k2 k3
    unfold FE.enc
    gi_wp2_with (first | (refine wpListIn_store_mid rfl RECT _ _ rfl W.heap.size 0 (rL x.r x.x x.Y x.cy).toArray rfl rfl (there_of (Blk.new W RECT #[.int .i64 0, .int .i64 0, .int .i64 0, .int .i64 0, .int .i64 0, .int .i64 0, .int .i64 0, .int .i64 0, .slice none 0 0, .int .i64 0, .int .i64 0, .slice none 0 0, .slice none 0 0, .slice none 0 0, .slice none 0 0, .slice none 0 0, .slice none 0 0, .int .u8 0, .int .i64 0, .int .i64 0, .int .i64 0, .int .i64 0, .int .i64 0, .int .i64 0, .bool false, .bool false, .bool false, .bool false, .int .i64 0, .int .i64 0, .bool false, .slice none 0 0, .int .u8 0, .int .i64 0, .int .i64 0, .int .i64 0, .int .i64 0, .int .i64 0, .int .i64 0, .int .i64 0, .int .i64 0, .int .i64 0, .int .i64 0, .int .i64 0, .bool false]) (Nat.le_of_ble_eq_true rfl)) (by kernel_rfl) (by kernel_rfl) ?_; simp only [List.toList_toArray]; generalize World.setCells _ _ _ _ = W5 at *; (try simp only [Act.put])) | gi_in)
    exact HK.out _ W5 (keeps_below x5.2) (Kpt.of (by omega) (by omega) x5.2) (H1.out.1.up x5.2) (at_below H1.out.2 x5.2) ⟨W.heap.size, hsz, x5.1, rfl⟩
  case body =>
    rintro l pre x a' W hl ⟨r, hr⟩ hI hR ⟨eb, heb, bX, rfl⟩ hsp
    obtain ⟨V, cv, hb0, V', cv', xs, heq, hown, hels⟩ := hI.row
    rw [List.length_map] at hown heq
    injection heq with heq _
    injection heq with e1 _ e3
    subst e1 e3
    have c0 : W.cell? ⟨w.heap.size, 0, none⟩ = some (.slice V pre.length cv) := hb0.cell 0
    have f0 := hb0.frozen 0
    have c1 : W.cell? ⟨w.heap.size + 1, 0, none⟩ = some (.int .i64 (endOf pre)) := hI.c1.cell 0
    have f1 := hI.c1.frozen 0
    have c2 : W.cell? ⟨w.heap.size + 2, 0, none⟩ = some (.int .i64 0) := hI.c2.cell 0
    have f2 := hI.c2.frozen 0
    have hpn : pre.length ≤ 1000000000 := by
      have h1 := hsp.length_le
      have h2 := fr_len t (t.length + 1) 0
      have h3 := HC.out.2.2
      simp [keys] at h1
      omega
    clear hsp
    have hsW : w0.heap.size ≤ W.heap.size := hI.kp.b.size
    have H1 := Lib.hid (And.intro hI (And.intro hR (And.intro hb0 (And.intro hown hels))))
    have HX1 := Lib.hid bX
    clear hI hR hb0 hown hels bX hr k0 k1 k2 k3
    obtain ⟨xe, hxe⟩ : ∃ n, n = x.e := ⟨_, rfl⟩
    rw [← hxe]
    have HXE := Lib.hid hxe
    clear hxe
    by_cases hneg : xe < 0
    · have hn1 : decide (xe < 0) = true := decide_eq_true hneg
      have HN := Lib.hid hneg
      clear hneg
      gi_wp2
      refine ⟨?_, rfl, ?_⟩
      · exact (((KeepsOthers.setCell _ _ _).trans (KeepsOthers.setCell _ _ _)).trans (KeepsOthers.setCell _ _ _)).from _
      · refine ⟨?_, ?_, ?_, ⟨x, by simp, by rw [← HXE.out]; exact HN.out⟩, ?_⟩
        · exact ((H1.out.2.2.1.set_ 0 (.slice none 0 0)).far (p := ⟨w.heap.size + 1, 0, none⟩) (by show w.heap.size ≠ w.heap.size + 1; omega) _).far (p := ⟨w.heap.size + 2, 0, none⟩) (by show w.heap.size ≠ w.heap.size + 2; omega) _
        · exact ((H1.out.1.c1.far (p := ⟨w.heap.size, 0, none⟩) (by show w.heap.size + 1 ≠ w.heap.size; omega) _).set_ 0 (.int .i64 0)).far (p := ⟨w.heap.size + 2, 0, none⟩) (by show w.heap.size + 1 ≠ w.heap.size + 2; omega) _
        · exact ((H1.out.1.c2.far (p := ⟨w.heap.size, 0, none⟩) (by show w.heap.size + 2 ≠ w.heap.size; omega) _).far (p := ⟨w.heap.size + 1, 0, none⟩) (by show w.heap.size + 2 ≠ w.heap.size + 1; omega) _).set_ 0 (.int .i64 290)
        · refine H1.out.1.kp.trans ⟨?_, ?_, by omega, by omega⟩
          · exact (((Below.refl _ _).setCell (p := ⟨w.heap.size, 0, none⟩) (Nat.le_refl _) _).setCell (p := ⟨w.heap.size + 1, 0, none⟩) (Nat.le_add_right _ _) _).setCell (p := ⟨w.heap.size + 2, 0, none⟩) (Nat.le_add_right _ _) _
          · rw [Below.heap_setCell _ _ _ _ (by simp), Below.heap_setCell _ _ _ _ (by simp), Below.heap_setCell _ _ _ _ (by simp)]
    · have hn1 : decide (xe < 0) = false := decide_eq_false hneg
      have HN := Lib.hid hneg
      clear hneg
      have R6 := Lib.hid (show W.rangeAt eb 0 (rL x.r x.x x.Y x.cy) from range_part (n := 45) HX1.out rfl)
      gi_wp2_with (first
        | (refine wpListIn_load_mid rfl RECT _ rfl eb 0 rfl (rL x.r x.x x.Y x.cy) _ R6.out Try.underlying51 rfl (by kernel_rfl) ?_)
        | (gi_at_builtin
           refine wpListIn_append_own _ rfl _ _ LT rfl w0.heap.size RECT i0 (.agg zA) 45 464 Try.underlying86 HI.out.1 HI.out.2.1 HI.out.2.2.1 HI.out.2.2.2 rfl (by decide) _ _ _ rfl (H1.out.2.2.2.1.alloc _) ⟨W.heap.size, 0, none⟩ 1 1 (rL x.r x.x x.Y x.cy) rfl rfl (fun j u hu => by rw [add_flat, Nat.zero_add, (Blk.new W RECT (rL x.r x.x x.Y x.cy).toArray).cell j]; simpa using hu) (one_rec _ _ _ _ H1.out.2.1) (by unfold maxLen; omega) (by omega) (by simp; omega) ?_
           intro v' w3 hown' hg3 _
           obtain ⟨V2, cc2, rfl⟩ := own_form2 hown'
           have HP := Lib.hid (push (n0 := w.heap.size) (Nat.le_refl _) hs0 H1.out.1 H1.out.2.2.1 H1.out.2.2.2.1 H1.out.2.2.2.2 H1.out.2.1 (by rw [← HXE.out]; exact HN.out) hown' hg3)
           have ca := HP.out.1.cell 0
           have fa := HP.out.1.frozen 0
           have cb := HP.out.2.1.cell 0
           have fb := HP.out.2.1.frozen 0
           clear hown' hg3
           simp only [Act.put, List.setIfInBounds_toArray, List.set_cons_succ, List.set_cons_zero])
        | gi_in)
      rw [HXE.out]
      refine ⟨?_, HP.out.2.2.2.1, HP.out.2.2.2.2⟩
      have hk := HP.out.2.2.1
      rw [hs0] at hk
      exact hk
  case done =>
    rintro D xs W hD hS hI hK
    have hI2 := (own_in w.heap.size w.heap.size w0).putObj (o' := .deferred none) hI hD hK rfl
    have hBD : Below w.heap.size w (W.putObj D (.deferred none)) := hB0.trans hI2.kp.b
    have H2 := Lib.hid (And.intro hI2 (And.intro hBD hS))
    clear hI hI2 hBD hS k0 k1 k2 k3
    gi_wp2
    refine ⟨by simp, .inl ⟨_, _, rfl, run_takeDeferred hK, ?_⟩⟩
    obtain ⟨V, cv, h0, hA⟩ := H2.out.1.row
    exact ⟨_, results_three rfl _ _ w.heap.size (w.heap.size + 1) (w.heap.size + 2) (.slice V xs.length cv) (.int .i64 (endOf xs)) (.int .i64 0) rfl rfl rfl (h0.cell 0) (H2.out.1.c1.cell 0) (H2.out.1.c2.cell 0) Try.underlying86 Try.underlying3 Try.underlying38, post_ok H2.out.2.2 H2.out.1 hA H2.out.2.1⟩
  case stop =>
    rintro D c pre W hD hSp ⟨rfl, hX⟩ hK
    have hI2 := (own_x w.heap.size w.heap.size w0 .ret).putObj (o' := .deferred none) (⟨rfl, hX⟩ : (Code.ret = .ret ∧ AllX w.heap.size w.heap.size w0 pre W)) hD hK rfl
    have hBD : Below w.heap.size w (W.putObj D (.deferred none)) := hB0.trans hI2.2.kp.b
    have H2 := Lib.hid (And.intro hI2.2 (And.intro hBD hSp))
    clear hX hI2 hBD hSp k0 k1 k2 k3
    gi_wp2
    refine ⟨by simp, .inl ⟨_, _, rfl, run_takeDeferred hK, ?_⟩⟩
    exact ⟨_, results_three rfl _ _ w.heap.size (w.heap.size + 1) (w.heap.size + 2) (.slice none 0 0) (.int .i64 0) (.int .i64 290) rfl rfl rfl (H2.out.1.c0.cell 0) (H2.out.1.c1.cell 0) (H2.out.1.c2.cell 0) Try.underlying86 Try.underlying3 Try.underlying38, post_bad H2.out.2.2 H2.out.1.ng H2.out.2.1⟩
end Go.Proofs.Ytfdldbfjeamlcaa.LogAllV
/-! Frames of records, in plain Lean. No conditions but those named. -/
namespace Go.Proofs.Ytfdldbfjeamlcaa.LogPlain
open Go Go.RowKit MarkMath Mem RecMem RecByte RecNum RecMath RecCod RecVal RecSame RecWr0 RecRecC RecRead RecAll LogFour LogJoin LogWrap LogFrm
set_option linter.unusedVariables false
set_option linter.unusedSimpArgs false

theorem num4_four {n : Int} (h0 : 0 ≤ n) (h1 : n < 4294967296) (u : Bs) : num4 (fourB n ++ u) = n := numb_four h0 h1
theorem fourB_len (n : Int) : (fourB n).length = 4 := rfl
theorem drop_at (P Q : Bs) (k : Nat) : (P ++ Q).drop (P.length + k) = Q.drop k := by
  rw [List.drop_append]
  simp
/-- A whole frame. -/
theorem fr_wrap (P Q : Bs) {r : RV} (h : okR r) (hl : (recB r).length ≤ 65536) (f : Nat) :
    fr (P ++ (wrapB r ++ Q)) (f + 1) P.length = (((P.length + (wrapB r).length : Nat) : Int), r) :: fr (P ++ (wrapB r ++ Q)) f (P.length + (wrapB r).length) := by
  have hm := mk_in (t := recB r)
  have e0 : (P ++ (wrapB r ++ Q)).drop P.length = wrapB r ++ Q := List.drop_left
  have hw : wrapB r ++ Q = fourB ((recB r).length : Int) ++ (fourB (mk 0 (recB r)) ++ (recB r ++ Q)) := by unfold wrapB; simp
  have n0 : num4 ((P ++ (wrapB r ++ Q)).drop P.length) = ((recB r).length : Int) := by rw [e0, hw]; exact num4_four (by omega) (by omega) _
  have n4 : num4 ((P ++ (wrapB r ++ Q)).drop (P.length + 4)) = mk 0 (recB r) := by
    rw [drop_at, hw, show 4 = (fourB ((recB r).length : Int)).length from rfl, List.drop_left]
    exact num4_four hm.1 (by omega) _
  have n8 : frT (P ++ (wrapB r ++ Q)) P.length = recB r := by
    unfold frT
    rw [n0, drop_at, hw, ← List.append_assoc, show 8 = (fourB ((recB r).length : Int) ++ fourB (mk 0 (recB r))).length from rfl, List.drop_left, Int.toNat_natCast, List.take_left]
  have hlen : (P ++ (wrapB r ++ Q)).length = P.length + ((recB r).length + 8) + Q.length := by rw [List.length_append, List.length_append, wrapB_len]; omega
  have hok : frOk (P ++ (wrapB r ++ Q)) P.length := by
    unfold frOk
    rw [n8, n4, readV_back h hl]
    exact ⟨rfl, rfl⟩
  rw [fr_ok (by omega) (by rw [n0]; omega) (by rw [n0]; omega) hok, n0, n8, readV_back h hl, wrapB_len, Int.toNat_natCast]
  congr 2
  · push_cast; omega
  · omega
/-- The beginning of one. -/
theorem fr_part (P : Bs) {r : RV} (hl : (recB r).length ≤ 65536) {m : Nat} (hm : m < (wrapB r).length) (f : Nat) : fr (P ++ (wrapB r).take m) (f + 1) P.length = [] := by
  have hlen : (P ++ (wrapB r).take m).length = P.length + m := by rw [List.length_append, List.length_take]; omega
  rw [wrapB_len] at hm
  by_cases h8 : m < 8
  · exact fr_end (by omega)
  have n0 : num4 ((P ++ (wrapB r).take m).drop P.length) = ((recB r).length : Int) := by
    rw [List.drop_left]
    have hw : wrapB r = fourB ((recB r).length : Int) ++ (fourB (mk 0 (recB r)) ++ recB r) := by unfold wrapB; simp
    rw [hw, List.take_append, List.take_of_length_le (show (fourB ((recB r).length : Int)).length ≤ m by rw [fourB_len]; omega)]
    exact num4_four (by omega) (by omega) _
  exact fr_cut (by omega) (by rw [n0]; omega) (by rw [n0]; omega)
end Go.Proofs.Ytfdldbfjeamlcaa.LogPlain
