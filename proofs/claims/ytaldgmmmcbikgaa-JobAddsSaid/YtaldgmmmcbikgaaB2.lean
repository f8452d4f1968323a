/- Several texts joined: slices.Contains of numbers; who waits for a job. No conditions but those named. -/
import Derived.BigQuiet
import Derived.IntWalk
import Derived.Test.YtaldgmmmcbikgaaJobIndex
import Derived.Deep.QuietTactic
import Derived.Deep.DeepCutAuto
import Derived.Deep.MidRow
import Derived.RangeFuncNested
import Derived.Test.YtaldgmmmcbikgaaB1
/-! slices.Contains of numbers; who waits for a job. No conditions but those named. -/
namespace Go.Proofs.Ytaldgmmmcbikgaa.LooseI
open Go.RowKit Mem PosMath PartMath TurnMath JobMath JobIndex
set_option linter.unusedVariables false
set_option linter.unusedSimpArgs false

set_option maxRecDepth 100000 in
set_option maxHeartbeats 8000000 in
theorem iIndex (X : Option Addr) (cap : Nat) (l : List Int) (n : Int) (hl : l.length ≤ 4611686018427387904) (w : World) (hX : IntsAt w X l) :
    Calls Try.prog 75 #[.slice X l.length cap, .int .i64 n] w fun e w' => ∃ r : Int, e = .returned (.int .i64 r) ∧ decide (0 ≤ r) = decide (n ∈ l) ∧ w' = w := by
  have HX := Lib.hid hX
  clear hX
  go_enter Try.func75, Try.ntmps75
  go_wp2_with fail
  go_loopw [8] (fun i wr => ∃ k : Nat, k ≤ l.length ∧ i = .int .i64 k ∧ Hid (∀ j x, j < k → l[j]? = some x → x ≠ n) ∧ Hid (wr = w))
    (fun i _ => l.length - (intOf i).toNat)
  case atStart => exact ⟨0, Nat.zero_le _, rfl, fun j x h => by omega, rfl⟩
  case round =>
    obtain ⟨k, hk, rfl, hP, hB⟩ := hrel
    by_cases hlt : k < l.length
    · have hg : l[k]? = some l[k] := List.getElem?_eq_getElem hlt
      generalize l[k] = v at hg
      have hki : (k : Int) < (l.length : Int) := by omega
      obtain ⟨b, o, rfl, hb, hx⟩ := HX.out k v hg
      rw [← hB.out] at hx hb
      have HG := Lib.hid hg
      clear hg hb
      by_cases hv : n = v
      · have hv1 : (n == v) = true := by simpa using hv
        have HV := Lib.hid hv
        clear hv
        go_wp2_with fail
        go_ret
        exact ⟨_, rfl, by rw [decide_eq_true (show (0 : Int) ≤ (k : Int) by omega), decide_eq_true (show n ∈ l by rw [HV.out]; exact List.mem_of_getElem? HG.out)], hB.out⟩
      · have hv1 : (n == v) = false := by simpa using hv
        have HV := Lib.hid hv
        clear hv
        go_wp2_with fail
        go_roundw
        case rel => exact ⟨k + 1, by omega, by go_num, (fun j z hj hz => by
            rcases Nat.lt_or_ge j k with h | h
            · exact hP.out j z h hz
            · obtain rfl : j = k := by omega
              rw [HG.out] at hz; cases hz; exact fun e => HV.out e.symm), hB.out⟩
        case measure => simp [intOf]; omega
    · obtain rfl : k = l.length := by omega
      go_wp2_with fail
      go_ret
      refine ⟨_, rfl, ?_, hB.out⟩
      rw [decide_eq_false (show ¬ (0 : Int) ≤ -1 by omega), decide_eq_false]
      intro h
      obtain ⟨i, hi, e⟩ := List.mem_iff_getElem.1 h
      exact hP.out i _ hi (List.getElem?_eq_getElem hi) e
theorem iContains (X : Option Addr) (cap : Nat) (l : List Int) (n : Int) (hl : l.length ≤ 4611686018427387904) (w : World) (hX : IntsAt w X l) :
    Calls Try.prog 63 #[.slice X l.length cap, .int .i64 n] w fun e w' => e = .returned (.bool (decide (n ∈ l))) ∧ w' = w := by
  have H := Lib.hid (iIndex X cap l n hl w hX)
  clear hX
  generalize decide (n ∈ l) = B at *
  go_enter Try.func63, Try.ntmps63
  go_wp2_with fail
  refine H.out.mono ?_
  rintro e w1 ⟨r, rfl, hr, rfl⟩
  have HR := Lib.hid hr
  clear hr H
  go_wp2_with fail
  go_ret
  exact ⟨by rw [← HR.out]; first | rfl | (congr 2), rfl⟩
theorem waits_any (gx : Nat) (n : Int) (y : JV) (Y : Option Addr) (c : Nat) (hl : y.af.length ≤ 4611686018427387904) (w : World) (cx : w.cell? ⟨gx, 0, none⟩ = some (.int .i64 n)) (hY : IntsAt w Y y.af) :
    Calls Try.prog 62 #[.agg #[.int .i64 y.id, .int .i64 y.us, .int .i64 y.cl, .int .i64 y.x.a, .int .i64 y.x.b, .int .i64 y.x.c, .bool y.x.p, .bool y.x.q, .bool y.x.r, .bool y.x.tn, .int .i64 y.wa, .int .i64 y.pr, .bool y.he, .slice Y y.af.length c, .int .u8 y.st, .int .i64 y.ca], .pointer (some ⟨gx, 0, none⟩)] w fun e w' => e = .returned (.bool (decide (n ∈ y.af))) ∧ Below w.heap.size w w' := by
  have hg := cell_lt cx
  have HC := Lib.hid (fun (W : World) (hB : Below w.heap.size w W) => iContains Y c y.af n hl W (hY.up hB))
  clear hY
  go_enter Try.func62, Try.ntmps62
  go_wp2_with fail
  refine (HC.out _ (below_alloc (Below.refl _ _))).mono ?_
  rintro e w1 ⟨rfl, rfl⟩
  go_wp2_with fail
  go_ret
  exact ⟨rfl, below_alloc (Below.refl _ _)⟩
theorem anyOf_any {l : List JV} {f : JV → Bool} {b : Bool} (h : AnyOf l (fun _ y => f y) b) : b = l.any f := by
  rcases h with ⟨rfl, h⟩ | ⟨rfl, k, v, hk, hv, _⟩
  · symm
    rw [List.any_eq_false]
    intro x hx
    obtain ⟨i, hi, e⟩ := List.mem_iff_getElem.1 hx
    have := h i x (by rw [List.getElem?_eq_getElem hi, e])
    simp [this]
  · symm
    exact List.any_eq_true.2 ⟨v, List.mem_of_getElem? hk, hv⟩
theorem any_waits (gx : Nat) (n : Int) (X : Option Addr) (cap : Nat) (l : List JV) (hl : l.length ≤ 4611686018427387904) (hla : ∀ j ∈ l, j.af.length ≤ 4611686018427387904) (w : World) (cx : w.cell? ⟨gx, 0, none⟩ = some (.int .i64 n)) (hX : JobsAt w X l) :
    Calls Try.prog 64 #[.slice X l.length cap, .func (.func 62) #[] #[.pointer (some ⟨gx, 0, none⟩)]] w fun e w' => e = .returned (.bool (l.any fun y => decide (n ∈ y.af))) ∧ Below w.heap.size w w' := by
  refine (jContainsFunc X cap l (fun _ y => decide (n ∈ y.af)) (fun _ w' => Below w.heap.size w w' ∧ w'.cell? ⟨gx, 0, none⟩ = some (.int .i64 n)) 62 #[.pointer (some ⟨gx, 0, none⟩)] hl w ⟨Below.refl _ _, cx⟩ (fun k w' h => hX.up h.1) (enters_of Try.func62 (by kernel_rfl) rfl)
    (fun k v hk w' Y c hY h => (waits_any gx n v Y c (hla v (List.mem_of_getElem? hk)) w' h.2 hY).mono fun e w'' h2 => ⟨h2.1, below_up h.1 h2.2, keep_cell h.2 h2.2⟩)).mono ?_
  rintro e w1 ⟨b, rfl, hb, k, hI⟩
  rw [anyOf_any hb]
  exact ⟨rfl, hI.1⟩
end Go.Proofs.Ytaldgmmmcbikgaa.LooseI
/-! job.loose: the places of jobs that may go. No conditions but those named. -/
namespace Go.Proofs.Ytaldgmmmcbikgaa.Loose
open Go Go.RowKit Go.Sort Mem PosMath PartMath TurnMath JobMath JobIndex LooseI RangeGiven AddKit RecGuard
set_option linter.unusedVariables false
set_option linter.unusedSimpArgs false

/-- A job that may go for another one. -/
def looseB (l : List JV) (us : List Int) (j x : JV) : Bool := !(decide (x.st < 3) || decide (x.id ∈ us) || decide (x.id ∈ j.af) || l.any fun y => decide (x.id ∈ y.af))
/-- The places of such jobs among the first k. -/
def looseUp (l : List JV) (us : List Int) (j : JV) : Nat → List Nat
  | 0 => []
  | k + 1 => looseUp l us j k ++ (match l[k]? with | some x => if looseB l us j x then [k] else [] | none => [])
section
variable {l : List JV} {us : List Int} {j x : JV} {k m n : Nat}
theorem loose_no (hk : l[k]? = some x) (h : looseB l us j x = false) : looseUp l us j (k + 1) = looseUp l us j k := by
  unfold looseUp
  rw [hk]
  simp [h]
  cases k <;> rfl
theorem loose_yes (hk : l[k]? = some x) (h : looseB l us j x = true) : looseUp l us j (k + 1) = looseUp l us j k ++ [k] := by
  conv => lhs; unfold looseUp
  rw [hk]
  simp [h]
theorem loose_pre : ∀ {n : Nat}, m ≤ n → looseUp l us j m <+: looseUp l us j n
  | 0, h => by
    cases m with
    | zero => exact List.prefix_refl _
    | succ m => omega
  | n + 1, h => by
    rcases Nat.lt_or_ge n m with h1 | h1
    · obtain rfl : m = n + 1 := by omega
      exact List.prefix_refl _
    · refine (loose_pre h1).trans ?_
      conv => rhs; unfold looseUp
      exact List.prefix_append _ _
theorem loose_mem : ∀ {n : Nat}, k ∈ looseUp l us j n → k < n ∧ ∃ x, l[k]? = some x ∧ looseB l us j x = true
  | 0, h => by simp [looseUp] at h
  | n + 1, h => by
    unfold looseUp at h
    rcases List.mem_append.1 h with h | h
    · obtain ⟨h1, h2⟩ := loose_mem h
      exact ⟨by omega, h2⟩
    · cases hl : l[n]? with
      | none => rw [hl] at h; simp at h
      | some y =>
        rw [hl] at h
        by_cases hy : looseB l us j y = true
        · simp [hy] at h
          subst h
          exact ⟨by omega, y, hl, hy⟩
        · simp [hy] at h
end
/-- What the iterator reads. -/
structure LIn (gl gb gj : Nat) (X : Option Addr) (cap : Nat) (l : List JV) (U : Option Addr) (cu : Nat) (us : List Int) (j : JV) (Y : Option Addr) (cj : Nat) (w : World) : Prop where
  kl : Blk w gl 27 #[.slice X l.length cap]
  kb : Blk w gb 31 #[.slice U us.length cu]
  kj : Blk w gj 33 #[.int .i64 j.id, .int .i64 j.us, .int .i64 j.cl, .int .i64 j.x.a, .int .i64 j.x.b, .int .i64 j.x.c, .bool j.x.p, .bool j.x.q, .bool j.x.r, .bool j.x.tn, .int .i64 j.wa, .int .i64 j.pr, .bool j.he, .slice Y j.af.length cj, .int .u8 j.st, .int .i64 j.ca]
  xs : JobsAt w X l
  ns : IntsAt w U us
  ys : IntsAt w Y j.af
theorem LIn.up {gl gb gj : Nat} {X : Option Addr} {cap : Nat} {l : List JV} {U : Option Addr} {cu : Nat} {us : List Int} {j : JV} {Y : Option Addr} {cj : Nat} {w w' : World} (h : LIn gl gb gj X cap l U cu us j Y cj w) (hB : Below w.heap.size w w') : LIn gl gb gj X cap l U cu us j Y cj w' :=
  ⟨h.kl.below hB h.kl.lt, h.kb.below hB h.kb.lt, h.kj.below hB h.kj.lt, h.xs.up hB, h.ns.up hB, h.ys.up hB⟩
theorem abides_below {β : Type} {B : Nat} {J : β → World → Prop} (h : AbidesFrom B J) {s : β} {w w' : World} (hs : J s w) (hb : Below w.heap.size w w') : J s w' := h s w w' none hs (grown_b hb) (fun r e => by cases e)
set_option maxRecDepth 100000 in
set_option maxHeartbeats 8000000 in
theorem loose1_any (lp gl gb gj : Nat) (X : Option Addr) (cap : Nat) (l : List JV) (U : Option Addr) (cu : Nat) (us : List Int) (j : JV) (Y : Option Addr) (cj : Nat) (hl : l.length ≤ 4611686018427387904) (hla : ∀ j ∈ l, j.af.length ≤ 4611686018427387904) (hlu : us.length ≤ 4611686018427387904) (hlj : j.af.length ≤ 4611686018427387904)
    (w0 : World) (hI : LIn gl gb gj X cap l U cu us j Y cj w0) (J Jx : List Nat → World → Prop) (W : World) (hW : Below w0.heap.size w0 W) (hJ : AbidesFrom W.heap.size J)
    (hY : ∀ (pre : List Nat) (x : Nat) W1, J pre W1 → pre ++ [x] <+: looseUp l us j l.length → YieldAt Fence.wide 3 Try.prog lp #[.int .i64 (x : Int)] W1 fun e W' => (e = .returned (.bool true) ∧ J (pre ++ [x]) W' ∧ Below w0.heap.size W1 W') ∨ (e = .returned (.bool false) ∧ Jx (pre ++ [x]) W'))
    (h0 : J [] W) :
    Calls Try.prog 61 #[.func (.yield lp) #[] #[], .pointer (some ⟨gl, 0, none⟩), .pointer (some ⟨gb, 0, none⟩), .pointer (some ⟨gj, 0, none⟩)] W fun e W' => (∃ v, e = .returned v) ∧
      ((∃ xs, xs = looseUp l us j l.length ∧ J xs W') ∨ (∃ pre, pre <+: looseUp l us j l.length ∧ Jx pre W')) := by
  have HY := Lib.hid hY
  have HJ := Lib.hid hJ
  have HI := Lib.hid (fun (W : World) (hW : Below w0.heap.size w0 W) => hI.up hW)
  have H0 := Lib.hid h0
  have HW := Lib.hid hW
  have HLN := Lib.hid (And.intro hl (And.intro hla (And.intro hlu hlj)))
  have cl0 := (HI.out W HW.out).kl.cell 0
  clear hY hI h0 hJ hW hla hlu hlj
  go_enter Try.func61, Try.ntmps61
  go_wp2_with fail
  go_loopw [10] (fun i wr => ∃ k : Nat, k ≤ l.length ∧ i = .int .i64 k ∧ Hid (J (looseUp l us j k) wr) ∧ Hid (Below w0.heap.size w0 wr)) (fun i _ => l.length - (intOf i).toNat)
  case atStart => exact ⟨0, Nat.zero_le _, rfl, H0.out, HW.out⟩
  case round =>
    clear H0 HW cl0
    obtain ⟨k, hk, rfl, hJk, hB⟩ := hrel
    by_cases hlt : k < l.length
    rotate_left
    · obtain rfl : k = l.length := by omega
      go_wp2_with fail
      go_end0
      exact ⟨⟨_, rfl⟩, .inl ⟨_, rfl, hJk.out⟩⟩
    have hg : l[k]? = some l[k] := List.getElem?_eq_getElem hlt
    generalize l[k] = x at hg
    have hki : (k : Int) < (l.length : Int) := by omega
    obtain ⟨b, o, Yx, cx, hXe, hb, hJ2, hYx⟩ := (HI.out wr hB.out).xs k x hg
    subst hXe
    have HR := Lib.hid hJ2.range
    have HG := Lib.hid (And.intro hg hYx)
    have x5 := box_full (W := wr) 33 #[.int .i64 0, .int .i64 0, .int .i64 0, .int .i64 0, .int .i64 0, .int .i64 0, .bool false, .bool false, .bool false, .bool false, .int .i64 0, .int .i64 0, .bool false, .slice none 0 0, .int .u8 0, .int .i64 0] (vs := [.int .i64 x.id, .int .i64 x.us, .int .i64 x.cl, .int .i64 x.x.a, .int .i64 x.x.b, .int .i64 x.x.c, .bool x.x.p, .bool x.x.q, .bool x.x.r, .bool x.x.tn, .int .i64 x.wa, .int .i64 x.pr, .bool x.he, .slice Yx x.af.length cx, .int .u8 x.st, .int .i64 x.ca]) rfl
    clear hg hYx hJ2 hb
    go_upto_region 4 with (first | (refine wpList_load_mid rfl 33 _ rfl _ _ rfl _ _ HR.out Try.underlying33 rfl (by kernel_rfl) ?_) | (refine wpList_store_mid rfl 33 _ _ rfl wr.heap.size 0 (List.toArray [.int .i64 x.id, .int .i64 x.us, .int .i64 x.cl, .int .i64 x.x.a, .int .i64 x.x.b, .int .i64 x.x.c, .bool x.x.p, .bool x.x.q, .bool x.x.r, .bool x.x.tn, .int .i64 x.wa, .int .i64 x.pr, .bool x.he, .slice Yx x.af.length cx, .int .u8 x.st, .int .i64 x.ca]) rfl rfl (there0 (Blk.new wr 33 #[.int .i64 0, .int .i64 0, .int .i64 0, .int .i64 0, .int .i64 0, .int .i64 0, .bool false, .bool false, .bool false, .bool false, .int .i64 0, .int .i64 0, .bool false, .slice none 0 0, .int .u8 0, .int .i64 0]) rfl) (by kernel_rfl) (by kernel_rfl) ?_; simp only [List.toList_toArray]; generalize World.setCells _ _ _ _ = w5 at *; (try simp only [Act.put])))
    have HB5 := Lib.hid (below_up hB.out x5.2)
    have HJ5 := Lib.hid (abides_below HJ.out hJk.out x5.2)
    have KX := Lib.hid x5.1
    obtain ⟨gx, hgx⟩ : ∃ n, n = wr.heap.size := ⟨_, rfl⟩
    rw [← hgx] at KX
    rw [← hgx]
    clear x5 hgx HR hB hJk
    have hx0 : w5.cell? ⟨gx, 0, none⟩ = some (.int .i64 x.id) := KX.out.cell 0
    have hx14 : w5.cell? ⟨gx, 14, none⟩ = some (.int .u8 x.st) := KX.out.cell 14
    have I5 := Lib.hid (HI.out w5 HB5.out)
    have cb : w5.cell? ⟨gb, 0, none⟩ = some (.slice U us.length cu) := I5.out.kb.cell 0
    have RJ := Lib.hid (show w5.rangeAt gj 0 [.int .i64 j.id, .int .i64 j.us, .int .i64 j.cl, .int .i64 j.x.a, .int .i64 j.x.b, .int .i64 j.x.c, .bool j.x.p, .bool j.x.q, .bool j.x.r, .bool j.x.tn, .int .i64 j.wa, .int .i64 j.pr, .bool j.he, .slice Y j.af.length cj, .int .u8 j.st, .int .i64 j.ca] from range0 I5.out.kj)
    go_cut [34] from 11 to 39 (fun s wx => s = .bool (!looseB l us j x) ∧ Hid (J (looseUp l us j k) wx) ∧ Hid (Below w0.heap.size w0 wx))
    case first =>
      obtain ⟨b0, hb0⟩ : ∃ b, b = decide (x.st < 3) := ⟨_, rfl⟩
      obtain ⟨b1, hb1⟩ : ∃ b, b = decide (x.id ∈ us) := ⟨_, rfl⟩
      obtain ⟨b2, hb2⟩ : ∃ b, b = decide (x.id ∈ j.af) := ⟨_, rfl⟩
      obtain ⟨b3, hb3⟩ : ∃ b, b = l.any fun y => decide (x.id ∈ y.af) := ⟨_, rfl⟩
      have HC1 := Lib.hid (iContains U cu us x.id HLN.out.2.2.1 w5 I5.out.ns)
      have HC2 := Lib.hid (waits_any gx x.id j Y cj HLN.out.2.2.2 w5 hx0 I5.out.ys)
      have HC3 := Lib.hid (fun (W : World) (hB : Below w5.heap.size w5 W) => any_waits gx x.id (some ⟨b, o, none⟩) cap l HLN.out.1 HLN.out.2.1 W (keep_cell hx0 hB) (I5.out.xs.up hB))
      have HL := Lib.hid (show looseB l us j x = !(b0 || b1 || b2 || b3) by unfold looseB; rw [hb0, hb1, hb2, hb3])
      rw [← hb1] at HC1
      rw [← hb2] at HC2
      rw [← hb3] at HC3
      have d0 := hb0.symm
      clear hb0 hb1 hb2 hb3
      cases b0
      rotate_left
      · go_wp2_with fail
        go_meet
        exact ⟨by rw [HL.out]; rfl, HJ5.out, HB5.out⟩
      go_wp2_with fail
      refine HC1.out.mono ?_
      rintro e w6 ⟨rfl, rfl⟩
      cases b1
      rotate_left
      · go_wp2_with fail
        go_meet
        exact ⟨by rw [HL.out]; rfl, HJ5.out, HB5.out⟩
      go_wp2_with (first | (refine wpList_load_mid_g (by rfl) 33 _ rfl _ _ rfl _ _ RJ.out Try.underlying33 rfl (by kernel_rfl) ?_))
      refine HC2.out.mono ?_
      rintro e w7 ⟨rfl, hB7⟩
      have HB7 := Lib.hid hB7
      have cl7 := keep_cell (I5.out.kl.cell 0) hB7
      clear hB7
      cases b2
      rotate_left
      · go_wp2_with fail
        go_meet
        exact ⟨by rw [HL.out]; rfl, abides_below HJ.out HJ5.out HB7.out, below_up HB5.out HB7.out⟩
      go_wp2_with fail
      refine (HC3.out _ HB7.out).mono ?_
      rintro e w8 ⟨rfl, hB8⟩
      have HB8 := Lib.hid (below_up HB7.out hB8)
      clear hB8
      go_wp2_with fail
      go_meet
      exact ⟨by rw [HL.out]; cases b3 <;> rfl, abides_below HJ.out HJ5.out HB8.out, below_up HB5.out HB8.out⟩
    case rest =>
      obtain ⟨rfl, hJ6, hB6⟩ := hcut
      obtain ⟨BL, hBL⟩ : ∃ b, b = looseB l us j x := ⟨_, rfl⟩
      rw [← hBL]
      have HBL := Lib.hid hBL
      clear HB5 HJ5 hx0 hx14 I5 cb RJ KX hBL
      cases BL
      · simp only [Bool.not_false]
        go_wp2_with fail
        go_roundw
        case rel => exact ⟨k + 1, by omega, by go_num, by rw [loose_no HG.out.1 HBL.out.symm]; exact hJ6.out, hB6.out⟩
        case measure => simp [intOf]; omega
      have hfull := Lib.hid (show looseUp l us j k ++ [k] <+: looseUp l us j l.length by rw [← loose_yes HG.out.1 HBL.out.symm]; exact loose_pre (by omega))
      obtain ⟨fn, tmps, assign, body, hy, hR⟩ := HY.out _ k wc hJ6.out hfull.out
      have HR := Lib.hid hR
      have hy2 : (Instr.yield lp #[.int .i64 (k : Int)]).run Try.prog wc = .ok (.round lp fn tmps assign body) wc := hy
      clear hR hy
      simp only [Bool.not_true]
      go_upto_region 5 with fail
      refine (wpIn_wide (n := 4)).1 ?_
      gi_wp2
      refine HR.out.mono ?_
      rintro e W3 (⟨rfl, hJ3, hk3⟩ | ⟨rfl, hJx3⟩)
      · have HJ3 := Lib.hid (And.intro hJ3 hk3)
        clear hJ3 hk3
        gi_wp2
        go_wp2_with fail
        go_roundw
        case rel => exact ⟨k + 1, by omega, by go_num, by rw [loose_yes HG.out.1 HBL.out.symm]; exact HJ3.out.1, hB6.out.trans HJ3.out.2⟩
        case measure => simp [intOf]; omega
      · have HJ3 := Lib.hid hJx3
        clear hJx3
        gi_wp2
        go_wp2_with fail
        refine bodyPost_ret (results_none rfl _ _ _) rfl ?_
        exact ⟨⟨_, rfl⟩, .inr ⟨_, hfull.out, HJ3.out⟩⟩
/-- The iterator's contract. -/
theorem loose_seq (gl gb gj : Nat) (X : Option Addr) (cap : Nat) (l : List JV) (U : Option Addr) (cu : Nat) (us : List Int) (j : JV) (Y : Option Addr) (cj : Nat) (hl : l.length ≤ 4611686018427387904) (hla : ∀ j ∈ l, j.af.length ≤ 4611686018427387904) (hlu : us.length ≤ 4611686018427387904) (hlj : j.af.length ≤ 4611686018427387904)
    (w0 : World) (hI : LIn gl gb gj X cap l U cu us j Y cj w0) :
    SeqR Fence.wide 4 Try.prog 61 #[.pointer (some ⟨gl, 0, none⟩), .pointer (some ⟨gb, 0, none⟩), .pointer (some ⟨gj, 0, none⟩)] (fun x : Nat => #[.int .i64 (x : Int)]) (Below w0.heap.size) (fun _ _ => True) (fun xs => xs = looseUp l us j l.length) (fun pre => pre <+: looseUp l us j l.length) w0 := fun lp J Jx W hW hJ _ hY h0 =>
  callsIn_wide.2 (loose1_any lp gl gb gj X cap l U cu us j Y cj hl hla hlu hlj w0 hI J Jx W hW hJ (fun pre x W1 h1 h2 => hY pre x W1 h1 trivial h2) h0)
theorem loose_in (F : Fence) (n : Nat) (hf : F.fn 42) (hro : F.round = none) (X U Y : Option Addr) (n0 c0 n1 c1 cj : Nat) (j : JV) (w : World) :
    CallsIn F n Try.prog 42 #[.slice X n0 c0, .slice U n1 c1, .agg #[.int .i64 j.id, .int .i64 j.us, .int .i64 j.cl, .int .i64 j.x.a, .int .i64 j.x.b, .int .i64 j.x.c, .bool j.x.p, .bool j.x.q, .bool j.x.r, .bool j.x.tn, .int .i64 j.wa, .int .i64 j.pr, .bool j.he, .slice Y j.af.length cj, .int .u8 j.st, .int .i64 j.ca]] w fun e w' => e = .returned (.func (.func 61) #[] #[.pointer (some ⟨w.heap.size, 0, none⟩), .pointer (some ⟨w.heap.size + 1, 0, none⟩), .pointer (some ⟨w.heap.size + 1 + 1, 0, none⟩)]) ∧ w' = ((w.alloc (.cells #[.slice X n0 c0] 27)).alloc (.cells #[.slice U n1 c1] 31)).alloc (.cells #[.int .i64 j.id, .int .i64 j.us, .int .i64 j.cl, .int .i64 j.x.a, .int .i64 j.x.b, .int .i64 j.x.c, .bool j.x.p, .bool j.x.q, .bool j.x.r, .bool j.x.tn, .int .i64 j.wa, .int .i64 j.pr, .bool j.he, .slice Y j.af.length cj, .int .u8 j.st, .int .i64 j.ca] 33) := by
  refine callsIn_of_wp Try.func42 rfl hf ?_ hro
  simp only [Try.ntmps42, List.size_toArray, List.length_cons, List.length_nil, Nat.reduceAdd, Nat.reduceSub, Array.replicate_succ, Array.replicate_zero, List.push_toArray, List.append_toArray, List.nil_append, List.cons_append]
  gi_wp2
  go_ret
  exact ⟨rfl, rfl⟩
end Go.Proofs.Ytaldgmmmcbikgaa.Loose
