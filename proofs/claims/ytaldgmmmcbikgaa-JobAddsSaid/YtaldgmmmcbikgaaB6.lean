/- Several texts joined: The reference's Twin, its row told as a row of one's own. No conditions but those named. -/
import Derived.Laws.AppendOwn
import Derived.OwnWalk
import Derived.BigQuiet
import Derived.Deep.QuietTactic
import Derived.Deep.MidRow
import Derived.Test.YtaldgmmmcbikgaaJobTwin
import Derived.Test.YtaldgmmmcbikgaaJobRTwin
import Derived.Lib.QuietBelow
import Derived.Deep.DeepCutAuto
import Derived.IntWalk
import Derived.Test.YtaldgmmmcbikgaaB2
import Derived.Test.YtaldgmmmcbikgaaQuietRow
import Derived.Deep.RegionLaw
import Derived.Test.YtaldgmmmcbikgaaB4
import Derived.Test.YtaldgmmmcbikgaaJobRef3
/-! The reference's Twin, its row told as a row of one's own. No conditions but those named. -/
namespace Go.Proofs.Ytaldgmmmcbikgaa.RfTwin
open Go.RowKit Mem PosMath PartMath TurnMath JobMath JobMem JobTwin JobRTwin
set_option linter.unusedVariables false
set_option linter.unusedSimpArgs false

theorem TwinO.more {w : World} {B : Nat} {v : Value} {l : List JV} {x : JV} {O : List Value} (h : TwinO w B v l l.length O) : TwinO w B v (l ++ [x]) l.length O :=
  ⟨h.1, fun i j hi hj => h.2 i j hi (by rwa [List.getElem?_append_left hi] at hj)⟩
theorem TwinO.up {w w' : World} {B : Nat} {v : Value} {l : List JV} {k : Nat} {O : List Value} (h : TwinO w B v l k O) (hB : Below w.heap.size w w') : TwinO w' B v l k O :=
  ⟨ownsRow_below h.1 hB, fun i j hi hj => by obtain ⟨Y, c, h1, h2⟩ := h.2 i j hi hj; exact ⟨Y, c, h1, h2.up hB⟩⟩
set_option maxRecDepth 100000 in
set_option maxHeartbeats 4000000 in
theorem rtwinO (X : Option Addr) (cap : Nat) (l : List JV) (hl : l.length ≤ 1000) (hla : ∀ j ∈ l, j.af.length ≤ 1000) (w : World) (hX : JobsAt w X l) :
    Calls Try.prog 9 #[.slice X l.length cap] w fun e w' => ∃ v O, e = .returned v ∧ TwinO w' w.heap.size v l l.length O ∧ Below w.heap.size w w' := by
  obtain ⟨ii, a0, a1, a2, a3⟩ := info_parts int_info
  obtain ⟨ij, b0, b1, b2, b3⟩ := info_parts job_info
  have HII := Lib.hid (And.intro a0 (And.intro a1 (And.intro a2 a3)))
  have HII2 := Lib.hid (And.intro b0 (And.intro b1 (And.intro b2 b3)))
  have HX := Lib.hid hX
  have HLA := Lib.hid hla
  clear hX hla a0 a1 a2 a3 b0 b1 b2 b3
  go_enter Try.func9, Try.ntmps9
  go_wp2_with fail
  go_loopw [3, 4] (fun v i wr => ∃ (k : Nat) (O : List Value) (vv : Value), vv = v ∧ k ≤ l.length ∧ i = .int .i64 k ∧ Hid (TwinO wr w.heap.size vv l k O) ∧ Hid (Below w.heap.size w wr))
    (fun _ i _ => l.length - (intOf i).toNat)
  case atStart => exact ⟨0, [], _, rfl, Nat.zero_le _, rfl, TwinO.start w _ l, Below.refl _ _⟩
  case round =>
    obtain ⟨k, O, v, hv, hk, rfl, hT, hB⟩ := hrel
    subst hv
    by_cases hlt : k < l.length
    · have hg : l[k]? = some l[k] := List.getElem?_eq_getElem hlt
      generalize l[k] = x at hg
      have hki : (k : Int) < (l.length : Int) := by omega
      have hki0 : (0 : Int) ≤ (k : Int) := by omega
      have haf := HLA.out x (List.mem_of_getElem? hg)
      obtain ⟨b, o, Y, c, rfl, hb, hJ, hY⟩ := HX.out.up hB.out k x hg
      have HJ := Lib.hid hJ
      have HG := Lib.hid hg
      have HR := Lib.hid (And.intro ((ints_reads hY).alloc (Nat.le_refl _) (.cells #[.int .i64 x.id, .int .i64 x.us, .int .i64 x.cl, .int .i64 x.x.a, .int .i64 x.x.b, .int .i64 x.x.c, .bool x.x.p, .bool x.x.q, .bool x.x.r, .bool x.x.tn, .int .i64 x.wa, .int .i64 x.pr, .bool x.he, .slice Y x.af.length c, .int .u8 x.st, .int .i64 x.ca] 33)) (And.intro (show ∀ u ∈ x.af.map (Value.int .i64), u.oneCell' = true from fun u hu => by
        obtain ⟨n, _, rfl⟩ := List.mem_map.1 hu
        rfl) (And.intro trivial (show ∀ j, v.ownBlock = some j → j < wr.heap.size + 1 from fun j hj => by have := (hT.out.1.lt j hj).2; omega))))
      have HT := Lib.hid hT.out
      have HBs := Lib.hid hB.out.size
      clear hg hJ hY hT
      go_wp2_with (first | (refine wpList_load_mid rfl 33 _ rfl _ _ rfl _ _ HJ.out.range Try.underlying33 rfl (by kernel_rfl) ?_) | (refine wpList_load_row rfl 33 _ rfl _ rfl 33 #[.int .i64 x.id, .int .i64 x.us, .int .i64 x.cl, .int .i64 x.x.a, .int .i64 x.x.b, .int .i64 x.x.c, .bool x.x.p, .bool x.x.q, .bool x.x.r, .bool x.x.tn, .int .i64 x.wa, .int .i64 x.pr, .bool x.he, .slice Y' x.af.length c2, .int .u8 x.st, .int .i64 x.ca] (0, 0) _ K3.out Try.underlying33 rfl (by kernel_rfl) ?_) | (at_builtin; refine wpList_append_any _ rfl (.const (.slice none 0 0)) (.tmp 17) _ rfl (wr.heap.size + 1) 3 ii (.int .i64 0) 1 8 Try.underlying31 HII.out.1 HII.out.2.1 HII.out.2.2.1 HII.out.2.2.2 rfl (by decide) (.slice none 0 0) 0 [] rfl ⟨rfl, .inl ⟨rfl, rfl⟩⟩ wr.heap.size Y x.af.length c (x.af.map (Value.int .i64)) rfl HR.out.1 HR.out.2.1 (by simp only [maxLen]; omega) (by omega) (by simp) ?_; intro v2 w2 hown hg hat; (obtain ⟨Y', c2, rfl, hI⟩ := ints_new (B := wr.heap.size + 1) (ob := v.ownBlock) HR.out.2.2.2 rfl (by simpa using hown)); have kb2 : Blk w2 wr.heap.size 33 #[.int .i64 x.id, .int .i64 x.us, .int .i64 x.cl, .int .i64 x.x.a, .int .i64 x.x.b, .int .i64 x.x.c, .bool x.x.p, .bool x.x.q, .bool x.x.r, .bool x.x.tn, .int .i64 x.wa, .int .i64 x.pr, .bool x.he, .slice Y x.af.length c, .int .u8 x.st, .int .i64 x.ca] := (Blk.new wr _ _).grown hg (by simp [Value.ownBlock]); have hb2 : Below wr.heap.size wr w2 := (below_alloc (Below.refl _ wr)).grown hg (by simp) (by intro j hj; cases hj); have y13 : w2.cell? ⟨wr.heap.size, 13, none⟩ = some (.slice Y x.af.length c) := kb2.cell 13; have g13 : w2.frozen? ⟨wr.heap.size, 13, none⟩ = false := kb2.frozen 13; have kb3 : Blk (w2.setCell ⟨wr.heap.size, 13, none⟩ (.slice Y' x.af.length c2)) wr.heap.size 33 #[.int .i64 x.id, .int .i64 x.us, .int .i64 x.cl, .int .i64 x.x.a, .int .i64 x.x.b, .int .i64 x.x.c, .bool x.x.p, .bool x.x.q, .bool x.x.r, .bool x.x.tn, .int .i64 x.wa, .int .i64 x.pr, .bool x.he, .slice Y' x.af.length c2, .int .u8 x.st, .int .i64 x.ca] := kb2.set_ 13 _; have K3 := Lib.hid kb3; have HI3 := Lib.hid (IntsNew.far (p := ⟨wr.heap.size, 13, none⟩) (.slice Y' x.af.length c2) hI (by show wr.heap.size < wr.heap.size + 1; omega)); have HB3 := Lib.hid (hb2.setCell (p := ⟨wr.heap.size, 13, none⟩) (Nat.le_refl _) (.slice Y' x.af.length c2)); clear hown hg hat hI kb2 kb3 hb2) | (at_builtin; refine wpList_append_any _ rfl (.tmp 20) (.tmp 22) _ rfl w.heap.size 33 ij (.agg #[.int .i64 0, .int .i64 0, .int .i64 0, .int .i64 0, .int .i64 0, .int .i64 0, .bool false, .bool false, .bool false, .bool false, .int .i64 0, .int .i64 0, .bool false, .slice none 0 0, .int .u8 0, .int .i64 0]) 16 120 Try.underlying27 HII2.out.1 HII2.out.2.1 HII2.out.2.2.1 HII2.out.2.2.2 rfl (by decide) v k O rfl (ownsRow_below HT.out.1 (below_alloc HB3.out)) _ _ 1 1 (x.arr Y' c2).toList rfl (reads_job (w2.setCell ⟨wr.heap.size, 13, none⟩ (.slice Y' x.af.length c2)) w2.heap.size (World.size_setCell ..).symm (x.arr Y' c2) rfl) (fun u hu => job_one u hu) (by simp only [maxLen]; omega) (by omega) (by have := HBs.out; have := HB3.out.size; simp; simp at this; omega) ?_; intro v5 w5 hown hg hat; have H5 := Lib.hid (And.intro hown (And.intro hg hat)); clear hown hg hat))
      go_roundw
      case rel => exact ⟨k + 1, _, v5, rfl, by omega, by go_num, TwinO.step HT.out (below_alloc HB3.out) HG.out ((HI3.out.less (by have := HBs.out; omega)).up (below_alloc (Below.refl _ _))) H5.out.2.1 H5.out.1 (by simpa using H5.out.2.2), (below_alloc (below_up hB.out HB3.out)).grown H5.out.2.1 (by have := HBs.out; have := HB3.out.size; simp; simp at this; omega) (fun j hj => (HT.out.1.lt j hj).1)⟩
      case measure => simp [intOf]; omega
    · obtain rfl : k = l.length := by omega
      go_wp2_with fail
      go_ret
      exact ⟨_, O, rfl, hT.out, hB.out⟩
end Go.Proofs.Ytaldgmmmcbikgaa.RfTwin
/-! The reference: who is among some, waited for, and may go. No conditions but those named. -/
namespace Go.Proofs.Ytaldgmmmcbikgaa.RfRoom
open Go.Sort (grow)
open Go Go.RowKit Mem PosMath PartMath TurnMath JobMath JobIndex LooseI Loose
set_option linter.unusedVariables false
set_option linter.unusedSimpArgs false

set_option maxRecDepth 100000 in
set_option maxHeartbeats 8000000 in
theorem ramong (X : Option Addr) (cap : Nat) (l : List Int) (n : Int) (hl : l.length ≤ 4611686018427387904) (w : World) (hX : IntsAt w X l) :
    Calls Try.prog 76 #[.slice X l.length cap, .int .i64 n] w fun e w' => e = .returned (.bool (decide (n ∈ l))) ∧ Below w.heap.size w w' := by
  have HX := Lib.hid hX
  clear hX
  go_enter Try.func76, Try.ntmps76
  go_wp2_with fail
  go_loopw [5] (fun i wr => ∃ k : Nat, k ≤ l.length ∧ i = .int .i64 k ∧ Hid (∀ j x, j < k → l[j]? = some x → x ≠ n) ∧ Hid (wr = w))
    (fun i _ => l.length - (intOf i).toNat)
  case atStart => exact ⟨0, Nat.zero_le _, rfl, fun j x h => by omega, rfl⟩
  case round =>
    obtain ⟨k, hk, rfl, hP, hB⟩ := hrel
    by_cases hlt : k < l.length
    · have hg : l[k]? = some l[k] := List.getElem?_eq_getElem hlt
      generalize l[k] = v at hg
      have hki : (k : Int) < (l.length : Int) := by omega
      obtain ⟨b, o, rfl, hb, hx⟩ := HX.out k v hg
      rw [← hB.out] at hx hb
      have HG := Lib.hid hg
      clear hg hb
      by_cases hv : v = n
      · have hv1 : (v == n) = true := by simpa using hv
        have HV := Lib.hid hv
        clear hv
        go_wp2_with fail
        go_ret
        exact ⟨by rw [decide_eq_true (show n ∈ l by rw [← HV.out]; exact List.mem_of_getElem? HG.out)]; rfl, by rw [hB.out]; exact Below.refl _ _⟩
      · have hv1 : (v == n) = false := by simpa using hv
        have HV := Lib.hid hv
        clear hv
        go_wp2_with fail
        go_roundw
        case rel => exact ⟨k + 1, by omega, by go_num, (fun j z hj hz => by
            rcases Nat.lt_or_ge j k with h | h
            · exact hP.out j z h hz
            · obtain rfl : j = k := by omega
              rw [HG.out] at hz; cases hz; exact HV.out), hB.out⟩
        case measure => simp [intOf]; omega
    · obtain rfl : k = l.length := by omega
      go_wp2_with fail
      go_ret
      refine ⟨?_, by rw [hB.out]; exact Below.refl _ _⟩
      have h0 : decide (n ∈ l) = false := decide_eq_false fun h => by
        obtain ⟨i, hi, e⟩ := List.mem_iff_getElem.1 h
        exact hP.out i _ hi (List.getElem?_eq_getElem hi) e
      rw [h0]; rfl
set_option maxRecDepth 100000 in
set_option maxHeartbeats 8000000 in
theorem rwaited (X : Option Addr) (cap : Nat) (l : List JV) (n : Int) (hl : l.length ≤ 4611686018427387904) (hla : ∀ j ∈ l, j.af.length ≤ 4611686018427387904) (w : World) (hX : JobsAt w X l) :
    Calls Try.prog 77 #[.slice X l.length cap, .int .i64 n] w fun e w' => e = .returned (.bool (l.any fun y => decide (n ∈ y.af))) ∧ Below w.heap.size w w' := by
  have HX := Lib.hid (And.intro hX hla)
  obtain ⟨V, hV⟩ : ∃ V, V = l.any fun y => decide (n ∈ y.af) := ⟨_, rfl⟩
  rw [← hV]
  have HV := Lib.hid hV
  clear hX hla hV
  go_enter Try.func77, Try.ntmps77
  go_wp2_with fail
  go_loopw [5] (fun i wr => ∃ k : Nat, k ≤ l.length ∧ i = .int .i64 k ∧ Hid (∀ q y, q < k → l[q]? = some y → n ∉ y.af) ∧ Hid (wr = w))
    (fun i _ => l.length - (intOf i).toNat)
  case atStart => exact ⟨0, Nat.zero_le _, rfl, fun j x h => by omega, rfl⟩
  case round =>
    obtain ⟨k, hk, rfl, hP, hB⟩ := hrel
    by_cases hlt : k < l.length
    · have hg : l[k]? = some l[k] := List.getElem?_eq_getElem hlt
      generalize l[k] = y at hg
      have hki : (k : Int) < (l.length : Int) := by omega
      have hki0 : (0 : Int) ≤ (k : Int) := by omega
      obtain ⟨b, o, Yy, cy, rfl, hb, hJ, hYy⟩ := HX.out.1 k y hg
      have hyl := HX.out.2 y (List.mem_of_getElem? hg)
      rw [← hB.out] at hJ hYy
      have y13 : wr.cell? ⟨b, o + k * 16 + 13, none⟩ = some (.slice Yy y.af.length cy) := hJ.2.2.2.2.2.2.2.2.2.2.2.2.2.1
      have HG := Lib.hid (And.intro hg hYy)
      clear hg hb hJ hYy
      go_wp2_with fail
      go_loopw [6] (fun i wq => ∃ m : Nat, m ≤ y.af.length ∧ i = .int .i64 m ∧ Hid (∀ q v, q < m → y.af[q]? = some v → v ≠ n) ∧ Hid (wq = wr))
        (fun i _ => y.af.length - (intOf i).toNat)
      case atStart => exact ⟨0, Nat.zero_le _, rfl, fun j x h => by omega, rfl⟩
      case round =>
        obtain ⟨m, hm, rfl, hQ, hB2⟩ := hrel
        rw [← hB2.out] at y13
        by_cases hml : m < y.af.length
        · have hgm : y.af[m]? = some y.af[m] := List.getElem?_eq_getElem hml
          generalize y.af[m] = v at hgm
          have hmi : (m : Int) < (y.af.length : Int) := by omega
          obtain ⟨b2, o2, e2, hb2, hx2⟩ := HG.out.2 m v hgm
          rw [← hB2.out] at hx2
          subst e2
          have HGM := Lib.hid hgm
          clear hgm hb2
          by_cases hv : v = n
          · have hv1 : (v == n) = true := by simpa using hv
            have HVN := Lib.hid hv
            clear hv
            go_wp2_with fail
            go_ret
            refine ⟨?_, by rw [hB2.out, hB.out]; exact Below.refl _ _⟩
            rw [HV.out, List.any_eq_true.2 ⟨y, List.mem_of_getElem? HG.out.1, by simpa using (show n ∈ y.af by rw [← HVN.out]; exact List.mem_of_getElem? HGM.out)⟩]; rfl
          · have hv1 : (v == n) = false := by simpa using hv
            have HVN := Lib.hid hv
            clear hv
            go_wp2_with fail
            go_roundw
            case rel => exact ⟨m + 1, by omega, by go_num, (fun j z hj hz => by
                rcases Nat.lt_or_ge j m with h | h
                · exact hQ.out j z h hz
                · obtain rfl : j = m := by omega
                  rw [HGM.out] at hz; cases hz; exact HVN.out), hB2.out⟩
            case measure => simp [intOf]; omega
        · obtain rfl : m = y.af.length := by omega
          have HN := Lib.hid (show n ∉ y.af from fun h => by
            obtain ⟨i, hi, e⟩ := List.mem_iff_getElem.1 h
            exact hQ.out i _ hi (List.getElem?_eq_getElem hi) e)
          go_wp2_with fail
          go_roundw
          case rel => exact ⟨k + 1, by omega, by go_num, (fun j z hj hz => by
              rcases Nat.lt_or_ge j k with h | h
              · exact hP.out j z h hz
              · obtain rfl : j = k := by omega
                rw [HG.out.1] at hz; cases hz; exact HN.out), by rw [hB2.out, hB.out]; rfl⟩
          case measure => simp [intOf]; omega
    · obtain rfl : k = l.length := by omega
      go_wp2_with fail
      go_ret
      refine ⟨?_, by rw [hB.out]; exact Below.refl _ _⟩
      rw [HV.out, List.any_eq_false.2 fun y hy => by
        obtain ⟨i, hi, e⟩ := List.mem_iff_getElem.1 hy
        simpa using hP.out i y hi (by rw [List.getElem?_eq_getElem hi, e])]; rfl
/-- What Room answers. -/
def roomV (l : List JV) (us : List Int) (j : JV) : Int := match (looseUp l us j l.length).head? with | some i => (i : Int) | none => -1
set_option maxRecDepth 100000 in
set_option maxHeartbeats 8000000 in
theorem rroom (X : Option Addr) (cap : Nat) (l : List JV) (U : Option Addr) (cu : Nat) (us : List Int) (j : JV) (Y : Option Addr) (cj : Nat) (hl : l.length ≤ 4611686018427387904) (hla : ∀ j ∈ l, j.af.length ≤ 4611686018427387904) (hlu : us.length ≤ 4611686018427387904) (hlj : j.af.length ≤ 4611686018427387904) (w : World) (hX : JobsAt w X l) (hU : IntsAt w U us) (hY : IntsAt w Y j.af) :
    Calls Try.prog 65 #[.slice X l.length cap, .slice U us.length cu, .agg #[.int .i64 j.id, .int .i64 j.us, .int .i64 j.cl, .int .i64 j.x.a, .int .i64 j.x.b, .int .i64 j.x.c, .bool j.x.p, .bool j.x.q, .bool j.x.r, .bool j.x.tn, .int .i64 j.wa, .int .i64 j.pr, .bool j.he, .slice Y j.af.length cj, .int .u8 j.st, .int .i64 j.ca]] w fun e w' => e = .returned (.int .i64 (roomV l us j)) ∧ Below w.heap.size w w' := by
  have HX := Lib.hid (And.intro hX (And.intro hU hY))
  have HLN := Lib.hid (And.intro hla (And.intro hlu hlj))
  obtain ⟨V, hV⟩ : ∃ V, V = roomV l us j := ⟨_, rfl⟩
  rw [← hV]
  have HV := Lib.hid hV
  clear hX hU hY hla hlu hlj hV
  go_enter Try.func65, Try.ntmps65
  go_upto_region 1 with fail
  have kj : Blk (w.alloc (.cells #[.int .i64 j.id, .int .i64 j.us, .int .i64 j.cl, .int .i64 j.x.a, .int .i64 j.x.b, .int .i64 j.x.c, .bool j.x.p, .bool j.x.q, .bool j.x.r, .bool j.x.tn, .int .i64 j.wa, .int .i64 j.pr, .bool j.he, .slice Y j.af.length cj, .int .u8 j.st, .int .i64 j.ca] 33)) w.heap.size 33 #[.int .i64 j.id, .int .i64 j.us, .int .i64 j.cl, .int .i64 j.x.a, .int .i64 j.x.b, .int .i64 j.x.c, .bool j.x.p, .bool j.x.q, .bool j.x.r, .bool j.x.tn, .int .i64 j.wa, .int .i64 j.pr, .bool j.he, .slice Y j.af.length cj, .int .u8 j.st, .int .i64 j.ca] := Blk.new w _ _
  have hb0 : Below w.heap.size w (w.alloc (.cells #[.int .i64 j.id, .int .i64 j.us, .int .i64 j.cl, .int .i64 j.x.a, .int .i64 j.x.b, .int .i64 j.x.c, .bool j.x.p, .bool j.x.q, .bool j.x.r, .bool j.x.tn, .int .i64 j.wa, .int .i64 j.pr, .bool j.he, .slice Y j.af.length cj, .int .u8 j.st, .int .i64 j.ca] 33)) := below_alloc (Below.refl _ _)
  generalize w.alloc (.cells #[.int .i64 j.id, .int .i64 j.us, .int .i64 j.cl, .int .i64 j.x.a, .int .i64 j.x.b, .int .i64 j.x.c, .bool j.x.p, .bool j.x.q, .bool j.x.r, .bool j.x.tn, .int .i64 j.wa, .int .i64 j.pr, .bool j.he, .slice Y j.af.length cj, .int .u8 j.st, .int .i64 j.ca] 33) = w0 at *
  have K0 := Lib.hid (And.intro kj hb0)
  clear kj hb0
  go_wp2_with fail
  go_loopw [7] (fun i wr => ∃ k : Nat, k ≤ l.length ∧ i = .int .i64 k ∧ Hid (looseUp l us j k = []) ∧ Hid (Below w0.heap.size w0 wr)) (fun i _ => l.length - (intOf i).toNat)
  case atStart => exact ⟨0, Nat.zero_le _, rfl, rfl, Below.refl _ _⟩
  case round =>
    obtain ⟨k, hk, rfl, hP, hB⟩ := hrel
    have HBw := Lib.hid (below_up K0.out.2 hB.out)
    by_cases hlt : k < l.length
    rotate_left
    · obtain rfl : k = l.length := by omega
      go_wp2_with fail
      go_ret
      exact ⟨by rw [HV.out]; unfold roomV; rw [hP.out]; rfl, HBw.out⟩
    have hg : l[k]? = some l[k] := List.getElem?_eq_getElem hlt
    generalize l[k] = x at hg
    have hki : (k : Int) < (l.length : Int) := by omega
    have hki0 : (0 : Int) ≤ (k : Int) := by omega
    obtain ⟨b, o, Yx, cx, hXe, hb, hJ, _⟩ := (HX.out.1.up HBw.out) k x hg
    have HXX := Lib.hid (HX.out.1.up HBw.out)
    have z0 : wr.cell? ⟨b, o + k * 16, none⟩ = some (.int .i64 x.id) := hJ.1
    have z14 : wr.cell? ⟨b, o + k * 16 + 14, none⟩ = some (.int .u8 x.st) := hJ.2.2.2.2.2.2.2.2.2.2.2.2.2.2.1
    have x13 : wr.cell? ⟨w.heap.size, 13, none⟩ = some (.slice Y j.af.length cj) := (K0.out.1.below hB.out K0.out.1.lt).cell 13
    have HG := Lib.hid hg
    subst hXe
    clear hg hb hJ
    go_upto_region 4 with fail
    go_cut [50] from 8 to 51 (fun s wx => s = .bool (looseB l us j x) ∧ Hid (Below wr.heap.size wr wx))
    case first =>
      obtain ⟨b0, hb0⟩ : ∃ q, q = decide (3 ≤ x.st) := ⟨_, rfl⟩
      obtain ⟨b1, hb1⟩ : ∃ q, q = decide (x.id ∈ us) := ⟨_, rfl⟩
      obtain ⟨b2, hb2⟩ : ∃ q, q = decide (x.id ∈ j.af) := ⟨_, rfl⟩
      obtain ⟨b3, hb3⟩ : ∃ q, q = l.any fun y => decide (x.id ∈ y.af) := ⟨_, rfl⟩
      have HCA := Lib.hid (fun (W : World) (hB : Below wr.heap.size wr W) (V : Option Addr) (c : Nat) (m : List Int) (bb : Bool) (h : (V = U ∧ c = cu ∧ m = us ∧ bb = b1) ∨ (V = Y ∧ c = cj ∧ m = j.af ∧ bb = b2)) =>
        (show Calls Try.prog 76 #[.slice V m.length c, .int .i64 x.id] W (fun e w' => e = .returned (.bool bb) ∧ Below W.heap.size W w') from by
          rcases h with ⟨rfl, rfl, rfl, rfl⟩ | ⟨rfl, rfl, rfl, rfl⟩
          · rw [hb1]; exact ramong V c m x.id HLN.out.2.1 W ((HX.out.2.1.up HBw.out).up hB)
          · rw [hb2]; exact ramong V c j.af x.id HLN.out.2.2 W ((HX.out.2.2.up HBw.out).up hB)))
      have HC3 := Lib.hid (fun (W : World) (hB : Below wr.heap.size wr W) => rwaited (some ⟨b, o, none⟩) cap l x.id hl HLN.out.1 W (HXX.out.up hB))
      have HL := Lib.hid (show looseB l us j x = (b0 && !b1 && !b3 && !b2) by
        have e0 : decide (x.st < 3) = !b0 := by rw [hb0]; by_cases h : x.st < 3 <;> simp [h] <;> omega
        unfold looseB; rw [e0, ← hb1, ← hb2, ← hb3]; cases b0 <;> cases b1 <;> cases b2 <;> cases b3 <;> rfl)
      rw [← hb3] at HC3
      have d0 := hb0.symm
      clear hb1 hb2 hb3
      cases b0
      · have d1 : ¬ 3 ≤ x.st := of_decide_eq_false d0
        clear hb0
        have kq0 := cell_regrown z0
        have kq1 := cell_regrown z14
        have kq2 := cell_regrown x13
        refine wp_region_quiet_below (by kernel_rfl) (by kernel_rfl) ?_
        repeat (first | go_big_quiet_step (first | fail | exact Calls.regrown_of (HCA.out _ (below_regrown _ _ _) _ _ _ _ (by first | exact Or.inl ⟨rfl, rfl, rfl, rfl⟩ | exact Or.inr ⟨rfl, rfl, rfl, rfl⟩)) | exact Calls.regrown_of (HC3.out _ (below_regrown _ _ _))))
        refine wpQuiet_nil ?_
        intro _ hw'
        obtain ⟨⟨dq, osq⟩, hw''⟩ := hw'
        subst hw''
        have hBq := below_regrown wr dq osq
        clear kq0 kq1 kq2
        generalize grow (redrawn wr dq) osq = w4 at *
        have HBq := Lib.hid hBq
        clear hBq
        go_wp2_with fail
        go_meet
        exact ⟨by rw [HL.out]; rfl, HBq.out⟩
      have d1 : 3 ≤ x.st := of_decide_eq_true d0
      clear hb0
      cases b1
      rotate_left
      · have kq0 := cell_regrown z0
        have kq1 := cell_regrown z14
        have kq2 := cell_regrown x13
        refine wp_region_quiet_below (by kernel_rfl) (by kernel_rfl) ?_
        repeat (first | go_big_quiet_step (first | fail | exact Calls.regrown_of (HCA.out _ (below_regrown _ _ _) _ _ _ _ (by first | exact Or.inl ⟨rfl, rfl, rfl, rfl⟩ | exact Or.inr ⟨rfl, rfl, rfl, rfl⟩)) | exact Calls.regrown_of (HC3.out _ (below_regrown _ _ _))))
        refine wpQuiet_nil ?_
        intro _ hw'
        obtain ⟨⟨dq, osq⟩, hw''⟩ := hw'
        subst hw''
        have hBq := below_regrown wr dq osq
        clear kq0 kq1 kq2
        generalize grow (redrawn wr dq) osq = w4 at *
        have HBq := Lib.hid hBq
        clear hBq
        go_wp2_with fail
        go_meet
        exact ⟨by rw [HL.out]; rfl, HBq.out⟩
      cases b3
      rotate_left
      · have kq0 := cell_regrown z0
        have kq1 := cell_regrown z14
        have kq2 := cell_regrown x13
        refine wp_region_quiet_below (by kernel_rfl) (by kernel_rfl) ?_
        repeat (first | go_big_quiet_step (first | fail | exact Calls.regrown_of (HCA.out _ (below_regrown _ _ _) _ _ _ _ (by first | exact Or.inl ⟨rfl, rfl, rfl, rfl⟩ | exact Or.inr ⟨rfl, rfl, rfl, rfl⟩)) | exact Calls.regrown_of (HC3.out _ (below_regrown _ _ _))))
        refine wpQuiet_nil ?_
        intro _ hw'
        obtain ⟨⟨dq, osq⟩, hw''⟩ := hw'
        subst hw''
        have hBq := below_regrown wr dq osq
        clear kq0 kq1 kq2
        generalize grow (redrawn wr dq) osq = w4 at *
        have HBq := Lib.hid hBq
        clear hBq
        go_wp2_with fail
        go_meet
        exact ⟨by rw [HL.out]; rfl, HBq.out⟩
      cases b2
      · have kq0 := cell_regrown z0
        have kq1 := cell_regrown z14
        have kq2 := cell_regrown x13
        refine wp_region_quiet_below (by kernel_rfl) (by kernel_rfl) ?_
        repeat (first | go_big_quiet_step (first | fail | exact Calls.regrown_of (HCA.out _ (below_regrown _ _ _) _ _ _ _ (by first | exact Or.inl ⟨rfl, rfl, rfl, rfl⟩ | exact Or.inr ⟨rfl, rfl, rfl, rfl⟩)) | exact Calls.regrown_of (HC3.out _ (below_regrown _ _ _))))
        refine wpQuiet_nil ?_
        intro _ hw'
        obtain ⟨⟨dq, osq⟩, hw''⟩ := hw'
        subst hw''
        have hBq := below_regrown wr dq osq
        clear kq0 kq1 kq2
        generalize grow (redrawn wr dq) osq = w4 at *
        have HBq := Lib.hid hBq
        clear hBq
        go_wp2_with fail
        go_meet
        exact ⟨by rw [HL.out]; rfl, HBq.out⟩
      · have kq0 := cell_regrown z0
        have kq1 := cell_regrown z14
        have kq2 := cell_regrown x13
        refine wp_region_quiet_below (by kernel_rfl) (by kernel_rfl) ?_
        repeat (first | go_big_quiet_step (first | fail | exact Calls.regrown_of (HCA.out _ (below_regrown _ _ _) _ _ _ _ (by first | exact Or.inl ⟨rfl, rfl, rfl, rfl⟩ | exact Or.inr ⟨rfl, rfl, rfl, rfl⟩)) | exact Calls.regrown_of (HC3.out _ (below_regrown _ _ _))))
        refine wpQuiet_nil ?_
        intro _ hw'
        obtain ⟨⟨dq, osq⟩, hw''⟩ := hw'
        subst hw''
        have hBq := below_regrown wr dq osq
        clear kq0 kq1 kq2
        generalize grow (redrawn wr dq) osq = w4 at *
        have HBq := Lib.hid hBq
        clear hBq
        go_wp2_with fail
        go_meet
        exact ⟨by rw [HL.out]; rfl, HBq.out⟩
    case rest =>
      obtain ⟨rfl, hBc⟩ := hcut
      have HB2 := Lib.hid (below_up hB.out hBc.out)
      obtain ⟨BL, hBL⟩ : ∃ b, b = looseB l us j x := ⟨_, rfl⟩
      rw [← hBL]
      have HBL := Lib.hid hBL
      clear hBc hBL z0 z14 x13
      cases BL
      · go_wp2_with fail
        go_roundw
        case rel => exact ⟨k + 1, by omega, by go_num, by rw [loose_no HG.out HBL.out.symm]; exact hP.out, HB2.out⟩
        case measure => simp [intOf]; omega
      · have HH := Lib.hid (show V = (k : Int) by
          have h1 := loose_yes HG.out HBL.out.symm
          rw [hP.out] at h1
          obtain ⟨t, ht⟩ := loose_pre (l := l) (us := us) (j := j) (show k + 1 ≤ l.length by omega)
          rw [HV.out]
          unfold roomV
          rw [← ht, h1]
          rfl)
        go_wp2_with fail
        go_ret
        exact ⟨by rw [HH.out]; rfl, below_up K0.out.2 HB2.out⟩
end Go.Proofs.Ytaldgmmmcbikgaa.RfRoom
/-! The reference: a job is put. No conditions but those named. -/
namespace Go.Proofs.Ytaldgmmmcbikgaa.RfPut
open Go.RowKit Mem PosMath PartMath TurnMath JobMath JobMem JobTwin JobRTwin JobAdd LooseI Loose AddMath RfTwin RfRoom
set_option linter.unusedVariables false
set_option linter.unusedSimpArgs false

theorem TwinO.far {w : World} {B : Nat} {v : Value} {l : List JV} {k : Nat} {O : List Value} {p : Addr} (u : Value) (h : TwinO w B v l k O) (hp : p.block < B) : TwinO (w.setCell p u) B v l k O := by
  refine ⟨⟨h.1.1, ?_⟩, fun i j hi hj => by obtain ⟨Y, c, h1, h2⟩ := h.2 i j hi hj; exact ⟨Y, c, h1, h2.far u hp⟩⟩
  rcases h.1.2 with h2 | ⟨g, cap, cur, e, h1, h2, h3⟩
  · exact .inl h2
  · exact .inr ⟨g, cap, cur, e, h1, (Below.heap_setCell _ _ _ _ (by omega)).trans h2, h3⟩
theorem TwinO.less {w : World} {B B' : Nat} {v : Value} {l : List JV} {k : Nat} {O : List Value} (h : TwinO w B v l k O) (hB : B' ≤ B) : TwinO w B' v l k O := by
  refine ⟨⟨h.1.1, ?_⟩, fun i j hi hj => by obtain ⟨Y, c, h1, h2⟩ := h.2 i j hi hj; exact ⟨Y, c, h1, h2.less hB⟩⟩
  rcases h.1.2 with h2 | ⟨g, cap, cur, e, h1, h2⟩
  · exact .inl h2
  · exact .inr ⟨g, cap, cur, e, Nat.le_trans hB h1, h2⟩
theorem TwinO.lt {w : World} {B : Nat} {v : Value} {l : List JV} {k : Nat} {O : List Value} (h : TwinO w B v l k O) : ∀ g, v.ownBlock = some g → B ≤ g ∧ g < w.heap.size := fun g hg => by
  rcases h.1.2 with ⟨rfl, _⟩ | ⟨g', cap, cur, rfl, h1, h2, _⟩
  · simp [Value.ownBlock] at hg
  · have : g' = g := by simpa [Value.ownBlock] using hg
    subst this
    exact ⟨h1, (Array.getElem?_eq_some_iff.1 h2).1⟩
theorem TwinO.one {w : World} {B : Nat} {v : Value} {l : List JV} {O : List Value} (h : TwinO w B v l l.length O) : ∀ u ∈ O, u.oneCell' = true := fun u hu => by
  obtain ⟨q, hq⟩ := List.mem_iff_getElem?.1 hu
  have hlt := (List.getElem?_eq_some_iff.1 hq).1
  have hlen : O.length = l.length * 16 := h.1.1
  have hi : q / 16 < l.length := by omega
  obtain ⟨Y, c, h1, _⟩ := h.2 (q / 16) _ hi (List.getElem?_eq_getElem hi)
  have hm : q % 16 < 16 := Nat.mod_lt _ (by omega)
  have hs : q % 16 < ((l[q / 16]).arr Y c).size := hm
  have h2 := h1 (q % 16) _ hm (Array.getElem?_eq_getElem hs)
  rw [show q / 16 * 16 + q % 16 = q by omega, hq] at h2
  cases h2
  exact job_one _ (by rw [Array.mem_toList_iff]; exact Array.getElem_mem hs)
theorem TwinO.erase {w2 w4 : World} {B : Nat} {v v4 : Value} {l : List JV} {O : List Value} {i : Nat} (h : TwinO w2 B v l l.length O) (hi : i < l.length) (hB : Below w2.heap.size w2 w4) (hBw : B ≤ w2.heap.size)
    (ho : w4.ownsRow w2.heap.size 33 16 v4 (l.length - 1) (O.take (i * 16) ++ O.drop ((i + 1) * 16))) : TwinO w4 B v4 (l.eraseIdx i) (l.eraseIdx i).length (O.take (i * 16) ++ O.drop ((i + 1) * 16)) := by
  have hlen : O.length = l.length * 16 := h.1.1
  have hob : ∀ g, v4.ownBlock = some g → w2.heap.size ≤ g := fun g hg => by
    rcases ho.2 with ⟨rfl, _⟩ | ⟨g', cap, cur, rfl, h1, _⟩
    · simp [Value.ownBlock] at hg
    · have : g' = g := by simpa [Value.ownBlock] using hg
      omega
  have hints : ∀ (Y : Option Addr) (m : List Int), IntsNew w2 B v.ownBlock Y m → IntsNew w4 B v4.ownBlock Y m := fun Y m hm q n hq => by
    obtain ⟨b, o, e, h1, h2, h3, h4, h5⟩ := hm.up hB q n hq
    obtain ⟨b', o', e', _, _, h3', _⟩ := hm q n hq
    rw [e] at e'
    cases e'
    exact ⟨b, o, e, h1, fun e2 => by have := hob b e2.symm; omega, h3, h4, h5⟩
  refine ⟨⟨by rw [List.length_eraseIdx_of_lt hi]; exact ho.1, ?_⟩, fun k j hk hj => ?_⟩
  · rw [List.length_eraseIdx_of_lt hi]
    rcases ho.2 with h2 | ⟨g, cap, cur, e, h1, h2⟩
    · exact .inl h2
    · exact .inr ⟨g, cap, cur, e, Nat.le_trans hBw h1, h2⟩
  · rw [List.length_eraseIdx_of_lt hi] at hk
    rw [List.getElem?_eraseIdx] at hj
    by_cases hki : k < i
    · rw [if_pos hki] at hj
      obtain ⟨Y, c, h1, h2⟩ := h.2 k j (by omega) hj
      refine ⟨Y, c, fun t u ht hu => ?_, hints _ _ h2⟩
      rw [List.getElem?_append_left (by rw [List.length_take]; omega), List.getElem?_take_of_lt (by omega)]
      exact h1 t u ht hu
    · rw [if_neg hki] at hj
      obtain ⟨Y, c, h1, h2⟩ := h.2 (k + 1) j (by omega) hj
      refine ⟨Y, c, fun t u ht hu => ?_, hints _ _ h2⟩
      rw [List.getElem?_append_right (by rw [List.length_take]; omega), List.length_take, List.getElem?_drop, show (i + 1) * 16 + (k * 16 + t - min (i * 16) O.length) = (k + 1) * 16 + t by omega]
      exact h1 t u ht hu
/-- How Put ends where there is room. -/
def PutP (m : List JV) (w : World) (e : Ending) (w' : World) : Prop := (∃ X' c', e = .returned (.tuple #[.slice X' m.length c', .bool true]) ∧ JobsAt w' X' m) ∧ Below w.heap.size w w'
set_option maxRecDepth 100000 in
set_option maxHeartbeats 16000000 in
theorem rput_room (X : Option Addr) (cap : Nat) (l : List JV) (U : Option Addr) (cu : Nat) (us : List Int) (j : JV) (Y : Option Addr) (cj : Nat) (hl : l.length ≤ 1000) (hla : ∀ j ∈ l, j.af.length ≤ 1000) (hlu : us.length ≤ 1000) (hlj : j.af.length ≤ 1000) (hn : l.length < 24) (w : World) (hX : JobsAt w X l) (hU : IntsAt w U us) (hY : IntsAt w Y j.af) :
    Calls Try.prog 44 #[.slice X l.length cap, .slice U us.length cu, .agg #[.int .i64 j.id, .int .i64 j.us, .int .i64 j.cl, .int .i64 j.x.a, .int .i64 j.x.b, .int .i64 j.x.c, .bool j.x.p, .bool j.x.q, .bool j.x.r, .bool j.x.tn, .int .i64 j.wa, .int .i64 j.pr, .bool j.he, .slice Y j.af.length cj, .int .u8 j.st, .int .i64 j.ca]] w fun e w' => PutP (l ++ [asked j]) w e w' := by
  obtain ⟨ii, a0, a1, a2, a3⟩ := info_parts int_info
  obtain ⟨ij, b0, b1, b2, b3⟩ := info_parts job_info
  have HII := Lib.hid (And.intro a0 (And.intro a1 (And.intro a2 a3)))
  have HII2 := Lib.hid (And.intro b0 (And.intro b1 (And.intro b2 b3)))
  have HX := Lib.hid (And.intro hX (And.intro hU hY))
  have HLA := Lib.hid hla
  clear hX hU hY hla a0 a1 a2 a3 b0 b1 b2 b3
  go_enter Try.func44, Try.ntmps44
  go_upto_region 1 with fail
  have kj : Blk (w.alloc (.cells #[.int .i64 j.id, .int .i64 j.us, .int .i64 j.cl, .int .i64 j.x.a, .int .i64 j.x.b, .int .i64 j.x.c, .bool j.x.p, .bool j.x.q, .bool j.x.r, .bool j.x.tn, .int .i64 j.wa, .int .i64 j.pr, .bool j.he, .slice Y j.af.length cj, .int .u8 j.st, .int .i64 j.ca] 33)) w.heap.size 33 #[.int .i64 j.id, .int .i64 j.us, .int .i64 j.cl, .int .i64 j.x.a, .int .i64 j.x.b, .int .i64 j.x.c, .bool j.x.p, .bool j.x.q, .bool j.x.r, .bool j.x.tn, .int .i64 j.wa, .int .i64 j.pr, .bool j.he, .slice Y j.af.length cj, .int .u8 j.st, .int .i64 j.ca] := Blk.new w _ _
  have hb0 : Below w.heap.size w (w.alloc (.cells #[.int .i64 j.id, .int .i64 j.us, .int .i64 j.cl, .int .i64 j.x.a, .int .i64 j.x.b, .int .i64 j.x.c, .bool j.x.p, .bool j.x.q, .bool j.x.r, .bool j.x.tn, .int .i64 j.wa, .int .i64 j.pr, .bool j.he, .slice Y j.af.length cj, .int .u8 j.st, .int .i64 j.ca] 33)) := below_alloc (Below.refl _ _)
  generalize w.alloc (.cells #[.int .i64 j.id, .int .i64 j.us, .int .i64 j.cl, .int .i64 j.x.a, .int .i64 j.x.b, .int .i64 j.x.c, .bool j.x.p, .bool j.x.q, .bool j.x.r, .bool j.x.tn, .int .i64 j.wa, .int .i64 j.pr, .bool j.he, .slice Y j.af.length cj, .int .u8 j.st, .int .i64 j.ca] 33) = w0 at *
  have K0 := Lib.hid (And.intro kj hb0)
  clear kj hb0
  go_wp2_with fail
  refine (rtwinO X cap l hl HLA.out w0 (HX.out.1.up K0.out.2)).mono ?_
  rintro e w1 ⟨v1, O, rfl, hT, hB⟩
  have KN := Lib.hid (K0.out.1.below hB K0.out.1.lt)
  have TN := Lib.hid hT
  have BN := Lib.hid (below_up K0.out.2 hB)
  have HG0 := Lib.hid K0.out.1.lt
  have HBs := Lib.hid hB.size
  clear hT hB K0
  have h24 : ¬ (24 : Int) ≤ (l.length : Int) := by omega
  have y14 : w1.cell? ⟨w.heap.size, 14, none⟩ = some (.int .u8 j.st) := KN.out.cell 14
  have f14 : w1.frozen? ⟨w.heap.size, 14, none⟩ = false := KN.out.frozen 14
  go_upto_region 8 with fail
  have kt : Blk (w1.setCell ⟨w.heap.size, 14, none⟩ (.int .u8 1)) w.heap.size 33 #[.int .i64 j.id, .int .i64 j.us, .int .i64 j.cl, .int .i64 j.x.a, .int .i64 j.x.b, .int .i64 j.x.c, .bool j.x.p, .bool j.x.q, .bool j.x.r, .bool j.x.tn, .int .i64 j.wa, .int .i64 j.pr, .bool j.he, .slice Y j.af.length cj, .int .u8 1, .int .i64 j.ca] := KN.out.set_ 14 _
  have tt : TwinO (w1.setCell ⟨w.heap.size, 14, none⟩ (.int .u8 1)) w0.heap.size v1 l l.length O := RfPut.TwinO.far (p := ⟨w.heap.size, 14, none⟩) _ TN.out HG0.out
  have bt : Below w.heap.size w (w1.setCell ⟨w.heap.size, 14, none⟩ (.int .u8 1)) := BN.out.setCell (p := ⟨w.heap.size, 14, none⟩) (Nat.le_refl _) _
  have HBt := Lib.hid (show w0.heap.size ≤ (w1.setCell ⟨w.heap.size, 14, none⟩ (.int .u8 1)).heap.size by rw [World.size_setCell]; exact HBs.out)
  clear y14 f14
  generalize w1.setCell ⟨w.heap.size, 14, none⟩ (.int .u8 1) = wt at *
  have yt : wt.cell? ⟨w.heap.size, 13, none⟩ = some (.slice Y j.af.length cj) := kt.cell 13
  have HR := Lib.hid (And.intro (ints_reads (HX.out.2.2.up bt)) (And.intro (show ∀ u ∈ j.af.map (Value.int .i64), u.oneCell' = true from fun u hu => by
    obtain ⟨n, _, rfl⟩ := List.mem_map.1 hu
    rfl) (show ∀ q, v1.ownBlock = some q → q < wt.heap.size from fun q hq => (RfPut.TwinO.lt tt q hq).2)))
  have KT := Lib.hid (And.intro kt (And.intro tt bt))
  clear kt tt bt
  go_wp2_with (first
    | (refine wpList_load_row rfl 33 _ rfl _ rfl 33 #[.int .i64 j.id, .int .i64 j.us, .int .i64 j.cl, .int .i64 j.x.a, .int .i64 j.x.b, .int .i64 j.x.c, .bool j.x.p, .bool j.x.q, .bool j.x.r, .bool j.x.tn, .int .i64 j.wa, .int .i64 j.pr, .bool j.he, .slice Y2 j.af.length c2, .int .u8 1, .int .i64 j.ca] (0, 0) _ K3.out Try.underlying33 rfl (by kernel_rfl) ?_)
    | (at_builtin; refine wpList_append_any _ rfl (.const (.slice none 0 0)) (.tmp 32) _ rfl wt.heap.size 3 ii (.int .i64 0) 1 8 Try.underlying31 HII.out.1 HII.out.2.1 HII.out.2.2.1 HII.out.2.2.2 rfl (by decide) (.slice none 0 0) 0 [] rfl ⟨rfl, .inl ⟨rfl, rfl⟩⟩ wt.heap.size Y j.af.length cj (j.af.map (Value.int .i64)) rfl HR.out.1 HR.out.2.1 (by simp only [maxLen]; omega) (by omega) (by simp) ?_; intro v2 w2 hown hg hat; (obtain ⟨Y2, c2, rfl, hI⟩ := ints_new (B := wt.heap.size) (ob := v1.ownBlock) HR.out.2.2 rfl (by simpa using hown)); have kb2 : Blk w2 w.heap.size 33 #[.int .i64 j.id, .int .i64 j.us, .int .i64 j.cl, .int .i64 j.x.a, .int .i64 j.x.b, .int .i64 j.x.c, .bool j.x.p, .bool j.x.q, .bool j.x.r, .bool j.x.tn, .int .i64 j.wa, .int .i64 j.pr, .bool j.he, .slice Y j.af.length cj, .int .u8 1, .int .i64 j.ca] := KT.out.1.grown hg (by simp [Value.ownBlock]); have hb2 : Below wt.heap.size wt w2 := (Below.refl _ wt).grown hg (Nat.le_refl _) (by intro q hq; cases hq); have y13 : w2.cell? ⟨w.heap.size, 13, none⟩ = some (.slice Y j.af.length cj) := kb2.cell 13; have g13 : w2.frozen? ⟨w.heap.size, 13, none⟩ = false := kb2.frozen 13; have K3 := Lib.hid (show Blk (w2.setCell ⟨w.heap.size, 13, none⟩ (.slice Y2 j.af.length c2)) w.heap.size 33 #[.int .i64 j.id, .int .i64 j.us, .int .i64 j.cl, .int .i64 j.x.a, .int .i64 j.x.b, .int .i64 j.x.c, .bool j.x.p, .bool j.x.q, .bool j.x.r, .bool j.x.tn, .int .i64 j.wa, .int .i64 j.pr, .bool j.he, .slice Y2 j.af.length c2, .int .u8 1, .int .i64 j.ca] from kb2.set_ 13 _); have HI3 := Lib.hid (IntsNew.far (p := ⟨w.heap.size, 13, none⟩) (.slice Y2 j.af.length c2) hI KT.out.1.lt); have HB3 := Lib.hid ((below_up KT.out.2.2 hb2).setCell (p := ⟨w.heap.size, 13, none⟩) (Nat.le_refl _) (.slice Y2 j.af.length c2)); have HT3 := Lib.hid (RfPut.TwinO.far (p := ⟨w.heap.size, 13, none⟩) (.slice Y2 j.af.length c2) (RfTwin.TwinO.up KT.out.2.1 hb2) HG0.out); have hs3 : (w2.setCell ⟨w.heap.size, 13, none⟩ (.slice Y2 j.af.length c2)).heap.size = w2.heap.size := World.size_setCell ..; have hsb := hb2.size; clear hown hg hat hI kb2 hb2)
    | (at_builtin; refine wpList_append_any _ rfl (.tmp 35) (.tmp 37) _ rfl w0.heap.size 33 ij (.agg #[.int .i64 0, .int .i64 0, .int .i64 0, .int .i64 0, .int .i64 0, .int .i64 0, .bool false, .bool false, .bool false, .bool false, .int .i64 0, .int .i64 0, .bool false, .slice none 0 0, .int .u8 0, .int .i64 0]) 16 120 Try.underlying27 HII2.out.1 HII2.out.2.1 HII2.out.2.2.1 HII2.out.2.2.2 rfl (by decide) v1 l.length O rfl (HT3.out.1.alloc _) _ _ 1 1 ((asked j).arr Y2 c2).toList rfl (reads_job (w2.setCell ⟨w.heap.size, 13, none⟩ (.slice Y2 j.af.length c2)) w2.heap.size (World.size_setCell ..).symm ((asked j).arr Y2 c2) rfl) (fun u hu => job_one u hu) (by simp only [maxLen]; omega) (by omega) (by have := HBt.out; simp; omega) ?_; intro v5 w5 hown hg hat; have H5 := Lib.hid (And.intro hown (And.intro hg hat)); clear hown hg hat))
  have hT5 := TwinO.step (x := asked j) (Y := Y2) (c := c2) (RfTwin.TwinO.more (x := asked j) HT3.out) (below_alloc (Below.refl _ _)) (by simp) ((HI3.out.less HBt.out).up (below_alloc (Below.refl _ _))) H5.out.2.1 H5.out.1 (by simpa using H5.out.2.2)
  rw [show l.length + 1 = (l ++ [asked j]).length by simp] at hT5
  obtain ⟨X', c', e, h⟩ := hT5.own
  subst e
  refine bodyPost_ret (v := .tuple #[.slice X' (l ++ [asked j]).length c', .bool true]) (by simp [results, Try.results44, go_sem]) rfl ?_
  exact ⟨⟨X', c', rfl, h.jobs⟩, (below_alloc HB3.out).grown H5.out.2.1 (by have := HB3.out.size; simp; simp at this; omega) (fun q hq => by have := (RfPut.TwinO.lt HT3.out q hq).1; have := HG0.out; omega)⟩
set_option maxRecDepth 100000 in
set_option maxHeartbeats 16000000 in
theorem rput_none (X : Option Addr) (cap : Nat) (l : List JV) (U : Option Addr) (cu : Nat) (us : List Int) (j : JV) (Y : Option Addr) (cj : Nat) (hl : l.length ≤ 1000) (hla : ∀ j ∈ l, j.af.length ≤ 1000) (hlu : us.length ≤ 1000) (hlj : j.af.length ≤ 1000) (hn : ¬ l.length < 24) (hr : roomV l us j < 0) (w : World) (hX : JobsAt w X l) (hU : IntsAt w U us) (hY : IntsAt w Y j.af) :
    Calls Try.prog 44 #[.slice X l.length cap, .slice U us.length cu, .agg #[.int .i64 j.id, .int .i64 j.us, .int .i64 j.cl, .int .i64 j.x.a, .int .i64 j.x.b, .int .i64 j.x.c, .bool j.x.p, .bool j.x.q, .bool j.x.r, .bool j.x.tn, .int .i64 j.wa, .int .i64 j.pr, .bool j.he, .slice Y j.af.length cj, .int .u8 j.st, .int .i64 j.ca]] w fun e w' => e = .returned (.tuple #[.slice none 0 0, .bool false]) ∧ Below w.heap.size w w' := by
  obtain ⟨ii, a0, a1, a2, a3⟩ := info_parts int_info
  obtain ⟨ij, b0, b1, b2, b3⟩ := info_parts job_info
  have HII := Lib.hid (And.intro a0 (And.intro a1 (And.intro a2 a3)))
  have HII2 := Lib.hid (And.intro b0 (And.intro b1 (And.intro b2 b3)))
  have HX := Lib.hid (And.intro hX (And.intro hU hY))
  have HLA := Lib.hid hla
  clear hX hU hY hla a0 a1 a2 a3 b0 b1 b2 b3
  go_enter Try.func44, Try.ntmps44
  go_upto_region 1 with fail
  have kj : Blk (w.alloc (.cells #[.int .i64 j.id, .int .i64 j.us, .int .i64 j.cl, .int .i64 j.x.a, .int .i64 j.x.b, .int .i64 j.x.c, .bool j.x.p, .bool j.x.q, .bool j.x.r, .bool j.x.tn, .int .i64 j.wa, .int .i64 j.pr, .bool j.he, .slice Y j.af.length cj, .int .u8 j.st, .int .i64 j.ca] 33)) w.heap.size 33 #[.int .i64 j.id, .int .i64 j.us, .int .i64 j.cl, .int .i64 j.x.a, .int .i64 j.x.b, .int .i64 j.x.c, .bool j.x.p, .bool j.x.q, .bool j.x.r, .bool j.x.tn, .int .i64 j.wa, .int .i64 j.pr, .bool j.he, .slice Y j.af.length cj, .int .u8 j.st, .int .i64 j.ca] := Blk.new w _ _
  have hb0 : Below w.heap.size w (w.alloc (.cells #[.int .i64 j.id, .int .i64 j.us, .int .i64 j.cl, .int .i64 j.x.a, .int .i64 j.x.b, .int .i64 j.x.c, .bool j.x.p, .bool j.x.q, .bool j.x.r, .bool j.x.tn, .int .i64 j.wa, .int .i64 j.pr, .bool j.he, .slice Y j.af.length cj, .int .u8 j.st, .int .i64 j.ca] 33)) := below_alloc (Below.refl _ _)
  generalize w.alloc (.cells #[.int .i64 j.id, .int .i64 j.us, .int .i64 j.cl, .int .i64 j.x.a, .int .i64 j.x.b, .int .i64 j.x.c, .bool j.x.p, .bool j.x.q, .bool j.x.r, .bool j.x.tn, .int .i64 j.wa, .int .i64 j.pr, .bool j.he, .slice Y j.af.length cj, .int .u8 j.st, .int .i64 j.ca] 33) = w0 at *
  have K0 := Lib.hid (And.intro kj hb0)
  clear kj hb0
  go_wp2_with fail
  refine (rtwinO X cap l hl HLA.out w0 (HX.out.1.up K0.out.2)).mono ?_
  rintro e w1 ⟨v1, O, rfl, hT, hB⟩
  have KN := Lib.hid (K0.out.1.below hB K0.out.1.lt)
  have TN := Lib.hid hT
  have BN := Lib.hid (below_up K0.out.2 hB)
  have HG0 := Lib.hid K0.out.1.lt
  have HBs := Lib.hid hB.size
  clear hT hB K0
  have h24 : (24 : Int) ≤ (l.length : Int) := by omega
  go_wp2_with (first | (refine wpList_load_row rfl 33 _ rfl _ rfl 33 #[.int .i64 j.id, .int .i64 j.us, .int .i64 j.cl, .int .i64 j.x.a, .int .i64 j.x.b, .int .i64 j.x.c, .bool j.x.p, .bool j.x.q, .bool j.x.r, .bool j.x.tn, .int .i64 j.wa, .int .i64 j.pr, .bool j.he, .slice Y j.af.length cj, .int .u8 j.st, .int .i64 j.ca] (0, 0) _ KN.out Try.underlying33 rfl (by kernel_rfl) ?_))
  refine (rroom X cap l U cu us j Y cj (by omega) (fun q hq => by have := HLA.out q hq; omega) (by omega) (by omega) w1 (HX.out.1.up BN.out) (HX.out.2.1.up BN.out) (HX.out.2.2.up BN.out)).mono ?_
  rintro e w2 ⟨rfl, hB2⟩
  have KN := Lib.hid (KN.out.below hB2 KN.out.lt)
  have TN := Lib.hid (RfTwin.TwinO.up TN.out hB2)
  have BN := Lib.hid (below_up BN.out hB2)
  have HBs := Lib.hid (Nat.le_trans HBs.out hB2.size)
  clear hB2
  generalize roomV l us j = R at *
  have hr1 : decide (R < 0) = true := decide_eq_true hr
  go_wp2_with fail
  go_ret2
  exact ⟨rfl, BN.out⟩
set_option maxRecDepth 100000 in
set_option maxHeartbeats 16000000 in
theorem rput_full (X : Option Addr) (cap : Nat) (l : List JV) (U : Option Addr) (cu : Nat) (us : List Int) (j : JV) (Y : Option Addr) (cj : Nat) (hl : l.length ≤ 1000) (hla : ∀ j ∈ l, j.af.length ≤ 1000) (hlu : us.length ≤ 1000) (hlj : j.af.length ≤ 1000) (hn : ¬ l.length < 24) (h24m : l.length ≤ 24) (i : Nat) (hi : i < l.length) (hr : roomV l us j = (i : Int)) (m : List JV) (hm : m = l.eraseIdx i) (w : World) (hX : JobsAt w X l) (hU : IntsAt w U us) (hY : IntsAt w Y j.af) :
    Calls Try.prog 44 #[.slice X l.length cap, .slice U us.length cu, .agg #[.int .i64 j.id, .int .i64 j.us, .int .i64 j.cl, .int .i64 j.x.a, .int .i64 j.x.b, .int .i64 j.x.c, .bool j.x.p, .bool j.x.q, .bool j.x.r, .bool j.x.tn, .int .i64 j.wa, .int .i64 j.pr, .bool j.he, .slice Y j.af.length cj, .int .u8 j.st, .int .i64 j.ca]] w fun e w' => PutP (m ++ [asked j]) w e w' := by
  have HM := Lib.hid hm
  clear hm
  obtain ⟨ii, a0, a1, a2, a3⟩ := info_parts int_info
  obtain ⟨ij, b0, b1, b2, b3⟩ := info_parts job_info
  have HII := Lib.hid (And.intro a0 (And.intro a1 (And.intro a2 a3)))
  have HII2 := Lib.hid (And.intro b0 (And.intro b1 (And.intro b2 b3)))
  have HX := Lib.hid (And.intro hX (And.intro hU hY))
  have HLA := Lib.hid hla
  clear hX hU hY hla a0 a1 a2 a3 b0 b1 b2 b3
  go_enter Try.func44, Try.ntmps44
  go_upto_region 1 with fail
  have kj : Blk (w.alloc (.cells #[.int .i64 j.id, .int .i64 j.us, .int .i64 j.cl, .int .i64 j.x.a, .int .i64 j.x.b, .int .i64 j.x.c, .bool j.x.p, .bool j.x.q, .bool j.x.r, .bool j.x.tn, .int .i64 j.wa, .int .i64 j.pr, .bool j.he, .slice Y j.af.length cj, .int .u8 j.st, .int .i64 j.ca] 33)) w.heap.size 33 #[.int .i64 j.id, .int .i64 j.us, .int .i64 j.cl, .int .i64 j.x.a, .int .i64 j.x.b, .int .i64 j.x.c, .bool j.x.p, .bool j.x.q, .bool j.x.r, .bool j.x.tn, .int .i64 j.wa, .int .i64 j.pr, .bool j.he, .slice Y j.af.length cj, .int .u8 j.st, .int .i64 j.ca] := Blk.new w _ _
  have hb0 : Below w.heap.size w (w.alloc (.cells #[.int .i64 j.id, .int .i64 j.us, .int .i64 j.cl, .int .i64 j.x.a, .int .i64 j.x.b, .int .i64 j.x.c, .bool j.x.p, .bool j.x.q, .bool j.x.r, .bool j.x.tn, .int .i64 j.wa, .int .i64 j.pr, .bool j.he, .slice Y j.af.length cj, .int .u8 j.st, .int .i64 j.ca] 33)) := below_alloc (Below.refl _ _)
  generalize w.alloc (.cells #[.int .i64 j.id, .int .i64 j.us, .int .i64 j.cl, .int .i64 j.x.a, .int .i64 j.x.b, .int .i64 j.x.c, .bool j.x.p, .bool j.x.q, .bool j.x.r, .bool j.x.tn, .int .i64 j.wa, .int .i64 j.pr, .bool j.he, .slice Y j.af.length cj, .int .u8 j.st, .int .i64 j.ca] 33) = w0 at *
  have K0 := Lib.hid (And.intro kj hb0)
  clear kj hb0
  go_wp2_with fail
  refine (rtwinO X cap l hl HLA.out w0 (HX.out.1.up K0.out.2)).mono ?_
  rintro e w1 ⟨v1, O, rfl, hT, hB⟩
  have KN := Lib.hid (K0.out.1.below hB K0.out.1.lt)
  have TN := Lib.hid hT
  have BN := Lib.hid (below_up K0.out.2 hB)
  have HG0 := Lib.hid K0.out.1.lt
  have HBs := Lib.hid hB.size
  clear hT hB K0
  have h24 : (24 : Int) ≤ (l.length : Int) := by omega
  go_wp2_with (first | (refine wpList_load_row rfl 33 _ rfl _ rfl 33 #[.int .i64 j.id, .int .i64 j.us, .int .i64 j.cl, .int .i64 j.x.a, .int .i64 j.x.b, .int .i64 j.x.c, .bool j.x.p, .bool j.x.q, .bool j.x.r, .bool j.x.tn, .int .i64 j.wa, .int .i64 j.pr, .bool j.he, .slice Y j.af.length cj, .int .u8 j.st, .int .i64 j.ca] (0, 0) _ KN.out Try.underlying33 rfl (by kernel_rfl) ?_))
  refine (rroom X cap l U cu us j Y cj (by omega) (fun q hq => by have := HLA.out q hq; omega) (by omega) (by omega) w1 (HX.out.1.up BN.out) (HX.out.2.1.up BN.out) (HX.out.2.2.up BN.out)).mono ?_
  rintro e w2 ⟨rfl, hB2⟩
  have KN := Lib.hid (KN.out.below hB2 KN.out.lt)
  have TN := Lib.hid (RfTwin.TwinO.up TN.out hB2)
  have BN := Lib.hid (below_up BN.out hB2)
  have HBs := Lib.hid (Nat.le_trans HBs.out hB2.size)
  clear hB2
  rw [hr]
  clear hr
  have hr1 : decide ((i : Int) < 0) = false := decide_eq_false (by omega)
  obtain ⟨g, cap1, hv1, hcap, hmx⟩ : ∃ g cap1, v1 = .slice (some ⟨g, 0, none⟩) l.length cap1 ∧ l.length ≤ cap1 ∧ cap1 ≤ maxLen := by
    rcases TN.out.1.2 with ⟨_, e0⟩ | ⟨g, cap, cur, e, hb, hg, hc, hm, _⟩
    · omega
    · exact ⟨g, cap, e, hc, hm⟩
  subst hv1
  have hOl : O.length = l.length * 16 := TN.out.1.1
  have RF := Reads.of_own TN.out.1
  have hgl : g < w2.heap.size := (RfPut.TwinO.lt TN.out g rfl).2
  have hcell : ∀ q u, O[q]? = some u → w2.cell? ⟨g, q, none⟩ = some u := fun q u hu => by
    obtain ⟨ad, e, _, h⟩ := RF.2 (by omega)
    cases e
    have := h q u hu
    rwa [add_flat, Nat.zero_add] at this
  have R1 := Lib.hid (show Reads w2 w2.heap.size 16 (some ⟨g, 0, none⟩) i (O.take (i * 16)) from ⟨by rw [List.length_take]; omega, fun _ => ⟨_, rfl, hgl, fun q u hu => by
    rw [add_flat, Nat.zero_add]
    have hq : q < i * 16 := by have := (List.getElem?_eq_some_iff.1 hu).1; rw [List.length_take] at this; omega
    rw [List.getElem?_take_of_lt hq] at hu
    exact hcell q u hu⟩⟩)
  obtain ⟨k, hk⟩ : ∃ k, k = i + 1 := ⟨_, rfl⟩
  obtain ⟨A2, hA2, hA2s⟩ : ∃ A2 : Option Addr, (if cap1 = k then some (⟨g, 0, none⟩ : Addr) else some ⟨g, k * 16, none⟩) = A2 ∧ (cap1 ≠ k → A2 = some ⟨g, k * 16, none⟩) := ⟨_, rfl, fun h => if_neg h⟩
  have R2 := Lib.hid (fun (W : World) (hB : Below w2.heap.size w2 W) => (show Reads W w2.heap.size 16 A2 (l.length - k) (O.drop (k * 16)) from ⟨by rw [List.length_drop]; omega, fun hpos => ⟨⟨g, k * 16, none⟩, hA2s (by omega), hgl, fun q u hu => by
    rw [add_flat]
    rw [List.getElem?_drop] at hu
    exact keep_cell (hcell _ u hu) hB⟩⟩))
  have ONE := Lib.hid (show (∀ u ∈ O.take (i * 16), u.oneCell' = true) ∧ (∀ u ∈ O.drop (k * 16), u.oneCell' = true) from ⟨fun u hu => RfPut.TwinO.one TN.out u (List.mem_of_mem_take hu), fun u hu => RfPut.TwinO.one TN.out u (List.mem_of_mem_drop hu)⟩)
  have hw1 : IntKind.i64.wrap ((i : Int) + 1) = (k : Int) := (IntWalk.i64_in ((i : Int) + 1) (by omega)).trans (by omega)
  have i1 : (i : Int) ≤ (cap1 : Int) := by omega
  have i2 : (k : Int) ≤ (l.length : Int) := by omega
  have i3 : (l.length : Int) ≤ (cap1 : Int) := by omega
  have i4 : (k : Int) ≤ (cap1 : Int) := by omega
  have i5 : k ≤ cap1 := by omega
  have i6 : i ≤ cap1 := by omega
  have HI := Lib.hid (And.intro hi hA2s)
  have i7 : k ≤ l.length := by omega
  have HK := Lib.hid hk
  clear hk
  clear RF hcell hA2s
  go_upto_region 6 with fail
  go_region_law (first
    | (refine step_append_any _ rfl (.const (.slice none 0 0)) (.tmp 23) _ rfl w2.heap.size 33 ij (.agg #[.int .i64 0, .int .i64 0, .int .i64 0, .int .i64 0, .int .i64 0, .int .i64 0, .bool false, .bool false, .bool false, .bool false, .int .i64 0, .int .i64 0, .bool false, .slice none 0 0, .int .u8 0, .int .i64 0]) 16 120 Try.underlying27 HII2.out.1 HII2.out.2.1 HII2.out.2.2.1 HII2.out.2.2.2 rfl (by decide) (.slice none 0 0) 0 [] (by simp [Act.eval, Act.put]) ⟨rfl, .inl ⟨rfl, rfl⟩⟩ w2.heap.size (some ⟨g, 0, none⟩) i cap1 (O.take (i * 16)) (by simp [Act.eval, Act.put]) R1.out.drew ONE.out.1 (by simp only [maxLen]; omega) (by omega) (Nat.le_refl _) ?_; intro v3 w3 hown hg hat; have H3 := Lib.hid (show w3.ownsRow w2.heap.size 33 16 v3 i (O.take (i * 16)) ∧ Below w2.heap.size w2 w3 from ⟨by simpa using hown, (Below.refl w2.heap.size w2).drew.grown hg (Nat.le_refl _) (by intro q hq; cases hq)⟩); clear hown hg hat)
    | (refine step_append_any _ rfl (.tmp 24) (.tmp 28) _ rfl w2.heap.size 33 ij (.agg #[.int .i64 0, .int .i64 0, .int .i64 0, .int .i64 0, .int .i64 0, .int .i64 0, .bool false, .bool false, .bool false, .bool false, .int .i64 0, .int .i64 0, .bool false, .slice none 0 0, .int .u8 0, .int .i64 0]) 16 120 Try.underlying27 HII2.out.1 HII2.out.2.1 HII2.out.2.2.1 HII2.out.2.2.2 rfl (by decide) v3 i (O.take (i * 16)) (by simp [Act.eval, Act.put]) H3.out.1 w2.heap.size A2 (l.length - k) (cap1 - k) (O.drop (k * 16)) (by simp [Act.eval, Act.put]; first | done | exact hA2) (R2.out w3 H3.out.2) ONE.out.2 (by simp only [maxLen]; omega) (by omega) H3.out.2.size ?_; intro v4 w4 hown hg hat; have H4 := Lib.hid (And.intro hown (And.intro hg H3.out)); clear hown hg hat))
  all_goals
    have hB4 : Below w2.heap.size w2 w4 := H4.out.2.2.2.grown H4.out.2.1 (by have := H4.out.2.2.2.size; omega) (fun q hq => by
      rcases H4.out.2.2.1.2 with ⟨e, _⟩ | ⟨g', cap, cur, e, h1, _⟩
      · rw [e] at hq; simp [Value.ownBlock] at hq
      · rw [e] at hq
        have : g' = q := by simpa [Value.ownBlock] using hq
        omega)
    have T4 := RfPut.TwinO.erase TN.out hi hB4 HBs.out (by have := H4.out.1; rw [HK.out] at this; rwa [show i + (l.length - (i + 1)) = l.length - 1 by omega] at this)
    have KN := Lib.hid (KN.out.below hB4 KN.out.lt)
    have TN := Lib.hid T4
    have BN := Lib.hid (below_up BN.out hB4)
    have HBs := Lib.hid (Nat.le_trans HBs.out hB4.size)
    clear hB4 T4 H4 R1 R2 ONE hgl hcap hmx hA2
    have hel : m.length ≤ 1000 := by rw [HM.out, List.length_eraseIdx_of_lt hi]; omega
    rw [← HM.out] at TN
    obtain ⟨O2, hO2⟩ : ∃ O2, O2 = O.take (i * 16) ++ O.drop ((i + 1) * 16) := ⟨_, rfl⟩
    rw [← hO2] at TN
    clear hO2
    have y14 : w4.cell? ⟨w.heap.size, 14, none⟩ = some (.int .u8 j.st) := KN.out.cell 14
    have f14 : w4.frozen? ⟨w.heap.size, 14, none⟩ = false := KN.out.frozen 14
    go_upto_region 8 with fail
    have kt : Blk (w4.setCell ⟨w.heap.size, 14, none⟩ (.int .u8 1)) w.heap.size 33 #[.int .i64 j.id, .int .i64 j.us, .int .i64 j.cl, .int .i64 j.x.a, .int .i64 j.x.b, .int .i64 j.x.c, .bool j.x.p, .bool j.x.q, .bool j.x.r, .bool j.x.tn, .int .i64 j.wa, .int .i64 j.pr, .bool j.he, .slice Y j.af.length cj, .int .u8 1, .int .i64 j.ca] := KN.out.set_ 14 _
    have tt : TwinO (w4.setCell ⟨w.heap.size, 14, none⟩ (.int .u8 1)) w0.heap.size v4 m m.length O2 := RfPut.TwinO.far (p := ⟨w.heap.size, 14, none⟩) _ TN.out HG0.out
    have bt : Below w.heap.size w (w4.setCell ⟨w.heap.size, 14, none⟩ (.int .u8 1)) := BN.out.setCell (p := ⟨w.heap.size, 14, none⟩) (Nat.le_refl _) _
    have HBt := Lib.hid (show w0.heap.size ≤ (w4.setCell ⟨w.heap.size, 14, none⟩ (.int .u8 1)).heap.size by rw [World.size_setCell]; exact HBs.out)
    clear y14 f14
    generalize w4.setCell ⟨w.heap.size, 14, none⟩ (.int .u8 1) = wt at *
    have yt : wt.cell? ⟨w.heap.size, 13, none⟩ = some (.slice Y j.af.length cj) := kt.cell 13
    have HR := Lib.hid (And.intro (ints_reads (HX.out.2.2.up bt)) (And.intro (show ∀ u ∈ j.af.map (Value.int .i64), u.oneCell' = true from fun u hu => by
      obtain ⟨n, _, rfl⟩ := List.mem_map.1 hu
      rfl) (show ∀ q, v4.ownBlock = some q → q < wt.heap.size from fun q hq => (RfPut.TwinO.lt tt q hq).2)))
    have KT := Lib.hid (And.intro kt (And.intro tt bt))
    clear kt tt bt
    go_wp2_with (first
      | (refine wpList_load_row rfl 33 _ rfl _ rfl 33 #[.int .i64 j.id, .int .i64 j.us, .int .i64 j.cl, .int .i64 j.x.a, .int .i64 j.x.b, .int .i64 j.x.c, .bool j.x.p, .bool j.x.q, .bool j.x.r, .bool j.x.tn, .int .i64 j.wa, .int .i64 j.pr, .bool j.he, .slice Y2 j.af.length c2, .int .u8 1, .int .i64 j.ca] (0, 0) _ K3.out Try.underlying33 rfl (by kernel_rfl) ?_)
      | (at_builtin; refine wpList_append_any _ rfl (.const (.slice none 0 0)) (.tmp 32) _ rfl wt.heap.size 3 ii (.int .i64 0) 1 8 Try.underlying31 HII.out.1 HII.out.2.1 HII.out.2.2.1 HII.out.2.2.2 rfl (by decide) (.slice none 0 0) 0 [] rfl ⟨rfl, .inl ⟨rfl, rfl⟩⟩ wt.heap.size Y j.af.length cj (j.af.map (Value.int .i64)) rfl HR.out.1 HR.out.2.1 (by simp only [maxLen]; omega) (by omega) (by simp) ?_; intro v2 w2 hown hg hat; (obtain ⟨Y2, c2, rfl, hI⟩ := ints_new (B := wt.heap.size) (ob := v4.ownBlock) HR.out.2.2 rfl (by simpa using hown)); have kb2 : Blk w2 w.heap.size 33 #[.int .i64 j.id, .int .i64 j.us, .int .i64 j.cl, .int .i64 j.x.a, .int .i64 j.x.b, .int .i64 j.x.c, .bool j.x.p, .bool j.x.q, .bool j.x.r, .bool j.x.tn, .int .i64 j.wa, .int .i64 j.pr, .bool j.he, .slice Y j.af.length cj, .int .u8 1, .int .i64 j.ca] := KT.out.1.grown hg (by simp [Value.ownBlock]); have hb2 : Below wt.heap.size wt w2 := (Below.refl _ wt).grown hg (Nat.le_refl _) (by intro q hq; cases hq); have y13 : w2.cell? ⟨w.heap.size, 13, none⟩ = some (.slice Y j.af.length cj) := kb2.cell 13; have g13 : w2.frozen? ⟨w.heap.size, 13, none⟩ = false := kb2.frozen 13; have K3 := Lib.hid (show Blk (w2.setCell ⟨w.heap.size, 13, none⟩ (.slice Y2 j.af.length c2)) w.heap.size 33 #[.int .i64 j.id, .int .i64 j.us, .int .i64 j.cl, .int .i64 j.x.a, .int .i64 j.x.b, .int .i64 j.x.c, .bool j.x.p, .bool j.x.q, .bool j.x.r, .bool j.x.tn, .int .i64 j.wa, .int .i64 j.pr, .bool j.he, .slice Y2 j.af.length c2, .int .u8 1, .int .i64 j.ca] from kb2.set_ 13 _); have HI3 := Lib.hid (IntsNew.far (p := ⟨w.heap.size, 13, none⟩) (.slice Y2 j.af.length c2) hI KT.out.1.lt); have HB3 := Lib.hid ((below_up KT.out.2.2 hb2).setCell (p := ⟨w.heap.size, 13, none⟩) (Nat.le_refl _) (.slice Y2 j.af.length c2)); have HT3 := Lib.hid (RfPut.TwinO.far (p := ⟨w.heap.size, 13, none⟩) (.slice Y2 j.af.length c2) (RfTwin.TwinO.up KT.out.2.1 hb2) HG0.out); have hs3 : (w2.setCell ⟨w.heap.size, 13, none⟩ (.slice Y2 j.af.length c2)).heap.size = w2.heap.size := World.size_setCell ..; have hsb := hb2.size; clear hown hg hat hI kb2 hb2)
      | (at_builtin; refine wpList_append_any _ rfl (.tmp 35) (.tmp 37) _ rfl w0.heap.size 33 ij (.agg #[.int .i64 0, .int .i64 0, .int .i64 0, .int .i64 0, .int .i64 0, .int .i64 0, .bool false, .bool false, .bool false, .bool false, .int .i64 0, .int .i64 0, .bool false, .slice none 0 0, .int .u8 0, .int .i64 0]) 16 120 Try.underlying27 HII2.out.1 HII2.out.2.1 HII2.out.2.2.1 HII2.out.2.2.2 rfl (by decide) v4 m.length O2 rfl (HT3.out.1.alloc _) _ _ 1 1 ((asked j).arr Y2 c2).toList rfl (reads_job (w2.setCell ⟨w.heap.size, 13, none⟩ (.slice Y2 j.af.length c2)) w2.heap.size (World.size_setCell ..).symm ((asked j).arr Y2 c2) rfl) (fun u hu => job_one u hu) (by simp only [maxLen]; omega) (by omega) (by have := HBt.out; simp; omega) ?_; intro v5 w5 hown hg hat; have H5 := Lib.hid (And.intro hown (And.intro hg hat)); clear hown hg hat))
    have hT5 := TwinO.step (x := asked j) (Y := Y2) (c := c2) (RfTwin.TwinO.more (x := asked j) HT3.out) (below_alloc (Below.refl _ _)) (by simp) ((HI3.out.less HBt.out).up (below_alloc (Below.refl _ _))) H5.out.2.1 H5.out.1 (by simpa using H5.out.2.2)
    rw [show m.length + 1 = (m ++ [asked j]).length by simp] at hT5
    obtain ⟨X', c', e, h⟩ := hT5.own
    subst e
    refine bodyPost_ret (v := .tuple #[.slice X' (m ++ [asked j]).length c', .bool true]) (by simp [results, Try.results44, go_sem]) rfl ?_
    exact ⟨⟨X', c', rfl, h.jobs⟩, (below_alloc HB3.out).grown H5.out.2.1 (by have := HB3.out.size; simp; simp at this; omega) (fun q hq => by have := (RfPut.TwinO.lt HT3.out q hq).1; have := HG0.out; omega)⟩
end Go.Proofs.Ytaldgmmmcbikgaa.RfPut
/-! The reference: Add. No conditions but those named. -/
namespace Go.Proofs.Ytaldgmmmcbikgaa.RfAdd
open Go.Sort (grow)
open Go.RowKit Mem PosMath PartMath TurnMath TurnFitsV JobMath JobCheck JobMem JobAdd JobRef2 JobRef3 QuietRow LooseI Loose AddMath RfTwin RfRoom RfPut
set_option linter.unusedVariables false
set_option linter.unusedSimpArgs false

set_option maxRecDepth 100000 in
set_option maxHeartbeats 16000000 in
theorem radd_any (d0 d1 d2 bo fr tr ag : Int) (K : Option Addr) (kc : Nat) (ks : List Cls) (hlk : ks.length ≤ 4611686018427387904) (X : Option Addr) (cap : Nat) (l : List JV) (hl : l.length ≤ 1000) (hla : ∀ j ∈ l, j.af.length ≤ 1000) (U : Option Addr) (cu : Nat) (us : List Int) (hlu : us.length ≤ 1000) (j : JV) (Y : Option Addr) (cj : Nat) (hja : j.af.length ≤ 1000) (w : World) (hk : ClsAt w w.heap.size K ks) (hX : JobsAt w X l) (hU : IntsAt w U us) (hY : IntsAt w Y j.af) :
    Calls Try.prog 20 #[.agg #[.int .i64 d0, .int .i64 d1, .int .i64 d2, .int .i64 bo, .int .i64 fr, .int .i64 tr, .int .i64 ag, .slice K ks.length kc], .slice X l.length cap, .slice U us.length cu, .agg #[.int .i64 j.id, .int .i64 j.us, .int .i64 j.cl, .int .i64 j.x.a, .int .i64 j.x.b, .int .i64 j.x.c, .bool j.x.p, .bool j.x.q, .bool j.x.r, .bool j.x.tn, .int .i64 j.wa, .int .i64 j.pr, .bool j.he, .slice Y j.af.length cj, .int .u8 j.st, .int .i64 j.ca]] w fun e w' => ∃ X' c', e = .returned (.tuple #[.slice X' (addV d0 d1 d2 bo fr tr ag ks l us j).1.length c', .int .i64 (addV d0 d1 d2 bo fr tr ag ks l us j).2]) ∧ JobsAt w' X' (addV d0 d1 d2 bo fr tr ag ks l us j).1 ∧ Below w.heap.size w w' := by
  have HT := Lib.hid (fun w hk hX => rtable_any d0 d1 d2 bo fr tr ag K kc ks hlk X cap l (by omega) (fun j hj => by have := hla j hj; omega) w hk hX)
  have HC := Lib.hid (fun w hk hY => rchecked d0 d1 d2 bo fr tr ag K kc ks (asked j) Y cj hlk (show j.af.length ≤ _ by omega) w hk hY)
  have HN := Lib.hid (fun w hX hY => rthere X cap l (asked j) Y cj (by omega) (show j.af.length ≤ _ by omega) w hX hY)
  have HI := Lib.hid (And.intro hk (And.intro hX (And.intro hU (And.intro hY hla))))
  clear hk hX hU hY hla
  go_enter Try.func20, Try.ntmps20
  go_upto_region 1 with fail
  have kc0 : Blk ((w.alloc (.cells #[.int .i64 d0, .int .i64 d1, .int .i64 d2, .int .i64 bo, .int .i64 fr, .int .i64 tr, .int .i64 ag, .slice K ks.length kc] 26)).alloc (.cells #[.int .i64 j.id, .int .i64 j.us, .int .i64 j.cl, .int .i64 j.x.a, .int .i64 j.x.b, .int .i64 j.x.c, .bool j.x.p, .bool j.x.q, .bool j.x.r, .bool j.x.tn, .int .i64 j.wa, .int .i64 j.pr, .bool j.he, .slice Y j.af.length cj, .int .u8 j.st, .int .i64 j.ca] 33)) w.heap.size 26 #[.int .i64 d0, .int .i64 d1, .int .i64 d2, .int .i64 bo, .int .i64 fr, .int .i64 tr, .int .i64 ag, .slice K ks.length kc] := (Blk.new w _ _).alloc _
  have kj0 : Blk ((w.alloc (.cells #[.int .i64 d0, .int .i64 d1, .int .i64 d2, .int .i64 bo, .int .i64 fr, .int .i64 tr, .int .i64 ag, .slice K ks.length kc] 26)).alloc (.cells #[.int .i64 j.id, .int .i64 j.us, .int .i64 j.cl, .int .i64 j.x.a, .int .i64 j.x.b, .int .i64 j.x.c, .bool j.x.p, .bool j.x.q, .bool j.x.r, .bool j.x.tn, .int .i64 j.wa, .int .i64 j.pr, .bool j.he, .slice Y j.af.length cj, .int .u8 j.st, .int .i64 j.ca] 33)) (w.heap.size + 1) 33 #[.int .i64 j.id, .int .i64 j.us, .int .i64 j.cl, .int .i64 j.x.a, .int .i64 j.x.b, .int .i64 j.x.c, .bool j.x.p, .bool j.x.q, .bool j.x.r, .bool j.x.tn, .int .i64 j.wa, .int .i64 j.pr, .bool j.he, .slice Y j.af.length cj, .int .u8 j.st, .int .i64 j.ca] := blk1 w _ _
  have hb0 : Below w.heap.size w ((w.alloc (.cells #[.int .i64 d0, .int .i64 d1, .int .i64 d2, .int .i64 bo, .int .i64 fr, .int .i64 tr, .int .i64 ag, .slice K ks.length kc] 26)).alloc (.cells #[.int .i64 j.id, .int .i64 j.us, .int .i64 j.cl, .int .i64 j.x.a, .int .i64 j.x.b, .int .i64 j.x.c, .bool j.x.p, .bool j.x.q, .bool j.x.r, .bool j.x.tn, .int .i64 j.wa, .int .i64 j.pr, .bool j.he, .slice Y j.af.length cj, .int .u8 j.st, .int .i64 j.ca] 33)) := below_alloc (below_alloc (Below.refl _ _))
  generalize ((w.alloc (.cells #[.int .i64 d0, .int .i64 d1, .int .i64 d2, .int .i64 bo, .int .i64 fr, .int .i64 tr, .int .i64 ag, .slice K ks.length kc] 26)).alloc (.cells #[.int .i64 j.id, .int .i64 j.us, .int .i64 j.cl, .int .i64 j.x.a, .int .i64 j.x.b, .int .i64 j.x.c, .bool j.x.p, .bool j.x.q, .bool j.x.r, .bool j.x.tn, .int .i64 j.wa, .int .i64 j.pr, .bool j.he, .slice Y j.af.length cj, .int .u8 j.st, .int .i64 j.ca] 33)) = w0 at *
  have HB0 := Lib.hid hb0
  have KC0 := Lib.hid kc0
  have KJ0 := Lib.hid kj0
  clear hb0 kc0 kj0
  go_wp2_with (first | (refine wpList_load_row rfl 26 _ rfl _ rfl 26 #[.int .i64 d0, .int .i64 d1, .int .i64 d2, .int .i64 bo, .int .i64 fr, .int .i64 tr, .int .i64 ag, .slice K ks.length kc] (0, 0) _ KC0.out Try.underlying26 rfl (by kernel_rfl) ?_))
  refine (HT.out _ (HI.out.1.up HB0.out) (HI.out.2.1.up HB0.out)).mono ?_
  rintro e w1 ⟨rfl, hB1⟩
  have HB1 := Lib.hid (below_up HB0.out hB1)
  have KC1 := Lib.hid (KC0.out.below hB1 KC0.out.lt)
  have KJ1 := Lib.hid (KJ0.out.below hB1 KJ0.out.lt)
  clear hB1 HB0 KC0 KJ0
  by_cases h1 : tableV d0 d1 d2 bo fr tr ag ks l = 0
  rotate_left
  · have EQ := Lib.hid (show addV d0 d1 d2 bo fr tr ag ks l us j = ([], tableV d0 d1 d2 bo fr tr ag ks l) by unfold addV; rw [if_pos h1])
    generalize tableV d0 d1 d2 bo fr tr ag ks l = V at *
    have hv1 : (V != 0) = true := by simpa using h1
    clear h1
    go_wp2_with fail
    go_ret2
    rw [EQ.out]
    exact ⟨none, 0, rfl, JobsAt.nil, HB1.out⟩
  rw [h1]
  have H1 := Lib.hid h1
  clear h1
  have y14 : w1.cell? ⟨w.heap.size + 1, 14, none⟩ = some (.int .u8 j.st) := KJ1.out.cell 14
  have f14 : w1.frozen? ⟨w.heap.size + 1, 14, none⟩ = false := KJ1.out.frozen 14
  go_upto_region 5 with fail
  have kj2 : Blk (w1.setCell ⟨w.heap.size + 1, 14, none⟩ (.int .u8 1)) (w.heap.size + 1) 33 #[.int .i64 j.id, .int .i64 j.us, .int .i64 j.cl, .int .i64 j.x.a, .int .i64 j.x.b, .int .i64 j.x.c, .bool j.x.p, .bool j.x.q, .bool j.x.r, .bool j.x.tn, .int .i64 j.wa, .int .i64 j.pr, .bool j.he, .slice Y j.af.length cj, .int .u8 1, .int .i64 j.ca] := KJ1.out.set_ 14 (.int .u8 1)
  have kc2 := KC1.out.far (p := ⟨w.heap.size + 1, 14, none⟩) (by show w.heap.size ≠ w.heap.size + 1; omega) (.int .u8 1)
  have hb2 := HB1.out.setCell (p := ⟨w.heap.size + 1, 14, none⟩) (by show w.heap.size ≤ w.heap.size + 1; omega) (.int .u8 1)
  clear y14 f14
  generalize (w1.setCell ⟨w.heap.size + 1, 14, none⟩ (.int .u8 1)) = w2 at *
  have HB2 := Lib.hid hb2
  have KC2 := Lib.hid kc2
  have KJ2 := Lib.hid kj2
  clear hb2 kc2 kj2 HB1 KC1 KJ1
  go_wp2_with (first | (refine wpList_load_row rfl 26 _ rfl _ rfl 26 #[.int .i64 d0, .int .i64 d1, .int .i64 d2, .int .i64 bo, .int .i64 fr, .int .i64 tr, .int .i64 ag, .slice K ks.length kc] (0, 0) _ KC2.out Try.underlying26 rfl (by kernel_rfl) ?_) | (refine wpList_load_row rfl 33 _ rfl _ rfl 33 #[.int .i64 j.id, .int .i64 j.us, .int .i64 j.cl, .int .i64 j.x.a, .int .i64 j.x.b, .int .i64 j.x.c, .bool j.x.p, .bool j.x.q, .bool j.x.r, .bool j.x.tn, .int .i64 j.wa, .int .i64 j.pr, .bool j.he, .slice Y j.af.length cj, .int .u8 1, .int .i64 j.ca] (0, 0) _ KJ2.out Try.underlying33 rfl (by kernel_rfl) ?_))
  refine (HC.out _ (HI.out.1.up HB2.out) (HI.out.2.2.2.1.up HB2.out)).mono ?_
  rintro e w3 ⟨rfl, hB3⟩
  have HB3 := Lib.hid (below_up HB2.out hB3)
  have KC3 := Lib.hid (KC2.out.below hB3 KC2.out.lt)
  have KJ3 := Lib.hid (KJ2.out.below hB3 KJ2.out.lt)
  clear hB3 HB2 KC2 KJ2
  by_cases h2 : checkV d0 d1 d2 ks (asked j) = 0
  rotate_left
  · have EQ := Lib.hid (show addV d0 d1 d2 bo fr tr ag ks l us j = ([], checkV d0 d1 d2 ks (asked j)) by unfold addV; rw [if_neg (not_not_intro H1.out), if_pos h2])
    generalize checkV d0 d1 d2 ks (asked j) = V at *
    have hv1 : (V != 0) = true := by simpa using h2
    clear h2
    go_wp2_with fail
    go_ret2
    rw [EQ.out]
    exact ⟨none, 0, rfl, JobsAt.nil, HB3.out⟩
  rw [h2]
  have H2 := Lib.hid h2
  clear h2
  have x0 : w3.cell? ⟨w.heap.size + 1, 0, none⟩ = some (.int .i64 j.id) := KJ3.out.cell 0
  go_upto_region 8 with fail
  go_cut [40] from 13 to 55 (fun s wx => s = .bool (lastB l j) ∧ Hid (Below w3.heap.size w3 wx))
  case first =>
    by_cases hz : l.length = 0
    · have d1 : decide (0 < l.length) = false := decide_eq_false (by omega)
      have d2 : ¬ ((0 : Int) < (l.length : Int)) := by omega
      have HL := Lib.hid (show lastB l j = false by unfold lastB; rw [List.length_eq_zero_iff.1 hz]; rfl)
      clear hz
      have kq0 := cell_regrown x0
      refine wp_region_quiet_below (by kernel_rfl) (by kernel_rfl) ?_
      repeat (first | go_big_quiet_step (first | fail))
      refine wpQuiet_nil ?_
      intro _ hw'
      obtain ⟨⟨dq, osq⟩, hw''⟩ := hw'
      subst hw''
      have hBq := below_regrown w3 dq osq
      clear kq0
      generalize grow (redrawn w3 dq) osq = w4 at *
      have HBq := Lib.hid hBq
      clear hBq
      go_wp2_with fail
      go_meet
      exact ⟨by rw [HL.out], HBq.out⟩
    · obtain ⟨m, hm⟩ : ∃ m, l.length = m + 1 := ⟨l.length - 1, by omega⟩
      have hg : l[m]? = some (l[m]'(by omega)) := List.getElem?_eq_getElem (by omega)
      generalize l[m]'(by omega) = q at hg
      have HL := Lib.hid (show lastB l j = decide (j.id ≤ q.id) by unfold lastB; rw [show l.length - 1 = m by omega, hg])
      obtain ⟨b, o, Y2, c2, hXe, hb, hJ2, _⟩ := HI.out.2.1.up HB3.out m q hg
      subst hXe
      have z0 : w3.cell? ⟨b, o + m * 16, none⟩ = some (.int .i64 q.id) := hJ2.1
      have d1 : decide (0 < l.length) = true := decide_eq_true (by omega)
      have d2 : (0 : Int) < (l.length : Int) := by omega
      have hsub : IntKind.i64.wrap ((l.length : Int) - 1) = (m : Int) := by rw [IntWalk.i64_in _ (by omega)]; omega
      have hm0 : (0 : Int) ≤ (m : Int) := by omega
      have hm1 : (m : Int) < (l.length : Int) := by omega
      clear hz hg hJ2 hb hm
      have kq0 := cell_regrown x0
      have kq1 := cell_regrown z0
      refine wp_region_quiet_below (by kernel_rfl) (by kernel_rfl) ?_
      repeat (first | go_big_quiet_step (first | fail))
      refine wpQuiet_nil ?_
      intro _ hw'
      obtain ⟨⟨dq, osq⟩, hw''⟩ := hw'
      subst hw''
      have hBq := below_regrown w3 dq osq
      clear kq0 kq1
      generalize grow (redrawn w3 dq) osq = w4 at *
      have HBq := Lib.hid hBq
      clear hBq
      go_wp2_with fail
      go_meet
      exact ⟨by rw [HL.out], HBq.out⟩
  case rest =>
    obtain ⟨rfl, hBc⟩ := hcut
    obtain ⟨w4, rfl⟩ : ∃ w4 : World, w4 = wc := ⟨_, rfl⟩
    have hB4 := hBc.out
    clear hBc x0
    have HB4 := Lib.hid (below_up HB3.out hB4)
    have KC4 := Lib.hid (KC3.out.below hB4 KC3.out.lt)
    have KJ4 := Lib.hid (KJ3.out.below hB4 KJ3.out.lt)
    clear hB4 HB3 KC3 KJ3
    cases h3 : lastB l j
    rotate_left
    · have EQ := Lib.hid (show addV d0 d1 d2 bo fr tr ag ks l us j = ([], 8) by unfold addV; rw [if_neg (not_not_intro H1.out), if_neg (not_not_intro H2.out), if_pos h3])
      clear h3
      go_wp2_with fail
      go_ret2
      rw [EQ.out]
      exact ⟨none, 0, rfl, JobsAt.nil, HB4.out⟩
    have H3 := Lib.hid h3
    clear h3
    go_wp2_with (first | (refine wpList_load_row rfl 33 _ rfl _ rfl 33 #[.int .i64 j.id, .int .i64 j.us, .int .i64 j.cl, .int .i64 j.x.a, .int .i64 j.x.b, .int .i64 j.x.c, .bool j.x.p, .bool j.x.q, .bool j.x.r, .bool j.x.tn, .int .i64 j.wa, .int .i64 j.pr, .bool j.he, .slice Y j.af.length cj, .int .u8 1, .int .i64 j.ca] (0, 0) _ KJ4.out Try.underlying33 rfl (by kernel_rfl) ?_))
    refine (HN.out _ (HI.out.2.1.up HB4.out) (HI.out.2.2.2.1.up HB4.out)).mono ?_
    rintro e w5 ⟨rfl, hB5⟩
    have HB5 := Lib.hid (below_up HB4.out hB5)
    have KC5 := Lib.hid (KC4.out.below hB5 KC4.out.lt)
    have KJ5 := Lib.hid (KJ4.out.below hB5 KJ4.out.lt)
    clear hB5 HB4 KC4 KJ4
    rw [show thereB l (asked j) = thereB l j from rfl]
    cases h4 : thereB l j
    · have EQ := Lib.hid (show addV d0 d1 d2 bo fr tr ag ks l us j = ([], 182) by unfold addV; rw [if_neg (not_not_intro H1.out), if_neg (not_not_intro H2.out), if_neg (by rw [H3.out]; simp), if_pos h4])
      clear h4
      go_wp2_with fail
      go_ret2
      rw [EQ.out]
      exact ⟨none, 0, rfl, JobsAt.nil, HB5.out⟩
    have H4 := Lib.hid h4
    clear h4
    have EQ0 := Lib.hid (show addV d0 d1 d2 bo fr tr ag ks l us j = if l.length < 24 then (l ++ [asked j], (0 : Int)) else match (looseUp l us (asked j) l.length).head? with | some i => ((l ++ [asked j]).eraseIdx i, (0 : Int)) | none => ([], (9 : Int)) by unfold addV; rw [if_neg (not_not_intro H1.out), if_neg (not_not_intro H2.out), if_neg (by rw [H3.out]; simp), if_neg (by rw [H4.out]; simp)]; rfl)
    by_cases h5 : l.length < 24
    · have EQ := Lib.hid (EQ0.out.trans (if_pos h5))
      go_wp2_with (first | (refine wpList_load_row rfl 33 _ rfl _ rfl 33 #[.int .i64 j.id, .int .i64 j.us, .int .i64 j.cl, .int .i64 j.x.a, .int .i64 j.x.b, .int .i64 j.x.c, .bool j.x.p, .bool j.x.q, .bool j.x.r, .bool j.x.tn, .int .i64 j.wa, .int .i64 j.pr, .bool j.he, .slice Y j.af.length cj, .int .u8 1, .int .i64 j.ca] (0, 0) _ KJ5.out Try.underlying33 rfl (by kernel_rfl) ?_))
      refine (rput_room X cap l U cu us (asked j) Y cj hl HI.out.2.2.2.2 hlu hja h5 _ (HI.out.2.1.up HB5.out) (HI.out.2.2.1.up HB5.out) (HI.out.2.2.2.1.up HB5.out)).mono ?_
      rintro e w6 ⟨⟨X', c', rfl, hJ⟩, hB6⟩
      obtain ⟨n, hn⟩ : ∃ n, n = (l ++ [asked j]).length := ⟨_, rfl⟩
      rw [show (l ++ [asked (asked j)]).length = n from hn.symm]
      have H6 := Lib.hid (And.intro hJ (And.intro (below_up HB5.out hB6) hn))
      clear hJ hB6 hn
      go_wp2_with fail
      go_ret2
      rw [EQ.out]
      refine ⟨X', c', ?_, H6.out.1, H6.out.2.1⟩
      show _ = Ending.returned (.tuple #[.slice X' (l ++ [asked j]).length c', .int .i64 0])
      rw [← H6.out.2.2]
      rfl
    have h24 : l.length ≤ 24 := (tableV_of H1.out).2.len
    cases hh : (looseUp l us (asked j) l.length).head? with
    | none =>
      have EQ := Lib.hid (show addV d0 d1 d2 bo fr tr ag ks l us j = ([], 9) by rw [EQ0.out, if_neg h5, hh])
      have hr : roomV l us (asked j) < 0 := by unfold roomV; rw [hh]; decide
      clear hh EQ0
      go_wp2_with (first | (refine wpList_load_row rfl 33 _ rfl _ rfl 33 #[.int .i64 j.id, .int .i64 j.us, .int .i64 j.cl, .int .i64 j.x.a, .int .i64 j.x.b, .int .i64 j.x.c, .bool j.x.p, .bool j.x.q, .bool j.x.r, .bool j.x.tn, .int .i64 j.wa, .int .i64 j.pr, .bool j.he, .slice Y j.af.length cj, .int .u8 1, .int .i64 j.ca] (0, 0) _ KJ5.out Try.underlying33 rfl (by kernel_rfl) ?_))
      refine (rput_none X cap l U cu us (asked j) Y cj hl HI.out.2.2.2.2 hlu hja h5 hr _ (HI.out.2.1.up HB5.out) (HI.out.2.2.1.up HB5.out) (HI.out.2.2.2.1.up HB5.out)).mono ?_
      rintro e w6 ⟨rfl, hB6⟩
      have H6 := Lib.hid (below_up HB5.out hB6)
      clear hB6
      go_wp2_with fail
      go_ret2
      rw [EQ.out]
      exact ⟨none, 0, rfl, JobsAt.nil, H6.out⟩
    | some i =>
      have hil := (loose_mem (List.mem_of_mem_head? hh)).1
      have EQ := Lib.hid (show addV d0 d1 d2 bo fr tr ag ks l us j = (l.eraseIdx i ++ [asked j], 0) by rw [EQ0.out, if_neg h5, hh]; simp only; rw [List.eraseIdx_append_of_lt_length hil])
      have hr : roomV l us (asked j) = (i : Int) := by unfold roomV; rw [hh]
      clear hh EQ0
      go_wp2_with (first | (refine wpList_load_row rfl 33 _ rfl _ rfl 33 #[.int .i64 j.id, .int .i64 j.us, .int .i64 j.cl, .int .i64 j.x.a, .int .i64 j.x.b, .int .i64 j.x.c, .bool j.x.p, .bool j.x.q, .bool j.x.r, .bool j.x.tn, .int .i64 j.wa, .int .i64 j.pr, .bool j.he, .slice Y j.af.length cj, .int .u8 1, .int .i64 j.ca] (0, 0) _ KJ5.out Try.underlying33 rfl (by kernel_rfl) ?_))
      refine (rput_full X cap l U cu us (asked j) Y cj hl HI.out.2.2.2.2 hlu hja h5 h24 i hil hr _ rfl _ (HI.out.2.1.up HB5.out) (HI.out.2.2.1.up HB5.out) (HI.out.2.2.2.1.up HB5.out)).mono ?_
      rintro e w6 ⟨⟨X', c', rfl, hJ⟩, hB6⟩
      obtain ⟨n, hn⟩ : ∃ n, n = (l.eraseIdx i ++ [asked j]).length := ⟨_, rfl⟩
      rw [show (l.eraseIdx i ++ [asked (asked j)]).length = n from hn.symm]
      have H6 := Lib.hid (And.intro hJ (And.intro (below_up HB5.out hB6) hn))
      clear hJ hB6 hn hr
      go_wp2_with fail
      go_ret2
      rw [EQ.out]
      refine ⟨X', c', ?_, H6.out.1, H6.out.2.1⟩
      show _ = Ending.returned (.tuple #[.slice X' (l.eraseIdx i ++ [asked j]).length c', .int .i64 0])
      rw [← H6.out.2.2]
      rfl
end Go.Proofs.Ytaldgmmmcbikgaa.RfAdd
