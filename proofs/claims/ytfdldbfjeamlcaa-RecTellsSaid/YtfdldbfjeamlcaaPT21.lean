/- Several texts joined: The reference's Read. No conditions but those named. -/
import Derived.BigQuiet
import Derived.Deep.QuietTactic
import Derived.Deep.RegionLaw
import Derived.Deep.DeepCutAuto
import Derived.Lib.QuietBelow
import Derived.IntWalk
import Derived.WalkKit
import Derived.WalkLawsBesides
import Derived.Test.YtfdldbfjeamlcaaPT20
import Derived.Test.YtfdldbfjeamlcaaPG15
import Derived.Deep.MidRow
import Derived.Lib.SliceRun
import Derived.Laws.Rows
import Derived.Test.YtfdldbfjeamlcaaPT19
import Derived.Test.YtfdldbfjeamlcaaPG16
import Derived.Test.YtfdldbfjeamlcaaPG4
import Derived.Test.YtfdldbfjeamlcaaPG17
set_option linter.unusedVariables false
set_option linter.unusedSimpArgs false
namespace Go.Proofs.Ytfdldbfjeamlcaa.RfRead
set_option maxRecDepth 100000
set_option maxHeartbeats 4000000
open Go.Sort Go.RowKit Mem RecMem RecByte RecNum RecEach RecMath RecCod RecCods RecPort RecCommand RecCmdJ RecVal RecSame RecOwn RecRd RecRByte RecRNum RecREach RecRFlat RecRClass RecRL0 RecRListI RecRAsk RecRState RecRCmd RecRRec RfRd RfByte RfNum RfMany RfFlat RfBox RfList RfAsk RfCmd RfState RecRList RecRListE RecRListP RecRListJ RecRJob RecRead
theorem results_ri {P : Program} {fn : Func} {p q : Tmp} {ty : TypeId} (h : fn.results = #[.cell p ty, .tmp q]) (tmps : Array Value) (w : World) (g : Nat) (t : TypeId) (cs : Array Value) (fr : Nat × Nat) (d : TypeDesc) (v : Value)
    (hp : tmps.getD p undef = .pointer (some ⟨g, 0, none⟩)) (hq : tmps.getD q undef = v) (hg : w.heap[g]? = some (.cells cs t fr))
    (hu : P.underlying ty = some d) (hd : (match d with | .struct _ | .array _ _ => true | _ => false) = true) (hi : (P.info? ty).map (·.size) = some cs.size) :
    (results fn tmps).run P w = .ok (.tuple #[.agg cs, v]) w := by
 have hp' : tmps[p]?.getD undef = .pointer (some ⟨g, 0, none⟩) := by simpa using hp
 have hq' : tmps[q]?.getD undef = v := by simpa using hq
 simp [results, h, hp', hq', asAddr, run_loadVar_row w g t ty cs fr d hg hu hd hi]
theorem at_over {α : Type} {R : Rep α} {T : TypeId} {v v' : World} {F b : Nat} {x : α} {vs : List Value} {cs : Array Value} (hN : KeepN T R) (h : R.At v F x vs) (hk : Blk v b T cs) (ho : Only b v v') : R.At v' F x vs :=
 hN _ _ _ _ _ h fun k c e he hF hc => ho.block k (Array.getElem?_eq_some_iff.1 hc).1 fun e1 => by
  subst e1
  rw [show v.heap[k]? = _ from hk] at hc
  injection hc with hc
  injection hc with _ hc
  exact he hc.symm
theorem keepN_cmd {e : TypeId} (he : INT ≠ e) : KeepN e cmdR := by
 rintro w w' F c vs ⟨Y, cy, rfl, h⟩ hk
 exact ⟨Y, cy, rfl, keepN_ints he _ _ _ _ _ h hk⟩
theorem keepN_st {e : TypeId} (h1 : CLT ≠ e) (h2 : JBT ≠ e) (h3 : PAT ≠ e) (h4 : KET ≠ e) (h5 : INT ≠ e) : KeepN e stateR := keepN_iso (keepN_pair (keepN_pair (keepN_pair (keepN_pair (keepN_pair (keepN_pair (keepN_pair (keepN_pair (keepN_pair (keepN_pair (keepN_pair (keepN_pair (keepN_pair keepN_flat keepN_flat) keepN_flat) keepN_flat) keepN_flat) (keepN_lst h1 keepN_flat)) keepN_flat) keepN_flat) (keepN_lst h2 (keepN_job2 h5))) (keepN_lst h3 keepN_flat)) (keepN_lst h4 keepN_flat)) (keepN_ints h5)) (keepN_ints h5)) (keepN_ints h5))
theorem at_cmd {w : World} {F : Nat} {cm : CV} {V : Option Addr} {cv : Nat} (h : cmdR.At w F cm (cL cm V cv)) : recR.At w F ⟨0, SV.z, cm⟩ (rL ⟨0, SV.z, cm⟩ SA.z V cv) := ⟨_, _, rfl, stateR_nil, h⟩
theorem at_state {w : World} {F : Nat} {g : Int} {s : SV} {y : SA} (h : stateR.At w F s (sL s y)) : recR.At w F ⟨g, s, CV.z⟩ (rL ⟨g, s, CV.z⟩ y none 0) := ⟨_, _, rfl, h, cmdR_nil rfl⟩
theorem rfread (X : Option Addr) (t : Bs) (c : Nat) (w : World) (hX : TxtAt w X t) (ho : Oct t) :
    Calls Try.prog 22 #[.slice X t.length c] w fun e w' => RdPost t w e w' := by
 have HX := Lib.hid (And.intro hX ho)
 have KR := Lib.hid (Blk.new w 51 Sq.zzR)
 have HB := Lib.hid (below_alloc (o := .cells Sq.zzR 51) (Below.refl w.heap.size w))
 have hsz : (w.alloc (.cells Sq.zzR 51)).heap.size = w.heap.size + 1 := by simp
 clear hX ho
 go_enter Try.func22, Try.ntmps22
 go_upto_region 1 with fail
 have HSZ := Lib.hid hsz
 clear hsz
 generalize w.alloc (.cells Sq.zzR 51) = w0 at *
 by_cases hlen : 65536 < t.length
 ·have hl2 : (65536 : Int) < (t.length : Int) := by omega
  have HL := Lib.hid hlen
  clear hlen
  have k1 : Blk (World.setCells w0 w.heap.size 0 [.int .i64 0, .int .i64 0, .int .i64 0, .int .i64 0, .int .i64 0, .int .i64 0, .int .i64 0, .int .i64 0, .slice none 0 0, .int .i64 0, .int .i64 0, .slice none 0 0, .slice none 0 0, .slice none 0 0, .slice none 0 0, .slice none 0 0, .slice none 0 0, .int .u8 0, .int .i64 0, .int .i64 0, .int .i64 0, .int .i64 0, .int .i64 0, .int .i64 0, .bool false, .bool false, .bool false, .bool false, .int .i64 0, .int .i64 0, .bool false, .slice none 0 0, .int .u8 0, .int .i64 0, .int .i64 0, .int .i64 0, .int .i64 0, .int .i64 0, .int .i64 0, .int .i64 0, .int .i64 0, .int .i64 0, .int .i64 0, .int .i64 0, .bool false]) w.heap.size 51 (List.toArray [.int .i64 0, .int .i64 0, .int .i64 0, .int .i64 0, .int .i64 0, .int .i64 0, .int .i64 0, .int .i64 0, .slice none 0 0, .int .i64 0, .int .i64 0, .slice none 0 0, .slice none 0 0, .slice none 0 0, .slice none 0 0, .slice none 0 0, .slice none 0 0, .int .u8 0, .int .i64 0, .int .i64 0, .int .i64 0, .int .i64 0, .int .i64 0, .int .i64 0, .bool false, .bool false, .bool false, .bool false, .int .i64 0, .int .i64 0, .bool false, .slice none 0 0, .int .u8 0, .int .i64 0, .int .i64 0, .int .i64 0, .int .i64 0, .int .i64 0, .int .i64 0, .int .i64 0, .int .i64 0, .int .i64 0, .int .i64 0, .int .i64 0, .bool false]) := blk_all KR.out (setA_full rfl)
  have k2 : Below w.heap.size w (World.setCells w0 w.heap.size 0 [.int .i64 0, .int .i64 0, .int .i64 0, .int .i64 0, .int .i64 0, .int .i64 0, .int .i64 0, .int .i64 0, .slice none 0 0, .int .i64 0, .int .i64 0, .slice none 0 0, .slice none 0 0, .slice none 0 0, .slice none 0 0, .slice none 0 0, .slice none 0 0, .int .u8 0, .int .i64 0, .int .i64 0, .int .i64 0, .int .i64 0, .int .i64 0, .int .i64 0, .bool false, .bool false, .bool false, .bool false, .int .i64 0, .int .i64 0, .bool false, .slice none 0 0, .int .u8 0, .int .i64 0, .int .i64 0, .int .i64 0, .int .i64 0, .int .i64 0, .int .i64 0, .int .i64 0, .int .i64 0, .int .i64 0, .int .i64 0, .int .i64 0, .bool false]) := below_sets (Nat.le_refl _) HB.out
  have HZ := Lib.hid (And.intro k1 k2)
  clear k1 k2
  go_wp2_with (first | (refine wpList_store_mid rfl 51 _ _ rfl w.heap.size 0 (List.toArray [.int .i64 0, .int .i64 0, .int .i64 0, .int .i64 0, .int .i64 0, .int .i64 0, .int .i64 0, .int .i64 0, .slice none 0 0, .int .i64 0, .int .i64 0, .slice none 0 0, .slice none 0 0, .slice none 0 0, .slice none 0 0, .slice none 0 0, .slice none 0 0, .int .u8 0, .int .i64 0, .int .i64 0, .int .i64 0, .int .i64 0, .int .i64 0, .int .i64 0, .bool false, .bool false, .bool false, .bool false, .int .i64 0, .int .i64 0, .bool false, .slice none 0 0, .int .u8 0, .int .i64 0, .int .i64 0, .int .i64 0, .int .i64 0, .int .i64 0, .int .i64 0, .int .i64 0, .int .i64 0, .int .i64 0, .int .i64 0, .int .i64 0, .bool false]) rfl rfl (there_of KR.out (Nat.le_of_ble_eq_true rfl)) (by kernel_rfl) (by kernel_rfl) ?_; simp only [List.toList_toArray]; generalize World.setCells _ _ _ _ = w99 at *; (try simp only [Act.put])))
  refine bodyPost_ret (v := .tuple #[.agg zA, .int .i64 4]) ?_ rfl ?_
  ·exact results_ri rfl _ _ w.heap.size 51 zA (0, 0) _ (.int .i64 4) rfl rfl HZ.out.1 Try.underlying51 rfl (by kernel_rfl)
  ·exact ⟨zA.toList, by rw [readV_long HL.out], by rw [readV_long HL.out]; exact recR_nil, HZ.out.2⟩
 ·have hl2 : ¬ (65536 : Int) < (t.length : Int) := by omega
  have HL := Lib.hid hlen
  clear hlen
  have h1 := HSZ.out
  have hp : RS w.heap.size (w0.alloc (.cells #[.slice X t.length c, .int .i64 0, .bool false] 120)) (w.heap.size + 1) X t c 0 false := ⟨by rw [← h1]; exact Blk.new _ _ _, Nat.zero_le _, by have := HL.out; omega, HX.out.2, by omega, fun i x hi => by
   obtain ⟨tb, o, e, g1, g2⟩ := HX.out.1 i x hi
   exact ⟨tb, o, e, g1, cell_over _ (keep_cell g2 HB.out)⟩⟩
  have HP := Lib.hid hp
  have KR0 := Lib.hid (KR.out.alloc (.cells #[.slice X t.length c, .int .i64 0, .bool false] 120))
  have HB0 := Lib.hid (below_alloc (o := .cells #[.slice X t.length c, .int .i64 0, .bool false] 120) HB.out)
  have hs0 : w.heap.size + 1 < (w0.alloc (.cells #[.slice X t.length c, .int .i64 0, .bool false] 120)).heap.size := by simp; omega
  clear hp h1 KR HB
  go_upto_region 4 with fail
  rw [HSZ.out]
  generalize w0.alloc (.cells #[.slice X t.length c, .int .i64 0, .bool false] 120) = w1 at *
  go_wp2_with fail
  refine (rfnum w.heap.size (w.heap.size + 1) X t c 0 false w1 HP.out).mono ?_
  rintro e wb hh
  obtain ⟨k1, od1, g, rfl, hS, hM⟩ := hh
  have HM1 := Lib.hid (And.intro hM hS)
  have KRb := Lib.hid (hM.fr.blk KR0.out (by omega) (by omega))
  have hsb : w1.heap.size ≤ wb.heap.size := hM.fr.size
  have HBb := Lib.hid (HB0.out.trans (hM.fr.below (B := w.heap.size) (by omega) (by omega) (by omega)))
  clear hS hM KR0 HB0 HP
  have xf := box_full (W := wb) 51 Sq.zzR (vs := [.int .i64 g, .int .i64 0, .int .i64 0, .int .i64 0, .int .i64 0, .int .i64 0, .int .i64 0, .int .i64 0, .slice none 0 0, .int .i64 0, .int .i64 0, .slice none 0 0, .slice none 0 0, .slice none 0 0, .slice none 0 0, .slice none 0 0, .slice none 0 0, .int .u8 0, .int .i64 0, .int .i64 0, .int .i64 0, .int .i64 0, .int .i64 0, .int .i64 0, .bool false, .bool false, .bool false, .bool false, .int .i64 0, .int .i64 0, .bool false, .slice none 0 0, .int .u8 0, .int .i64 0, .int .i64 0, .int .i64 0, .int .i64 0, .int .i64 0, .int .i64 0, .int .i64 0, .int .i64 0, .int .i64 0, .int .i64 0, .int .i64 0, .bool false]) rfl
  have hsx : wb.heap.size < (World.setCells (wb.alloc (.cells Sq.zzR 51)) wb.heap.size 0 [.int .i64 g, .int .i64 0, .int .i64 0, .int .i64 0, .int .i64 0, .int .i64 0, .int .i64 0, .int .i64 0, .slice none 0 0, .int .i64 0, .int .i64 0, .slice none 0 0, .slice none 0 0, .slice none 0 0, .slice none 0 0, .slice none 0 0, .slice none 0 0, .int .u8 0, .int .i64 0, .int .i64 0, .int .i64 0, .int .i64 0, .int .i64 0, .int .i64 0, .bool false, .bool false, .bool false, .bool false, .int .i64 0, .int .i64 0, .bool false, .slice none 0 0, .int .u8 0, .int .i64 0, .int .i64 0, .int .i64 0, .int .i64 0, .int .i64 0, .int .i64 0, .int .i64 0, .int .i64 0, .int .i64 0, .int .i64 0, .int .i64 0, .bool false]).heap.size := xf.1.lt
  have XF := Lib.hid xf
  clear xf
  go_upto_region 5 with (refine wpList_store_mid rfl 51 _ _ rfl wb.heap.size 0 (List.toArray [.int .i64 g, .int .i64 0, .int .i64 0, .int .i64 0, .int .i64 0, .int .i64 0, .int .i64 0, .int .i64 0, .slice none 0 0, .int .i64 0, .int .i64 0, .slice none 0 0, .slice none 0 0, .slice none 0 0, .slice none 0 0, .slice none 0 0, .slice none 0 0, .int .u8 0, .int .i64 0, .int .i64 0, .int .i64 0, .int .i64 0, .int .i64 0, .int .i64 0, .bool false, .bool false, .bool false, .bool false, .int .i64 0, .int .i64 0, .bool false, .slice none 0 0, .int .u8 0, .int .i64 0, .int .i64 0, .int .i64 0, .int .i64 0, .int .i64 0, .int .i64 0, .int .i64 0, .int .i64 0, .int .i64 0, .int .i64 0, .int .i64 0, .bool false]) rfl rfl (there_of (Blk.new wb 51 Sq.zzR) (Nat.le_of_ble_eq_true rfl)) (by kernel_rfl) (by kernel_rfl) ?_; simp only [List.toList_toArray]; generalize World.setCells _ _ _ _ = v1 at *; (try simp only [Act.put]))
  have KB1 := Lib.hid XF.out.1
  have KR1 := Lib.hid (KRb.out.below XF.out.2 KRb.out.lt)
  have HS1 := Lib.hid (HM1.out.2.up XF.out.2)
  have HN1 := Lib.hid HM1.out.1
  have HB1 := Lib.hid (HBb.out.trans (XF.out.2.mono (by omega)))
  clear XF KRb HBb HM1
  have hg2 : w.heap.size + 1 < wb.heap.size := by omega
  generalize wb.heap.size = g2 at *
  have b0 : v1.cell? ⟨g2, 0, none⟩ = some (.int .i64 g) := KB1.out.cell 0
  by_cases hg : g = 0
  ·have hge : (g == 0) = true := by simpa using hg
   have HG := Lib.hid hg
   clear hg
   go_wp2_with fail
   refine (rfcommand w.heap.size (w.heap.size + 1) X t c k1 od1 v1 HS1.out).mono ?_
   rintro e v2 hh
   obtain ⟨k2, od2, cm, V2, cv2, rfl, hS, hM⟩ := hh
   have KB2 := Lib.hid (hM.fr.blk KB1.out (by omega) (by omega))
   have KR2 := Lib.hid (hM.fr.blk KR1.out (by omega) (by omega))
   have HM2 := Lib.hid (And.intro hM hS)
   have hs2 : v1.heap.size ≤ v2.heap.size := hM.fr.size
   have hv1 : g2 < v1.heap.size := KB1.out.lt
   have HB2 := Lib.hid (HB1.out.trans (hM.fr.below (B := w.heap.size) (by omega) (by omega) (by omega)))
   clear hS hM KB1 KR1 HB1
   have ho := Only.sets (Only.refl g2 v2) (cL cm V2 cv2) 17
   have Kx := blk_setA (i := 17) (vs := (cL cm V2 cv2)) KB2.out
   rw [show setA #[.int .i64 g, .int .i64 0, .int .i64 0, .int .i64 0, .int .i64 0, .int .i64 0, .int .i64 0, .int .i64 0, .slice none 0 0, .int .i64 0, .int .i64 0, .slice none 0 0, .slice none 0 0, .slice none 0 0, .slice none 0 0, .slice none 0 0, .slice none 0 0, .int .u8 0, .int .i64 0, .int .i64 0, .int .i64 0, .int .i64 0, .int .i64 0, .int .i64 0, .bool false, .bool false, .bool false, .bool false, .int .i64 0, .int .i64 0, .bool false, .slice none 0 0, .int .u8 0, .int .i64 0, .int .i64 0, .int .i64 0, .int .i64 0, .int .i64 0, .int .i64 0, .int .i64 0, .int .i64 0, .int .i64 0, .int .i64 0, .int .i64 0, .bool false] 17 (cL cm V2 cv2) = #[.int .i64 g, .int .i64 0, .int .i64 0, .int .i64 0, .int .i64 0, .int .i64 0, .int .i64 0, .int .i64 0, .slice none 0 0, .int .i64 0, .int .i64 0, .slice none 0 0, .slice none 0 0, .slice none 0 0, .slice none 0 0, .slice none 0 0, .slice none 0 0, .int .u8 cm.kd, .int .i64 cm.id, .int .i64 cm.us, .int .i64 cm.cl, .int .i64 cm.a, .int .i64 cm.b, .int .i64 cm.c, .bool cm.p, .bool cm.q, .bool cm.r, .bool cm.tn, .int .i64 cm.wa, .int .i64 cm.pr, .bool cm.he, .slice V2 cm.af.length cv2, .int .u8 cm.st, .int .i64 cm.ca, .int .i64 cm.ci, .int .i64 cm.b0, .int .i64 cm.b1, .int .i64 cm.b2, .int .i64 cm.b3, .int .i64 cm.b4, .int .i64 cm.b5, .int .i64 cm.fr, .int .i64 cm.to, .int .i64 cm.n, .bool cm.we] from by simp only [setA, List.setIfInBounds_toArray, List.set_cons_zero, List.set_cons_succ]] at Kx
   have XX := Lib.hid (And.intro Kx (And.intro (RS.only HM2.out.2 ho (by omega) (by omega)) (And.intro (ho.blk KR2.out (by omega)) (And.intro (at_over (keepN_cmd (by decide)) (show cmdR.At v2 w.heap.size cm (cL cm V2 cv2) from cmdR.mono HM2.out.1.at_ (by omega)) KB2.out ho) (HB2.out.trans (ho.below (by omega) (by omega)))))))
   clear ho Kx
   go_upto_region 8 with (refine wpList_store_mid rfl 34 _ _ rfl g2 17 (List.toArray (cL cm V2 cv2)) rfl rfl (there_of KB2.out (Nat.le_of_ble_eq_true rfl)) (by kernel_rfl) (by kernel_rfl) ?_; simp only [List.toList_toArray]; generalize World.setCells _ _ _ _ = v3 at *; (try simp only [Act.put]))
   have KB3 := Lib.hid XX.out.1
   have HS3 := Lib.hid XX.out.2.1
   have KR3 := Lib.hid XX.out.2.2.1
   have HA3 := Lib.hid XX.out.2.2.2.1
   have HB3 := Lib.hid XX.out.2.2.2.2
   have hv3 : w.heap.size < v3.heap.size := XX.out.2.2.1.lt
   have HD := Lib.hid HM2.out.1
   clear XX KB2 KR2 HM2 HB2
   have hgood : od2 = false ∧ k2 = t.length → readV t = (⟨0, SV.z, cm⟩, 0) := fun h => by
    obtain ⟨e1, d1⟩ := HD.out.ok h.1
    obtain ⟨_, d0⟩ := HN1.out.ok e1
    rw [List.drop_zero, HG.out] at d0
    rw [h.2, List.drop_length] at d1
    exact readV_ok HL.out (by rw [rec_cmd d0, d1]; rfl)
   have hbad : ¬ (od2 = false ∧ k2 = t.length) → readV t = (RV.z, 8) := fun h => by
    cases h1 : od1 with
    | true =>
     have := HN1.out.bad h1 rfl
     rw [List.drop_zero] at this
     exact readV_none HL.out (rec_none this)
    | false =>
     obtain ⟨_, d0⟩ := HN1.out.ok h1
     rw [List.drop_zero, HG.out] at d0
     cases h2 : od2 with
     | true => exact readV_none HL.out (by rw [rec_cmd d0, HD.out.bad h2 h1]; rfl)
     | false =>
      obtain ⟨_, d1⟩ := HD.out.ok h2
      have hk : k2 < t.length := by
       have := HS3.out.le
       rcases Nat.lt_or_ge k2 t.length with h3 | h3
       ·exact h3
       ·exact absurd ⟨h2, by omega⟩ h
      exact readV_more (r := ⟨0, SV.z, cm⟩) (x := t[k2]) (u := t.drop (k2 + 1)) HL.out (by rw [rec_cmd d0, d1, List.drop_eq_getElem_cons hk]; rfl)
   have HGD := Lib.hid hgood
   have HBD := Lib.hid hbad
   clear hgood hbad
   by_cases hq : od2 = false ∧ k2 = t.length
   ·have HGOOD := Lib.hid (HGD.out hq)
    have hkk : ((k2 : Int) != (t.length : Int)) = false := by simp [hq.2]
    have hg1 : ¬ g < 0 := by rw [HG.out]; omega
    have hg3 : ¬ 2147483647 < g := by rw [HG.out]; omega
    obtain rfl : od2 = false := hq.1
    clear hq HGD HBD
    have p2 : v3.cell? ⟨w.heap.size + 1, 2, none⟩ = some (.bool false) := HS3.out.blk.cell 2
    have p1 : v3.cell? ⟨w.heap.size + 1, 1, none⟩ = some (.int .i64 k2) := HS3.out.blk.cell 1
    have b0 : v3.cell? ⟨g2, 0, none⟩ = some (.int .i64 g) := KB3.out.cell 0
    have R9 := Lib.hid (show v3.rangeAt g2 0 [.int .i64 g, .int .i64 0, .int .i64 0, .int .i64 0, .int .i64 0, .int .i64 0, .int .i64 0, .int .i64 0, .slice none 0 0, .int .i64 0, .int .i64 0, .slice none 0 0, .slice none 0 0, .slice none 0 0, .slice none 0 0, .slice none 0 0, .slice none 0 0, .int .u8 cm.kd, .int .i64 cm.id, .int .i64 cm.us, .int .i64 cm.cl, .int .i64 cm.a, .int .i64 cm.b, .int .i64 cm.c, .bool cm.p, .bool cm.q, .bool cm.r, .bool cm.tn, .int .i64 cm.wa, .int .i64 cm.pr, .bool cm.he, .slice V2 cm.af.length cv2, .int .u8 cm.st, .int .i64 cm.ca, .int .i64 cm.ci, .int .i64 cm.b0, .int .i64 cm.b1, .int .i64 cm.b2, .int .i64 cm.b3, .int .i64 cm.b4, .int .i64 cm.b5, .int .i64 cm.fr, .int .i64 cm.to, .int .i64 cm.n, .bool cm.we] from range_part (n := 45) KB3.out rfl)
    have ho := Only.sets (Only.refl w.heap.size v3) [.int .i64 g, .int .i64 0, .int .i64 0, .int .i64 0, .int .i64 0, .int .i64 0, .int .i64 0, .int .i64 0, .slice none 0 0, .int .i64 0, .int .i64 0, .slice none 0 0, .slice none 0 0, .slice none 0 0, .slice none 0 0, .slice none 0 0, .slice none 0 0, .int .u8 cm.kd, .int .i64 cm.id, .int .i64 cm.us, .int .i64 cm.cl, .int .i64 cm.a, .int .i64 cm.b, .int .i64 cm.c, .bool cm.p, .bool cm.q, .bool cm.r, .bool cm.tn, .int .i64 cm.wa, .int .i64 cm.pr, .bool cm.he, .slice V2 cm.af.length cv2, .int .u8 cm.st, .int .i64 cm.ca, .int .i64 cm.ci, .int .i64 cm.b0, .int .i64 cm.b1, .int .i64 cm.b2, .int .i64 cm.b3, .int .i64 cm.b4, .int .i64 cm.b5, .int .i64 cm.fr, .int .i64 cm.to, .int .i64 cm.n, .bool cm.we] 0
    have Kz : Blk (World.setCells v3 w.heap.size 0 [.int .i64 g, .int .i64 0, .int .i64 0, .int .i64 0, .int .i64 0, .int .i64 0, .int .i64 0, .int .i64 0, .slice none 0 0, .int .i64 0, .int .i64 0, .slice none 0 0, .slice none 0 0, .slice none 0 0, .slice none 0 0, .slice none 0 0, .slice none 0 0, .int .u8 cm.kd, .int .i64 cm.id, .int .i64 cm.us, .int .i64 cm.cl, .int .i64 cm.a, .int .i64 cm.b, .int .i64 cm.c, .bool cm.p, .bool cm.q, .bool cm.r, .bool cm.tn, .int .i64 cm.wa, .int .i64 cm.pr, .bool cm.he, .slice V2 cm.af.length cv2, .int .u8 cm.st, .int .i64 cm.ca, .int .i64 cm.ci, .int .i64 cm.b0, .int .i64 cm.b1, .int .i64 cm.b2, .int .i64 cm.b3, .int .i64 cm.b4, .int .i64 cm.b5, .int .i64 cm.fr, .int .i64 cm.to, .int .i64 cm.n, .bool cm.we]) w.heap.size 51 (List.toArray [.int .i64 g, .int .i64 0, .int .i64 0, .int .i64 0, .int .i64 0, .int .i64 0, .int .i64 0, .int .i64 0, .slice none 0 0, .int .i64 0, .int .i64 0, .slice none 0 0, .slice none 0 0, .slice none 0 0, .slice none 0 0, .slice none 0 0, .slice none 0 0, .int .u8 cm.kd, .int .i64 cm.id, .int .i64 cm.us, .int .i64 cm.cl, .int .i64 cm.a, .int .i64 cm.b, .int .i64 cm.c, .bool cm.p, .bool cm.q, .bool cm.r, .bool cm.tn, .int .i64 cm.wa, .int .i64 cm.pr, .bool cm.he, .slice V2 cm.af.length cv2, .int .u8 cm.st, .int .i64 cm.ca, .int .i64 cm.ci, .int .i64 cm.b0, .int .i64 cm.b1, .int .i64 cm.b2, .int .i64 cm.b3, .int .i64 cm.b4, .int .i64 cm.b5, .int .i64 cm.fr, .int .i64 cm.to, .int .i64 cm.n, .bool cm.we]) := blk_all KR3.out (setA_full rfl)
    have HZ := Lib.hid (And.intro Kz (And.intro (at_over (keepN_cmd (by decide)) HA3.out KR3.out ho) (HB3.out.trans (ho.below (Nat.le_refl _) (by omega)))))
    clear ho Kz
    go_wp2_with (first | (refine wpList_load_mid rfl 51 _ rfl _ _ rfl _ _ R9.out Try.underlying51 rfl (by kernel_rfl) ?_) | (refine wpList_store_mid rfl 51 _ _ rfl w.heap.size 0 (List.toArray [.int .i64 g, .int .i64 0, .int .i64 0, .int .i64 0, .int .i64 0, .int .i64 0, .int .i64 0, .int .i64 0, .slice none 0 0, .int .i64 0, .int .i64 0, .slice none 0 0, .slice none 0 0, .slice none 0 0, .slice none 0 0, .slice none 0 0, .slice none 0 0, .int .u8 cm.kd, .int .i64 cm.id, .int .i64 cm.us, .int .i64 cm.cl, .int .i64 cm.a, .int .i64 cm.b, .int .i64 cm.c, .bool cm.p, .bool cm.q, .bool cm.r, .bool cm.tn, .int .i64 cm.wa, .int .i64 cm.pr, .bool cm.he, .slice V2 cm.af.length cv2, .int .u8 cm.st, .int .i64 cm.ca, .int .i64 cm.ci, .int .i64 cm.b0, .int .i64 cm.b1, .int .i64 cm.b2, .int .i64 cm.b3, .int .i64 cm.b4, .int .i64 cm.b5, .int .i64 cm.fr, .int .i64 cm.to, .int .i64 cm.n, .bool cm.we]) rfl rfl (there_of KR3.out (Nat.le_of_ble_eq_true rfl)) (by kernel_rfl) (by kernel_rfl) ?_; simp only [List.toList_toArray]; generalize World.setCells _ _ _ _ = w99 at *; (try simp only [Act.put])))
    refine bodyPost_ret (v := .tuple #[.agg (List.toArray [.int .i64 g, .int .i64 0, .int .i64 0, .int .i64 0, .int .i64 0, .int .i64 0, .int .i64 0, .int .i64 0, .slice none 0 0, .int .i64 0, .int .i64 0, .slice none 0 0, .slice none 0 0, .slice none 0 0, .slice none 0 0, .slice none 0 0, .slice none 0 0, .int .u8 cm.kd, .int .i64 cm.id, .int .i64 cm.us, .int .i64 cm.cl, .int .i64 cm.a, .int .i64 cm.b, .int .i64 cm.c, .bool cm.p, .bool cm.q, .bool cm.r, .bool cm.tn, .int .i64 cm.wa, .int .i64 cm.pr, .bool cm.he, .slice V2 cm.af.length cv2, .int .u8 cm.st, .int .i64 cm.ca, .int .i64 cm.ci, .int .i64 cm.b0, .int .i64 cm.b1, .int .i64 cm.b2, .int .i64 cm.b3, .int .i64 cm.b4, .int .i64 cm.b5, .int .i64 cm.fr, .int .i64 cm.to, .int .i64 cm.n, .bool cm.we]), .int .i64 0]) ?_ rfl ?_
    ·refine results_ri rfl _ _ w.heap.size 51 _ (0, 0) _ _ ?_ ?_ HZ.out.1 Try.underlying51 rfl (by kernel_rfl)
     ·rfl
     ·rfl
    ·have e := HG.out
     subst e
     exact ⟨_, by rw [HGOOD.out], by rw [HGOOD.out]; exact at_cmd HZ.out.2.1, HZ.out.2.2⟩
   ·have HBAD := Lib.hid (HBD.out hq)
    have k1' : Blk (World.setCells v3 w.heap.size 0 [.int .i64 0, .int .i64 0, .int .i64 0, .int .i64 0, .int .i64 0, .int .i64 0, .int .i64 0, .int .i64 0, .slice none 0 0, .int .i64 0, .int .i64 0, .slice none 0 0, .slice none 0 0, .slice none 0 0, .slice none 0 0, .slice none 0 0, .slice none 0 0, .int .u8 0, .int .i64 0, .int .i64 0, .int .i64 0, .int .i64 0, .int .i64 0, .int .i64 0, .bool false, .bool false, .bool false, .bool false, .int .i64 0, .int .i64 0, .bool false, .slice none 0 0, .int .u8 0, .int .i64 0, .int .i64 0, .int .i64 0, .int .i64 0, .int .i64 0, .int .i64 0, .int .i64 0, .int .i64 0, .int .i64 0, .int .i64 0, .int .i64 0, .bool false]) w.heap.size 51 (List.toArray [.int .i64 0, .int .i64 0, .int .i64 0, .int .i64 0, .int .i64 0, .int .i64 0, .int .i64 0, .int .i64 0, .slice none 0 0, .int .i64 0, .int .i64 0, .slice none 0 0, .slice none 0 0, .slice none 0 0, .slice none 0 0, .slice none 0 0, .slice none 0 0, .int .u8 0, .int .i64 0, .int .i64 0, .int .i64 0, .int .i64 0, .int .i64 0, .int .i64 0, .bool false, .bool false, .bool false, .bool false, .int .i64 0, .int .i64 0, .bool false, .slice none 0 0, .int .u8 0, .int .i64 0, .int .i64 0, .int .i64 0, .int .i64 0, .int .i64 0, .int .i64 0, .int .i64 0, .int .i64 0, .int .i64 0, .int .i64 0, .int .i64 0, .bool false]) := blk_all KR3.out (setA_full rfl)
    have k2' : Below w.heap.size w (World.setCells v3 w.heap.size 0 [.int .i64 0, .int .i64 0, .int .i64 0, .int .i64 0, .int .i64 0, .int .i64 0, .int .i64 0, .int .i64 0, .slice none 0 0, .int .i64 0, .int .i64 0, .slice none 0 0, .slice none 0 0, .slice none 0 0, .slice none 0 0, .slice none 0 0, .slice none 0 0, .int .u8 0, .int .i64 0, .int .i64 0, .int .i64 0, .int .i64 0, .int .i64 0, .int .i64 0, .bool false, .bool false, .bool false, .bool false, .int .i64 0, .int .i64 0, .bool false, .slice none 0 0, .int .u8 0, .int .i64 0, .int .i64 0, .int .i64 0, .int .i64 0, .int .i64 0, .int .i64 0, .int .i64 0, .int .i64 0, .int .i64 0, .int .i64 0, .int .i64 0, .bool false]) := below_sets (Nat.le_refl _) HB3.out
    have HZ := Lib.hid (And.intro k1' k2')
    clear k1' k2' HGD HBD
    rcases od2 with _ | _
    ·have hl3 := HS3.out.le
     have p2 : v3.cell? ⟨w.heap.size + 1, 2, none⟩ = some (.bool false) := HS3.out.blk.cell 2
     have p1 : v3.cell? ⟨w.heap.size + 1, 1, none⟩ = some (.int .i64 k2) := HS3.out.blk.cell 1
     have b0 : v3.cell? ⟨g2, 0, none⟩ = some (.int .i64 g) := KB3.out.cell 0
     by_cases hk : k2 = t.length
     ·exact absurd ⟨rfl, hk⟩ hq
     ·have hkk : ((k2 : Int) != (t.length : Int)) = true := by simp; omega
      clear hq hk
      go_wp2_with (first | (refine wpList_store_mid rfl 51 _ _ rfl w.heap.size 0 (List.toArray [.int .i64 0, .int .i64 0, .int .i64 0, .int .i64 0, .int .i64 0, .int .i64 0, .int .i64 0, .int .i64 0, .slice none 0 0, .int .i64 0, .int .i64 0, .slice none 0 0, .slice none 0 0, .slice none 0 0, .slice none 0 0, .slice none 0 0, .slice none 0 0, .int .u8 0, .int .i64 0, .int .i64 0, .int .i64 0, .int .i64 0, .int .i64 0, .int .i64 0, .bool false, .bool false, .bool false, .bool false, .int .i64 0, .int .i64 0, .bool false, .slice none 0 0, .int .u8 0, .int .i64 0, .int .i64 0, .int .i64 0, .int .i64 0, .int .i64 0, .int .i64 0, .int .i64 0, .int .i64 0, .int .i64 0, .int .i64 0, .int .i64 0, .bool false]) rfl rfl (there_of KR3.out (Nat.le_of_ble_eq_true rfl)) (by kernel_rfl) (by kernel_rfl) ?_; simp only [List.toList_toArray]; generalize World.setCells _ _ _ _ = w99 at *; (try simp only [Act.put])))
      refine bodyPost_ret (v := .tuple #[.agg zA, .int .i64 8]) ?_ rfl ?_
      ·exact results_ri rfl _ _ w.heap.size 51 zA (0, 0) _ (.int .i64 8) rfl rfl HZ.out.1 Try.underlying51 rfl (by kernel_rfl)
      ·exact ⟨zA.toList, by rw [HBAD.out], by rw [HBAD.out]; exact recR_nil, HZ.out.2⟩
    ·clear hq
     have p2 : v3.cell? ⟨w.heap.size + 1, 2, none⟩ = some (.bool true) := HS3.out.blk.cell 2
     have p1 : v3.cell? ⟨w.heap.size + 1, 1, none⟩ = some (.int .i64 k2) := HS3.out.blk.cell 1
     have b0 : v3.cell? ⟨g2, 0, none⟩ = some (.int .i64 g) := KB3.out.cell 0
     go_wp2_with (first | (refine wpList_store_mid rfl 51 _ _ rfl w.heap.size 0 (List.toArray [.int .i64 0, .int .i64 0, .int .i64 0, .int .i64 0, .int .i64 0, .int .i64 0, .int .i64 0, .int .i64 0, .slice none 0 0, .int .i64 0, .int .i64 0, .slice none 0 0, .slice none 0 0, .slice none 0 0, .slice none 0 0, .slice none 0 0, .slice none 0 0, .int .u8 0, .int .i64 0, .int .i64 0, .int .i64 0, .int .i64 0, .int .i64 0, .int .i64 0, .bool false, .bool false, .bool false, .bool false, .int .i64 0, .int .i64 0, .bool false, .slice none 0 0, .int .u8 0, .int .i64 0, .int .i64 0, .int .i64 0, .int .i64 0, .int .i64 0, .int .i64 0, .int .i64 0, .int .i64 0, .int .i64 0, .int .i64 0, .int .i64 0, .bool false]) rfl rfl (there_of KR3.out (Nat.le_of_ble_eq_true rfl)) (by kernel_rfl) (by kernel_rfl) ?_; simp only [List.toList_toArray]; generalize World.setCells _ _ _ _ = w99 at *; (try simp only [Act.put])))
     refine bodyPost_ret (v := .tuple #[.agg zA, .int .i64 8]) ?_ rfl ?_
     ·exact results_ri rfl _ _ w.heap.size 51 zA (0, 0) _ (.int .i64 8) rfl rfl HZ.out.1 Try.underlying51 rfl (by kernel_rfl)
     ·exact ⟨zA.toList, by rw [HBAD.out], by rw [HBAD.out]; exact recR_nil, HZ.out.2⟩
  ·have hge : (g == 0) = false := by simpa using hg
   have HG := Lib.hid hg
   clear hg
   go_wp2_with fail
   refine (rfstate w.heap.size (w.heap.size + 1) X t c k1 od1 v1 HS1.out).mono ?_
   rintro e v2 hh
   obtain ⟨k2, od2, s, y, rfl, hS, hM⟩ := hh
   have KB2 := Lib.hid (hM.fr.blk KB1.out (by omega) (by omega))
   have KR2 := Lib.hid (hM.fr.blk KR1.out (by omega) (by omega))
   have HM2 := Lib.hid (And.intro hM hS)
   have hs2 : v1.heap.size ≤ v2.heap.size := hM.fr.size
   have hv1 : g2 < v1.heap.size := KB1.out.lt
   have HB2 := Lib.hid (HB1.out.trans (hM.fr.below (B := w.heap.size) (by omega) (by omega) (by omega)))
   clear hS hM KB1 KR1 HB1
   have ho := Only.sets (Only.refl g2 v2) (sL s y) 1
   have Kx := blk_setA (i := 1) (vs := (sL s y)) KB2.out
   rw [show setA #[.int .i64 g, .int .i64 0, .int .i64 0, .int .i64 0, .int .i64 0, .int .i64 0, .int .i64 0, .int .i64 0, .slice none 0 0, .int .i64 0, .int .i64 0, .slice none 0 0, .slice none 0 0, .slice none 0 0, .slice none 0 0, .slice none 0 0, .slice none 0 0, .int .u8 0, .int .i64 0, .int .i64 0, .int .i64 0, .int .i64 0, .int .i64 0, .int .i64 0, .bool false, .bool false, .bool false, .bool false, .int .i64 0, .int .i64 0, .bool false, .slice none 0 0, .int .u8 0, .int .i64 0, .int .i64 0, .int .i64 0, .int .i64 0, .int .i64 0, .int .i64 0, .int .i64 0, .int .i64 0, .int .i64 0, .int .i64 0, .int .i64 0, .bool false] 1 (sL s y) = #[.int .i64 g, .int .i64 s.d0, .int .i64 s.d1, .int .i64 s.d2, .int .i64 s.bo, .int .i64 s.fr, .int .i64 s.tr, .int .i64 s.ag, .slice y.C s.cs.length y.cc, .int .i64 s.nw, .int .i64 s.nx, .slice y.J s.js.length y.cj, .slice y.P s.ps.length y.cp, .slice y.K s.ks.length y.ck, .slice y.D s.dn.length y.cd, .slice y.S s.sh.length y.cs, .slice y.U s.cu.length y.cu, .int .u8 0, .int .i64 0, .int .i64 0, .int .i64 0, .int .i64 0, .int .i64 0, .int .i64 0, .bool false, .bool false, .bool false, .bool false, .int .i64 0, .int .i64 0, .bool false, .slice none 0 0, .int .u8 0, .int .i64 0, .int .i64 0, .int .i64 0, .int .i64 0, .int .i64 0, .int .i64 0, .int .i64 0, .int .i64 0, .int .i64 0, .int .i64 0, .int .i64 0, .bool false] from by simp only [setA, List.setIfInBounds_toArray, List.set_cons_zero, List.set_cons_succ]] at Kx
   have XX := Lib.hid (And.intro Kx (And.intro (RS.only HM2.out.2 ho (by omega) (by omega)) (And.intro (ho.blk KR2.out (by omega)) (And.intro (at_over (keepN_st (by decide) (by decide) (by decide) (by decide) (by decide)) (show stateR.At v2 w.heap.size s (sL s y) from stateR.mono HM2.out.1.at_ (by omega)) KB2.out ho) (HB2.out.trans (ho.below (by omega) (by omega)))))))
   clear ho Kx
   go_upto_region 8 with (refine wpList_store_mid rfl 49 _ _ rfl g2 1 (List.toArray (sL s y)) rfl rfl (there_of KB2.out (Nat.le_of_ble_eq_true rfl)) (by kernel_rfl) (by kernel_rfl) ?_; simp only [List.toList_toArray]; generalize World.setCells _ _ _ _ = v3 at *; (try simp only [Act.put]))
   have KB3 := Lib.hid XX.out.1
   have HS3 := Lib.hid XX.out.2.1
   have KR3 := Lib.hid XX.out.2.2.1
   have HA3 := Lib.hid XX.out.2.2.2.1
   have HB3 := Lib.hid XX.out.2.2.2.2
   have hv3 : w.heap.size < v3.heap.size := XX.out.2.2.1.lt
   have HD := Lib.hid HM2.out.1
   clear XX KB2 KR2 HM2 HB2
   have hgood : od2 = false ∧ k2 = t.length ∧ 0 ≤ g ∧ g ≤ 2147483647 → readV t = (⟨g, s, CV.z⟩, 0) := fun h => by
    obtain ⟨e1, d1⟩ := HD.out.ok h.1
    obtain ⟨_, d0⟩ := HN1.out.ok e1
    rw [List.drop_zero] at d0
    rw [h.2.1, List.drop_length] at d1
    have hg0 := HG.out
    exact readV_ok HL.out (by rw [rec_state d0 (by omega) h.2.2.2, d1]; rfl)
   have hbad : ¬ (od2 = false ∧ k2 = t.length ∧ 0 ≤ g ∧ g ≤ 2147483647) → readV t = (RV.z, 8) := fun h => by
    have hg0 := HG.out
    cases h1 : od1 with
    | true =>
     have := HN1.out.bad h1 rfl
     rw [List.drop_zero] at this
     exact readV_none HL.out (rec_none this)
    | false =>
     obtain ⟨_, d0⟩ := HN1.out.ok h1
     rw [List.drop_zero] at d0
     by_cases hr : g < 0 ∨ 2147483647 < g
     ·exact readV_none HL.out (rec_odd d0 hr)
     ·cases h2 : od2 with
      | true => exact readV_none HL.out (by rw [rec_state d0 (by omega) (by omega), HD.out.bad h2 h1]; rfl)
      | false =>
       obtain ⟨_, d1⟩ := HD.out.ok h2
       have hk : k2 < t.length := by
        have := HS3.out.le
        rcases Nat.lt_or_ge k2 t.length with h3 | h3
        ·exact h3
        ·exact absurd ⟨h2, by omega, by omega, by omega⟩ h
       exact readV_more (r := ⟨g, s, CV.z⟩) (x := t[k2]) (u := t.drop (k2 + 1)) HL.out (by rw [rec_state d0 (by omega) (by omega), d1, List.drop_eq_getElem_cons hk]; rfl)
   have HGD := Lib.hid hgood
   have HBD := Lib.hid hbad
   clear hgood hbad
   by_cases hq : od2 = false ∧ k2 = t.length ∧ 0 ≤ g ∧ g ≤ 2147483647
   ·have HGOOD := Lib.hid (HGD.out hq)
    have hkk : ((k2 : Int) != (t.length : Int)) = false := by simp [hq.2.1]
    have hg1 : ¬ g < 0 := by omega
    have hg3 : ¬ 2147483647 < g := by omega
    obtain rfl : od2 = false := hq.1
    clear hq HGD HBD
    have p2 : v3.cell? ⟨w.heap.size + 1, 2, none⟩ = some (.bool false) := HS3.out.blk.cell 2
    have p1 : v3.cell? ⟨w.heap.size + 1, 1, none⟩ = some (.int .i64 k2) := HS3.out.blk.cell 1
    have b0 : v3.cell? ⟨g2, 0, none⟩ = some (.int .i64 g) := KB3.out.cell 0
    have R9 := Lib.hid (show v3.rangeAt g2 0 [.int .i64 g, .int .i64 s.d0, .int .i64 s.d1, .int .i64 s.d2, .int .i64 s.bo, .int .i64 s.fr, .int .i64 s.tr, .int .i64 s.ag, .slice y.C s.cs.length y.cc, .int .i64 s.nw, .int .i64 s.nx, .slice y.J s.js.length y.cj, .slice y.P s.ps.length y.cp, .slice y.K s.ks.length y.ck, .slice y.D s.dn.length y.cd, .slice y.S s.sh.length y.cs, .slice y.U s.cu.length y.cu, .int .u8 0, .int .i64 0, .int .i64 0, .int .i64 0, .int .i64 0, .int .i64 0, .int .i64 0, .bool false, .bool false, .bool false, .bool false, .int .i64 0, .int .i64 0, .bool false, .slice none 0 0, .int .u8 0, .int .i64 0, .int .i64 0, .int .i64 0, .int .i64 0, .int .i64 0, .int .i64 0, .int .i64 0, .int .i64 0, .int .i64 0, .int .i64 0, .int .i64 0, .bool false] from range_part (n := 45) KB3.out rfl)
    have ho := Only.sets (Only.refl w.heap.size v3) [.int .i64 g, .int .i64 s.d0, .int .i64 s.d1, .int .i64 s.d2, .int .i64 s.bo, .int .i64 s.fr, .int .i64 s.tr, .int .i64 s.ag, .slice y.C s.cs.length y.cc, .int .i64 s.nw, .int .i64 s.nx, .slice y.J s.js.length y.cj, .slice y.P s.ps.length y.cp, .slice y.K s.ks.length y.ck, .slice y.D s.dn.length y.cd, .slice y.S s.sh.length y.cs, .slice y.U s.cu.length y.cu, .int .u8 0, .int .i64 0, .int .i64 0, .int .i64 0, .int .i64 0, .int .i64 0, .int .i64 0, .bool false, .bool false, .bool false, .bool false, .int .i64 0, .int .i64 0, .bool false, .slice none 0 0, .int .u8 0, .int .i64 0, .int .i64 0, .int .i64 0, .int .i64 0, .int .i64 0, .int .i64 0, .int .i64 0, .int .i64 0, .int .i64 0, .int .i64 0, .int .i64 0, .bool false] 0
    have Kz : Blk (World.setCells v3 w.heap.size 0 [.int .i64 g, .int .i64 s.d0, .int .i64 s.d1, .int .i64 s.d2, .int .i64 s.bo, .int .i64 s.fr, .int .i64 s.tr, .int .i64 s.ag, .slice y.C s.cs.length y.cc, .int .i64 s.nw, .int .i64 s.nx, .slice y.J s.js.length y.cj, .slice y.P s.ps.length y.cp, .slice y.K s.ks.length y.ck, .slice y.D s.dn.length y.cd, .slice y.S s.sh.length y.cs, .slice y.U s.cu.length y.cu, .int .u8 0, .int .i64 0, .int .i64 0, .int .i64 0, .int .i64 0, .int .i64 0, .int .i64 0, .bool false, .bool false, .bool false, .bool false, .int .i64 0, .int .i64 0, .bool false, .slice none 0 0, .int .u8 0, .int .i64 0, .int .i64 0, .int .i64 0, .int .i64 0, .int .i64 0, .int .i64 0, .int .i64 0, .int .i64 0, .int .i64 0, .int .i64 0, .int .i64 0, .bool false]) w.heap.size 51 (List.toArray [.int .i64 g, .int .i64 s.d0, .int .i64 s.d1, .int .i64 s.d2, .int .i64 s.bo, .int .i64 s.fr, .int .i64 s.tr, .int .i64 s.ag, .slice y.C s.cs.length y.cc, .int .i64 s.nw, .int .i64 s.nx, .slice y.J s.js.length y.cj, .slice y.P s.ps.length y.cp, .slice y.K s.ks.length y.ck, .slice y.D s.dn.length y.cd, .slice y.S s.sh.length y.cs, .slice y.U s.cu.length y.cu, .int .u8 0, .int .i64 0, .int .i64 0, .int .i64 0, .int .i64 0, .int .i64 0, .int .i64 0, .bool false, .bool false, .bool false, .bool false, .int .i64 0, .int .i64 0, .bool false, .slice none 0 0, .int .u8 0, .int .i64 0, .int .i64 0, .int .i64 0, .int .i64 0, .int .i64 0, .int .i64 0, .int .i64 0, .int .i64 0, .int .i64 0, .int .i64 0, .int .i64 0, .bool false]) := blk_all KR3.out (setA_full rfl)
    have HZ := Lib.hid (And.intro Kz (And.intro (at_over (keepN_st (by decide) (by decide) (by decide) (by decide) (by decide)) HA3.out KR3.out ho) (HB3.out.trans (ho.below (Nat.le_refl _) (by omega)))))
    clear ho Kz
    go_wp2_with (first | (refine wpList_load_mid rfl 51 _ rfl _ _ rfl _ _ R9.out Try.underlying51 rfl (by kernel_rfl) ?_) | (refine wpList_store_mid rfl 51 _ _ rfl w.heap.size 0 (List.toArray [.int .i64 g, .int .i64 s.d0, .int .i64 s.d1, .int .i64 s.d2, .int .i64 s.bo, .int .i64 s.fr, .int .i64 s.tr, .int .i64 s.ag, .slice y.C s.cs.length y.cc, .int .i64 s.nw, .int .i64 s.nx, .slice y.J s.js.length y.cj, .slice y.P s.ps.length y.cp, .slice y.K s.ks.length y.ck, .slice y.D s.dn.length y.cd, .slice y.S s.sh.length y.cs, .slice y.U s.cu.length y.cu, .int .u8 0, .int .i64 0, .int .i64 0, .int .i64 0, .int .i64 0, .int .i64 0, .int .i64 0, .bool false, .bool false, .bool false, .bool false, .int .i64 0, .int .i64 0, .bool false, .slice none 0 0, .int .u8 0, .int .i64 0, .int .i64 0, .int .i64 0, .int .i64 0, .int .i64 0, .int .i64 0, .int .i64 0, .int .i64 0, .int .i64 0, .int .i64 0, .int .i64 0, .bool false]) rfl rfl (there_of KR3.out (Nat.le_of_ble_eq_true rfl)) (by kernel_rfl) (by kernel_rfl) ?_; simp only [List.toList_toArray]; generalize World.setCells _ _ _ _ = w99 at *; (try simp only [Act.put])))
    refine bodyPost_ret (v := .tuple #[.agg (List.toArray [.int .i64 g, .int .i64 s.d0, .int .i64 s.d1, .int .i64 s.d2, .int .i64 s.bo, .int .i64 s.fr, .int .i64 s.tr, .int .i64 s.ag, .slice y.C s.cs.length y.cc, .int .i64 s.nw, .int .i64 s.nx, .slice y.J s.js.length y.cj, .slice y.P s.ps.length y.cp, .slice y.K s.ks.length y.ck, .slice y.D s.dn.length y.cd, .slice y.S s.sh.length y.cs, .slice y.U s.cu.length y.cu, .int .u8 0, .int .i64 0, .int .i64 0, .int .i64 0, .int .i64 0, .int .i64 0, .int .i64 0, .bool false, .bool false, .bool false, .bool false, .int .i64 0, .int .i64 0, .bool false, .slice none 0 0, .int .u8 0, .int .i64 0, .int .i64 0, .int .i64 0, .int .i64 0, .int .i64 0, .int .i64 0, .int .i64 0, .int .i64 0, .int .i64 0, .int .i64 0, .int .i64 0, .bool false]), .int .i64 0]) ?_ rfl ?_
    ·refine results_ri rfl _ _ w.heap.size 51 _ (0, 0) _ _ ?_ ?_ HZ.out.1 Try.underlying51 rfl (by kernel_rfl)
     ·rfl
     ·rfl
    ·exact ⟨_, by rw [HGOOD.out], by rw [HGOOD.out]; exact at_state HZ.out.2.1, HZ.out.2.2⟩
   ·have HBAD := Lib.hid (HBD.out hq)
    have k1' : Blk (World.setCells v3 w.heap.size 0 [.int .i64 0, .int .i64 0, .int .i64 0, .int .i64 0, .int .i64 0, .int .i64 0, .int .i64 0, .int .i64 0, .slice none 0 0, .int .i64 0, .int .i64 0, .slice none 0 0, .slice none 0 0, .slice none 0 0, .slice none 0 0, .slice none 0 0, .slice none 0 0, .int .u8 0, .int .i64 0, .int .i64 0, .int .i64 0, .int .i64 0, .int .i64 0, .int .i64 0, .bool false, .bool false, .bool false, .bool false, .int .i64 0, .int .i64 0, .bool false, .slice none 0 0, .int .u8 0, .int .i64 0, .int .i64 0, .int .i64 0, .int .i64 0, .int .i64 0, .int .i64 0, .int .i64 0, .int .i64 0, .int .i64 0, .int .i64 0, .int .i64 0, .bool false]) w.heap.size 51 (List.toArray [.int .i64 0, .int .i64 0, .int .i64 0, .int .i64 0, .int .i64 0, .int .i64 0, .int .i64 0, .int .i64 0, .slice none 0 0, .int .i64 0, .int .i64 0, .slice none 0 0, .slice none 0 0, .slice none 0 0, .slice none 0 0, .slice none 0 0, .slice none 0 0, .int .u8 0, .int .i64 0, .int .i64 0, .int .i64 0, .int .i64 0, .int .i64 0, .int .i64 0, .bool false, .bool false, .bool false, .bool false, .int .i64 0, .int .i64 0, .bool false, .slice none 0 0, .int .u8 0, .int .i64 0, .int .i64 0, .int .i64 0, .int .i64 0, .int .i64 0, .int .i64 0, .int .i64 0, .int .i64 0, .int .i64 0, .int .i64 0, .int .i64 0, .bool false]) := blk_all KR3.out (setA_full rfl)
    have k2' : Below w.heap.size w (World.setCells v3 w.heap.size 0 [.int .i64 0, .int .i64 0, .int .i64 0, .int .i64 0, .int .i64 0, .int .i64 0, .int .i64 0, .int .i64 0, .slice none 0 0, .int .i64 0, .int .i64 0, .slice none 0 0, .slice none 0 0, .slice none 0 0, .slice none 0 0, .slice none 0 0, .slice none 0 0, .int .u8 0, .int .i64 0, .int .i64 0, .int .i64 0, .int .i64 0, .int .i64 0, .int .i64 0, .bool false, .bool false, .bool false, .bool false, .int .i64 0, .int .i64 0, .bool false, .slice none 0 0, .int .u8 0, .int .i64 0, .int .i64 0, .int .i64 0, .int .i64 0, .int .i64 0, .int .i64 0, .int .i64 0, .int .i64 0, .int .i64 0, .int .i64 0, .int .i64 0, .bool false]) := below_sets (Nat.le_refl _) HB3.out
    have HZ := Lib.hid (And.intro k1' k2')
    clear k1' k2' HGD HBD
    rcases od2 with _ | _
    ·have hl3 := HS3.out.le
     have p2 : v3.cell? ⟨w.heap.size + 1, 2, none⟩ = some (.bool false) := HS3.out.blk.cell 2
     have p1 : v3.cell? ⟨w.heap.size + 1, 1, none⟩ = some (.int .i64 k2) := HS3.out.blk.cell 1
     have b0 : v3.cell? ⟨g2, 0, none⟩ = some (.int .i64 g) := KB3.out.cell 0
     by_cases hk : k2 = t.length
     ·have hkk : ((k2 : Int) != (t.length : Int)) = false := by simp [hk]
      by_cases hg1 : g < 0
      ·clear hq hk
       go_wp2_with (first | (refine wpList_store_mid rfl 51 _ _ rfl w.heap.size 0 (List.toArray [.int .i64 0, .int .i64 0, .int .i64 0, .int .i64 0, .int .i64 0, .int .i64 0, .int .i64 0, .int .i64 0, .slice none 0 0, .int .i64 0, .int .i64 0, .slice none 0 0, .slice none 0 0, .slice none 0 0, .slice none 0 0, .slice none 0 0, .slice none 0 0, .int .u8 0, .int .i64 0, .int .i64 0, .int .i64 0, .int .i64 0, .int .i64 0, .int .i64 0, .bool false, .bool false, .bool false, .bool false, .int .i64 0, .int .i64 0, .bool false, .slice none 0 0, .int .u8 0, .int .i64 0, .int .i64 0, .int .i64 0, .int .i64 0, .int .i64 0, .int .i64 0, .int .i64 0, .int .i64 0, .int .i64 0, .int .i64 0, .int .i64 0, .bool false]) rfl rfl (there_of KR3.out (Nat.le_of_ble_eq_true rfl)) (by kernel_rfl) (by kernel_rfl) ?_; simp only [List.toList_toArray]; generalize World.setCells _ _ _ _ = w99 at *; (try simp only [Act.put])))
       refine bodyPost_ret (v := .tuple #[.agg zA, .int .i64 8]) ?_ rfl ?_
       ·exact results_ri rfl _ _ w.heap.size 51 zA (0, 0) _ (.int .i64 8) rfl rfl HZ.out.1 Try.underlying51 rfl (by kernel_rfl)
       ·exact ⟨zA.toList, by rw [HBAD.out], by rw [HBAD.out]; exact recR_nil, HZ.out.2⟩
      ·have hg3 : 2147483647 < g := by
        rcases Int.lt_or_le 2147483647 g with h | h
        ·exact h
        ·exact absurd ⟨rfl, hk, by omega, h⟩ hq
       clear hq hk
       go_wp2_with (first | (refine wpList_store_mid rfl 51 _ _ rfl w.heap.size 0 (List.toArray [.int .i64 0, .int .i64 0, .int .i64 0, .int .i64 0, .int .i64 0, .int .i64 0, .int .i64 0, .int .i64 0, .slice none 0 0, .int .i64 0, .int .i64 0, .slice none 0 0, .slice none 0 0, .slice none 0 0, .slice none 0 0, .slice none 0 0, .slice none 0 0, .int .u8 0, .int .i64 0, .int .i64 0, .int .i64 0, .int .i64 0, .int .i64 0, .int .i64 0, .bool false, .bool false, .bool false, .bool false, .int .i64 0, .int .i64 0, .bool false, .slice none 0 0, .int .u8 0, .int .i64 0, .int .i64 0, .int .i64 0, .int .i64 0, .int .i64 0, .int .i64 0, .int .i64 0, .int .i64 0, .int .i64 0, .int .i64 0, .int .i64 0, .bool false]) rfl rfl (there_of KR3.out (Nat.le_of_ble_eq_true rfl)) (by kernel_rfl) (by kernel_rfl) ?_; simp only [List.toList_toArray]; generalize World.setCells _ _ _ _ = w99 at *; (try simp only [Act.put])))
       refine bodyPost_ret (v := .tuple #[.agg zA, .int .i64 8]) ?_ rfl ?_
       ·exact results_ri rfl _ _ w.heap.size 51 zA (0, 0) _ (.int .i64 8) rfl rfl HZ.out.1 Try.underlying51 rfl (by kernel_rfl)
       ·exact ⟨zA.toList, by rw [HBAD.out], by rw [HBAD.out]; exact recR_nil, HZ.out.2⟩
     ·have hkk : ((k2 : Int) != (t.length : Int)) = true := by simp; omega
      clear hq hk
      go_wp2_with (first | (refine wpList_store_mid rfl 51 _ _ rfl w.heap.size 0 (List.toArray [.int .i64 0, .int .i64 0, .int .i64 0, .int .i64 0, .int .i64 0, .int .i64 0, .int .i64 0, .int .i64 0, .slice none 0 0, .int .i64 0, .int .i64 0, .slice none 0 0, .slice none 0 0, .slice none 0 0, .slice none 0 0, .slice none 0 0, .slice none 0 0, .int .u8 0, .int .i64 0, .int .i64 0, .int .i64 0, .int .i64 0, .int .i64 0, .int .i64 0, .bool false, .bool false, .bool false, .bool false, .int .i64 0, .int .i64 0, .bool false, .slice none 0 0, .int .u8 0, .int .i64 0, .int .i64 0, .int .i64 0, .int .i64 0, .int .i64 0, .int .i64 0, .int .i64 0, .int .i64 0, .int .i64 0, .int .i64 0, .int .i64 0, .bool false]) rfl rfl (there_of KR3.out (Nat.le_of_ble_eq_true rfl)) (by kernel_rfl) (by kernel_rfl) ?_; simp only [List.toList_toArray]; generalize World.setCells _ _ _ _ = w99 at *; (try simp only [Act.put])))
      refine bodyPost_ret (v := .tuple #[.agg zA, .int .i64 8]) ?_ rfl ?_
      ·exact results_ri rfl _ _ w.heap.size 51 zA (0, 0) _ (.int .i64 8) rfl rfl HZ.out.1 Try.underlying51 rfl (by kernel_rfl)
      ·exact ⟨zA.toList, by rw [HBAD.out], by rw [HBAD.out]; exact recR_nil, HZ.out.2⟩
    ·clear hq
     have p2 : v3.cell? ⟨w.heap.size + 1, 2, none⟩ = some (.bool true) := HS3.out.blk.cell 2
     have p1 : v3.cell? ⟨w.heap.size + 1, 1, none⟩ = some (.int .i64 k2) := HS3.out.blk.cell 1
     have b0 : v3.cell? ⟨g2, 0, none⟩ = some (.int .i64 g) := KB3.out.cell 0
     go_wp2_with (first | (refine wpList_store_mid rfl 51 _ _ rfl w.heap.size 0 (List.toArray [.int .i64 0, .int .i64 0, .int .i64 0, .int .i64 0, .int .i64 0, .int .i64 0, .int .i64 0, .int .i64 0, .slice none 0 0, .int .i64 0, .int .i64 0, .slice none 0 0, .slice none 0 0, .slice none 0 0, .slice none 0 0, .slice none 0 0, .slice none 0 0, .int .u8 0, .int .i64 0, .int .i64 0, .int .i64 0, .int .i64 0, .int .i64 0, .int .i64 0, .bool false, .bool false, .bool false, .bool false, .int .i64 0, .int .i64 0, .bool false, .slice none 0 0, .int .u8 0, .int .i64 0, .int .i64 0, .int .i64 0, .int .i64 0, .int .i64 0, .int .i64 0, .int .i64 0, .int .i64 0, .int .i64 0, .int .i64 0, .int .i64 0, .bool false]) rfl rfl (there_of KR3.out (Nat.le_of_ble_eq_true rfl)) (by kernel_rfl) (by kernel_rfl) ?_; simp only [List.toList_toArray]; generalize World.setCells _ _ _ _ = w99 at *; (try simp only [Act.put])))
     refine bodyPost_ret (v := .tuple #[.agg zA, .int .i64 8]) ?_ rfl ?_
     ·exact results_ri rfl _ _ w.heap.size 51 zA (0, 0) _ (.int .i64 8) rfl rfl HZ.out.1 Try.underlying51 rfl (by kernel_rfl)
     ·exact ⟨zA.toList, by rw [HBAD.out], by rw [HBAD.out]; exact recR_nil, HZ.out.2⟩
end Go.Proofs.Ytfdldbfjeamlcaa.RfRead
namespace Go.Proofs.Ytfdldbfjeamlcaa.RecTellsW
set_option maxRecDepth 100000
set_option maxHeartbeats 20000000
open Go.Sort (grow)
open Go.RowKit Mem RecMem RecByte RecNum RecEach RecMath RecCommand RecCmdJ RecWr0 RecVal RecCod RecCods RecSame RecOwn RecRecC RecWAt RecWOk RecSameA RecAll RecGuard RecF1 RecF2 RecF3 RecF4 RecGreat RecAt RecRd RecRRec RecRead RecCmdL RwOwn0 RwOwn RwNum RwWrite RfRead LogMath
theorem three (w : World) (t1 t2 t3 : TypeId) (c1 c2 c3 : Array Value) : Blk (((w.alloc (.cells c1 t1)).alloc (.cells c2 t2)).alloc (.cells c3 t3)) w.heap.size t1 c1 ∧ Blk (((w.alloc (.cells c1 t1)).alloc (.cells c2 t2)).alloc (.cells c3 t3)) (w.heap.size + 1) t2 c2 ∧ Blk (((w.alloc (.cells c1 t1)).alloc (.cells c2 t2)).alloc (.cells c3 t3)) (w.heap.size + 2) t3 c3 ∧ Below w.heap.size w (((w.alloc (.cells c1 t1)).alloc (.cells c2 t2)).alloc (.cells c3 t3)) :=
 ⟨((Blk.new w t1 c1).alloc _).alloc _, (blk1 w t2 c2).alloc _, blk2 w t3 c3, below_alloc (below_alloc (below_alloc (Below.refl _ _)))⟩
structure TB (w : World) (r : RV) (x : SA) (Y : Option Addr) (cy : Nat) (o : RV) (y : SA) (Z : Option Addr) (cz : Nat) (d : CV) (V : Option Addr) (cv : Nat) (W : World) : Prop where
 r : Blk W w.heap.size 51 (rL r x Y cy).toArray
 o : Blk W (w.heap.size + 1) 51 (rL o y Z cz).toArray
 d : Blk W (w.heap.size + 2) 34 (cL d V cv).toArray
 b : Below w.heap.size w W
theorem TB.up {w : World} {r : RV} {x : SA} {Y : Option Addr} {cy : Nat} {o : RV} {y : SA} {Z : Option Addr} {cz : Nat} {d : CV} {V : Option Addr} {cv : Nat} {W W' : World} (h : TB w r x Y cy o y Z cz d V cv W) (hB : Below W.heap.size W W') : TB w r x Y cy o y Z cz d V cv W' :=
 ⟨h.r.below hB h.r.lt, h.o.below hB h.o.lt, h.d.below hB h.d.lt, below_up h.b hB⟩
theorem TB.new (w : World) (r : RV) (x : SA) (Y : Option Addr) (cy : Nat) (o : RV) (y : SA) (Z : Option Addr) (cz : Nat) (d : CV) (V : Option Addr) (cv : Nat) :
    TB w r x Y cy o y Z cz d V cv (((w.alloc (.cells (rL r x Y cy).toArray 51)).alloc (.cells (rL o y Z cz).toArray 51)).alloc (.cells (cL d V cv).toArray 34)) := by
 obtain ⟨h1, h2, h3, h4⟩ := three w 51 51 34 (rL r x Y cy).toArray (rL o y Z cz).toArray (cL d V cv).toArray
 exact ⟨h1, h2, h3, h4⟩
theorem wv_one {r : RV} {a b : Int} (h1 : WV r a) (h2 : WV r b) : a = b := by
 by_cases h : okR r
 ·by_cases hl : (recB r).length ≤ 65536
  ·rw [h1.ok.2 ⟨h, hl⟩, h2.ok.2 ⟨h, hl⟩]
  ·have f : ∀ v, WV r v → v = 4 := fun v hv => by
    rcases hv.any with e | e | e
    ·exact absurd (hv.ok.1 e).2 hl
    ·exact e
    ·exact absurd h (hv.bad.1 e)
   rw [f a h1, f b h2]
 ·rw [h1.bad.2 h, h2.bad.2 h]
def wrT (r : RV) (v : Int) : Bs := if v = 0 then recB r else []
theorem wrT_reads {w : World} {r : RV} {v : Int} {X : Option Addr} {n : Nat} (h0 : v ≠ 0 → n = 0) (h1 : v = 0 → n = (recB r).length ∧ BytesAt w X (recB r)) : Reads w w.heap.size 1 X n ((wrT r v).map (Value.int .u8)) := by
 unfold wrT
 by_cases h : v = 0
 ·obtain ⟨e, hb⟩ := h1 h
  rw [if_pos h, e]
  exact hb
 ·rw [if_neg h, h0 h]
  exact ⟨by simp, fun h => absurd h (by omega)⟩
theorem rfread_v (X : Option Addr) (t : Bs) (c : Nat) (w : World) (hX : TxtAt w X t) (ho : Oct t) :
    Calls Try.prog 22 #[.slice X t.length c] w fun e w' => (∃ x Y cy, e = .returned (.tuple #[.agg (rL (readV t).1 x Y cy).toArray, .int .i64 (readV t).2]) ∧ RIs w' (readV t).1 x Y cy) ∧ Below w.heap.size w w' := by
 refine (rfread X t c w hX ho).mono ?_
 rintro e w' ⟨vs, rfl, hR, hB⟩
 obtain ⟨x, Y, cy, rfl, h1, h2, _, h3⟩ := rec_at hR
 exact ⟨⟨x, Y, cy, rfl, ⟨h1, h3, h2⟩⟩, hB⟩
theorem zd_top {d : CV} (h : d.af.length ≤ 17592186044416) : RTop ⟨0, SV.z, d⟩ := ⟨Nat.zero_le _, Nat.zero_le _, Nat.zero_le _, Nat.zero_le _, Nat.zero_le _, Nat.zero_le _, Nat.zero_le _, (fun j hj => by cases hj), by show d.af.length ≤ _; omega⟩
theorem own_le {d : CV} {n : Nat} (h : d.af.length ≤ n) : (own d).af.length ≤ n := by
 unfold own
 repeat' split
 all_goals first | exact h | (simp [CV.z])
theorem TB.set {w : World} {r : RV} {x : SA} {Y : Option Addr} {cy : Nat} {o : RV} {y : SA} {Z : Option Addr} {cz : Nat} {d : CV} {V : Option Addr} {cv : Nat} {W : World} {b i : Nat} {u : Value} (h : TB w r x Y cy o y Z cz d V cv W) (hb : w.heap.size + 2 < b) : TB w r x Y cy o y Z cz d V cv (W.setCell ⟨b, i, none⟩ u) :=
 ⟨h.r.far (p := ⟨b, i, none⟩) (by simp only; omega) u, h.o.far (p := ⟨b, i, none⟩) (by simp only; omega) u, h.d.far (p := ⟨b, i, none⟩) (by simp only; omega) u, h.b.setCell (p := ⟨b, i, none⟩) (by simp only; omega) u⟩
def ElAt (w : World) (Y8 : Option Addr) (g8 j : Nat) (W : World) : Prop := ∃ b o z, Y8 = some ⟨b, o, none⟩ ∧ w.heap.size + 2 < b ∧ b ≠ g8 ∧ W.cell? ⟨b, o + j, none⟩ = some (.int .i64 z) ∧ W.frozen? ⟨b, o + j, none⟩ = false
theorem ElAt.set {w : World} {Y8 : Option Addr} {g8 j m b o2 : Nat} {W : World} {u z : Int} (h : ElAt w Y8 g8 j W) (e : Y8 = some ⟨b, o2, none⟩) (hc : W.cell? ⟨b, o2 + m, none⟩ = some (.int .i64 z)) : ElAt w Y8 g8 j (W.setCell ⟨b, o2 + m, none⟩ (.int .i64 u)) := by
 obtain ⟨b', o', z', e', h1, h2, h3, h4⟩ := h
 rw [e] at e'
 cases e'
 by_cases hj : j = m
 ·subst hj
  exact ⟨b, o2, u, e, h1, h2, World.cell?_setCell_same' _ _ _ (by rw [hc]; rfl), by rw [World.frozen?_setCell]; exact h4⟩
 ·exact ⟨b, o2, z', e, h1, h2, by rw [World.cell?_setCell_other _ _ _ _ (by intro e; injection e with _ e; omega)]; exact h3, by rw [World.frozen?_setCell]; exact h4⟩
theorem below_drew2 (w : World) : Below w.heap.size w w.drew := (Below.refl _ w).drew
theorem walkTells (w : World) (r : RV) (x : SA) (Y : Option Addr) (cy : Nat) (Fr : RFacts r) (hR : RIs w r x Y cy) (o : RV) (y : SA) (Z : Option Addr) (cz : Nat) (Fo : RFacts o) (hO : RIs w o y Z cz) (X : Option Addr) (c : Nat) (t : Bs) (hc : t.length ≤ c) (hm : c ≤ maxLen) (hX : TxtAt w X t) (ho : Oct t) (d : CV) (V : Option Addr) (cv : Nat) (hd : CWf d) (hdl : d.af.length ≤ 17592186044416) (hdc : d.af.length ≤ cv) (hdI : IntsAt w V d.af) :
    Calls Try.prog 5 #[.agg (rL r x Y cy).toArray, .agg (rL o y Z cz).toArray, .slice X t.length c, .agg (cL d V cv).toArray] w fun e w' => e = .returned (.bool true) ∧ Below w.heap.size w w' := by
 have HR := Lib.hid (And.intro hR (And.intro hO hX))
 have HF := Lib.hid (And.intro Fr (And.intro Fo (And.intro ho (And.intro hc hm))))
 have HD := Lib.hid (And.intro hd (And.intro hdl (And.intro hdc hdI)))
 have hlm : t.length ≤ 9223372036854775807 := by simp only [maxLen] at hm; omega
 clear hR hO hX Fr Fo ho hc hm hd hdl hdc hdI
 go_enter Try.func5, Try.ntmps5
 go_upto_region 1 with fail
 have K0 := Lib.hid (TB.new w r x Y cy o y Z cz d V cv)
 generalize ((w.alloc (.cells (rL r x Y cy).toArray 51)).alloc (.cells (rL o y Z cz).toArray 51)).alloc (.cells (cL d V cv).toArray 34) = W0 at *
 have R0 := Lib.hid (show W0.rangeAt w.heap.size 0 (rL r x Y cy) from range_part (n := 45) K0.out.r rfl)
 go_wp2_with (first | (refine wpList_load_mid rfl 51 _ rfl _ _ rfl _ _ R0.out Try.underlying51 rfl (by kernel_rfl) ?_))
 refine (rgreat28 r x Y cy HF.out.1.ht W0 (HR.out.1.up K0.out.b).st).mono ?_
 rintro e w1 ⟨⟨B, rfl⟩, hB⟩
 have K1 := Lib.hid (K0.out.up hB)
 clear K0 hB R0
 cases B
 rotate_left
 ·go_wp2_with fail
  go_ret
  exact ⟨rfl, K1.out.b⟩
 have R1 := Lib.hid (show w1.rangeAt (w.heap.size + 1) 0 (rL o y Z cz) from range_part (n := 45) K1.out.o rfl)
 go_wp2_with (first | (refine wpList_load_mid_g (by rfl) 51 _ rfl _ _ rfl _ _ R1.out Try.underlying51 rfl (by kernel_rfl) ?_))
 refine (rgreat28 o y Z cz HF.out.2.1.ht w1 (HR.out.2.1.up K1.out.b).st).mono ?_
 rintro e w2 ⟨⟨B, rfl⟩, hB⟩
 have K2 := Lib.hid (K1.out.up hB)
 clear K1 hB R1
 cases B
 rotate_left
 ·go_wp2_with fail
  go_ret
  exact ⟨rfl, K2.out.b⟩
 have R2 := Lib.hid (show w2.rangeAt (w.heap.size + 2) 0 (cL d V cv) from range_part (n := 28) K2.out.d rfl)
 go_wp2_with (first | (refine wpList_load_mid_g (by rfl) 34 _ rfl _ _ rfl _ _ R2.out Try.underlying34 rfl (by kernel_rfl) ?_))
 refine (rgreat28 ⟨0, SV.z, d⟩ SA.z V cv (zd_top HD.out.2.1) w2 StAt.z).mono ?_
 rintro e w3 ⟨⟨B, rfl⟩, hB⟩
 have K3 := Lib.hid (K2.out.up hB)
 clear K2 hB R2
 cases B
 rotate_left
 ·go_wp2_with fail
  go_ret
  exact ⟨rfl, K3.out.b⟩
 by_cases hl7 : 70000 < t.length
 ·have hl8 : (70000 : Int) < (t.length : Int) := by omega
  go_wp2_with fail
  go_ret
  exact ⟨rfl, K3.out.b⟩
 have hl8 : ¬ (70000 : Int) < (t.length : Int) := by omega
 have k1 := run_strOf (n := t.length) (c := c) (show Reads w3 w3.heap.size 1 X t.length (t.map (Value.int .u8)) from txt_bytes (HR.out.2.2.up K3.out.b))
 have R3 := Lib.hid (show w3.rangeAt w.heap.size 0 (rL r x Y cy) from range_part (n := 45) K3.out.r rfl)
 go_wp2_with (first | (refine wpList_load_mid rfl 51 _ rfl _ _ rfl _ _ R3.out Try.underlying51 rfl (by kernel_rfl) ?_))
 clear hl7 hl8 k1
 refine (write_v r x Y cy HF.out.1 w3 (HR.out.1.up K3.out.b)).mono ?_
 rintro e w4 ⟨⟨X4, n4, c4, v4, rfl, hV4, hn4, hc4, hz4, hv4⟩, hB⟩
 have K4 := Lib.hid (K3.out.up hB)
 have HV4 := Lib.hid (And.intro hV4 (wrT_reads hz4 hv4))
 have hn4m : n4 ≤ 9223372036854775807 := by simp only [maxLen] at hc4; omega
 clear K3 hB R3 hV4 hn4 hc4 hz4 hv4
 have R4 := Lib.hid (show w4.rangeAt w.heap.size 0 (rL r x Y cy) from range_part (n := 45) K4.out.r rfl)
 go_wp2_with (first | (refine wpList_load_mid rfl 51 _ rfl _ _ rfl _ _ R4.out Try.underlying51 rfl (by kernel_rfl) ?_))
 refine (rwwrite r x Y cy HF.out.1 w4 (HR.out.1.up K4.out.b)).mono ?_
 rintro e w5 ⟨⟨X5, n5, c5, v5, rfl, hV5, hn5, hc5, hz5, hv5⟩, hB⟩
 have K5 := Lib.hid (K4.out.up hB)
 obtain rfl : v4 = v5 := wv_one HV4.out.1 hV5
 have HV5 := Lib.hid (And.intro ((HV4.out.2.below hB).more hB.size) (wrT_reads hz5 hv5))
 have hn5m : n5 ≤ 9223372036854775807 := by simp only [maxLen] at hc5; omega
 clear K4 hB R4 hV5 hn5 hc5 hz5 hv5 HV4
 go_wp2_with fail
 refine (read_v X t t.length c rfl w5 (HR.out.2.2.up K5.out.b) HF.out.2.2.1 HF.out.2.2.2.1 HF.out.2.2.2.2).mono ?_
 rintro e w6 ⟨⟨x6, Y6, cy6, rfl, hI6⟩, hB⟩
 have HQ := Lib.hid (readV_facts t HF.out.2.2.1)
 have HRF := Lib.hid (fun (W : World) (h : TxtAt W X t) => rfread_v X t c W h HF.out.2.2.1)
 obtain ⟨q, hq⟩ : ∃ q, q = (readV t).1 := ⟨_, rfl⟩
 obtain ⟨v, hv⟩ : ∃ v, v = (readV t).2 := ⟨_, rfl⟩
 rw [← hq] at HQ hI6
 rw [← hq, ← hv] at HRF
 rw [← hq, ← hv]
 clear hq hv
 have K6 := Lib.hid (K5.out.up hB)
 have HV6 := Lib.hid (And.intro ((HV5.out.1.below hB).more hB.size) ((HV5.out.2.below hB).more hB.size))
 have HI6 := Lib.hid hI6
 clear K5 HV5 hB hI6
 have x1 := box_full (W := w6) 51 Sq.zzR (vs := (rL q x6 Y6 cy6)) rfl
 go_upto_region 7 with (first | (refine wpList_store_mid rfl 51 _ _ rfl w6.heap.size 0 (List.toArray (rL q x6 Y6 cy6)) rfl rfl (there_of (Blk.new w6 51 Sq.zzR) (Nat.le_of_ble_eq_true rfl)) (by kernel_rfl) (by kernel_rfl) ?_; simp only [List.toList_toArray]; generalize World.setCells _ _ _ _ = W6 at *; (try simp only [Act.put])))
 have K6 := Lib.hid (K6.out.up x1.2)
 have HV6 := Lib.hid (And.intro ((HV6.out.1.below x1.2).more x1.2.size) ((HV6.out.2.below x1.2).more x1.2.size))
 have HI6 := Lib.hid (HI6.out.up x1.2)
 obtain ⟨g6, hg6⟩ : ∃ n, n = w6.heap.size := ⟨_, rfl⟩
 rw [← hg6] at x1
 rw [← hg6]
 have B6 := Lib.hid x1.1
 clear x1 hg6
 go_wp2_with fail
 refine (HRF.out W6 (HR.out.2.2.up K6.out.b)).mono ?_
 rintro e w7 ⟨⟨x7, Y7, cy7, rfl, hI7⟩, hB⟩
 have K7 := Lib.hid (K6.out.up hB)
 have HV7 := Lib.hid (And.intro ((HV6.out.1.below hB).more hB.size) ((HV6.out.2.below hB).more hB.size))
 have HI7 := Lib.hid (And.intro (HI6.out.up hB) hI7)
 have B6 := Lib.hid (B6.out.below hB B6.out.lt)
 clear K6 HV6 HI6 hB hI7 HRF
 have x1 := box_full (W := w7) 51 Sq.zzR (vs := (rL q x7 Y7 cy7)) rfl
 go_upto_region 8 with (first | (refine wpList_store_mid rfl 51 _ _ rfl w7.heap.size 0 (List.toArray (rL q x7 Y7 cy7)) rfl rfl (there_of (Blk.new w7 51 Sq.zzR) (Nat.le_of_ble_eq_true rfl)) (by kernel_rfl) (by kernel_rfl) ?_; simp only [List.toList_toArray]; generalize World.setCells _ _ _ _ = W7 at *; (try simp only [Act.put])))
 have K7 := Lib.hid (K7.out.up x1.2)
 have HV7 := Lib.hid (And.intro ((HV7.out.1.below x1.2).more x1.2.size) ((HV7.out.2.below x1.2).more x1.2.size))
 have HI7 := Lib.hid (And.intro (HI7.out.1.up x1.2) (HI7.out.2.up x1.2))
 have B6 := Lib.hid (B6.out.below x1.2 B6.out.lt)
 obtain ⟨g7, hg7⟩ : ∃ n, n = w7.heap.size := ⟨_, rfl⟩
 rw [← hg7] at x1
 rw [← hg7]
 have B7 := Lib.hid x1.1
 clear x1 hg7
 have R7 := Lib.hid (show W7.rangeAt (w.heap.size + 2) 0 (cL d V cv) from range_part (n := 28) K7.out.d rfl)
 have HK9 := Lib.hid (fun (W : World) (h : IntsAt W V d.af) => ccommandK d V cv HD.out.2.1 W h)
 have HO9 := Lib.hid (fun (W : World) (h : IntsAt W V d.af) => rown d V cv HD.out.2.1 W h)
 have HKW := Lib.hid (And.intro (own_wf HD.out.1) (own_le (n := 9223372036854775807) (d := d) (by have := HD.out.2.1; omega)))
 obtain ⟨k, hk⟩ : ∃ k, k = own d := ⟨_, rfl⟩
 unfold RetO at HO9
 unfold RetK at HK9
 rw [← hk] at HK9 HO9 HKW
 clear hk
 go_wp2_with (first | (refine wpList_load_mid rfl 34 _ rfl _ _ rfl _ _ R7.out Try.underlying34 rfl (by kernel_rfl) ?_))
 refine (HK9.out W7 (HD.out.2.2.2.up K7.out.b)).mono ?_
 rintro e w8 ⟨Y8, c8, rfl, hc8, hI8, hB, hn8, hf8⟩
 have K8 := Lib.hid (K7.out.up hB)
 have HV8 := Lib.hid (And.intro ((HV7.out.1.below hB).more hB.size) ((HV7.out.2.below hB).more hB.size))
 have HI8 := Lib.hid (And.intro (HI7.out.1.up hB) (HI7.out.2.up hB))
 have B6 := Lib.hid (B6.out.below hB B6.out.lt)
 have B7 := Lib.hid (B7.out.below hB B7.out.lt)
 have I8 := Lib.hid hI8
 have N8 := Lib.hid (show (∀ b o, Y8 = some ⟨b, o, none⟩ → w.heap.size + 2 < b) ∧ (k.af ≠ [] → ∀ b o, Y8 = some ⟨b, o, none⟩ → ∃ cur, Blk w8 b 3 cur) from ⟨fun b o e => by have h1 := hn8 b o e; have h2 := K7.out.d.lt; omega, hf8⟩)
 clear K7 HV7 HI7 hB hI8 hn8 hf8 R7
 have x1 := box_full (W := w8) 34 Sq.zzC (vs := (cL k Y8 c8)) rfl
 have N9 := Lib.hid (show ∀ b o, (k.af ≠ [] → Y8 = some ⟨b, o, none⟩ → b ≠ w8.heap.size) from fun b o h e => by obtain ⟨cur, hb⟩ := N8.out.2 h b o e; have := hb.lt; omega)
 go_upto_region 9 with (first | (refine wpList_store_mid rfl 34 _ _ rfl w8.heap.size 0 (List.toArray (cL k Y8 c8)) rfl rfl (there_of (Blk.new w8 34 Sq.zzC) (Nat.le_of_ble_eq_true rfl)) (by kernel_rfl) (by kernel_rfl) ?_; simp only [List.toList_toArray]; generalize World.setCells _ _ _ _ = W8 at *; (try simp only [Act.put])))
 have K8 := Lib.hid (K8.out.up x1.2)
 have HV8 := Lib.hid (And.intro ((HV8.out.1.below x1.2).more x1.2.size) ((HV8.out.2.below x1.2).more x1.2.size))
 have HI8 := Lib.hid (And.intro (HI8.out.1.up x1.2) (HI8.out.2.up x1.2))
 have B6 := Lib.hid (B6.out.below x1.2 B6.out.lt)
 have B7 := Lib.hid (B7.out.below x1.2 B7.out.lt)
 have I8 := Lib.hid (I8.out.up x1.2)
 have N8 := Lib.hid (show (∀ b o, Y8 = some ⟨b, o, none⟩ → w.heap.size + 2 < b) ∧ (k.af ≠ [] → ∀ b o, Y8 = some ⟨b, o, none⟩ → ∃ cur, Blk W8 b 3 cur) from ⟨N8.out.1, fun h b o e => by obtain ⟨cur, hb⟩ := N8.out.2 h b o e; exact ⟨cur, hb.below x1.2 hb.lt⟩⟩)
 obtain ⟨g8, hg8⟩ : ∃ n, n = w8.heap.size := ⟨_, rfl⟩
 rw [← hg8] at x1 N9
 rw [← hg8]
 have B8 := Lib.hid x1.1
 clear x1 hg8
 have k1 := run_strOf (n := n4) (c := c4) HV8.out.1
 have k2 := run_strOf (n := n5) (c := c5) HV8.out.2
 have R6 := Lib.hid (show W8.rangeAt g6 0 (rL q x6 Y6 cy6) from range_part (n := 45) B6.out rfl)
 have R7 := Lib.hid (show W8.rangeAt g7 0 (rL q x7 Y7 cy7) from range_part (n := 45) B7.out rfl)
 go_wp2_with (first | (refine wpList_load_mid_g (by rfl) 51 _ rfl _ _ rfl _ _ R6.out Try.underlying51 rfl (by kernel_rfl) ?_) | (refine wpList_load_mid_g (by rfl) 51 _ rfl _ _ rfl _ _ R7.out Try.underlying51 rfl (by kernel_rfl) ?_))
 clear k1 k2
 refine (rsame28 q q x6 x7 Y6 Y7 cy6 cy7 HQ.out.hs HQ.out.hs HQ.out.hc HQ.out.hc HQ.out.ht HQ.out.ht W8 HI8.out.1.st HI8.out.2.st HI8.out.1.af HI8.out.2.af).mono ?_
 rw [decide_eq_true (rfl : q = q)]
 rintro e w9 ⟨rfl, hB⟩
 have K9 := Lib.hid (K8.out.up hB)
 have I9 := Lib.hid (I8.out.up hB)
 have B9 := Lib.hid (B8.out.below hB B8.out.lt)
 have N8 := Lib.hid (show (∀ b o, Y8 = some ⟨b, o, none⟩ → w.heap.size + 2 < b) ∧ (k.af ≠ [] → ∀ b o, Y8 = some ⟨b, o, none⟩ → ∃ cur, Blk w9 b 3 cur) from ⟨N8.out.1, fun h b o e => by obtain ⟨cur, hb⟩ := N8.out.2 h b o e; exact ⟨cur, hb.below hB hb.lt⟩⟩)
 clear K8 HV8 HI8 B6 B7 I8 B8 R6 R7 hB HQ
 go_upto_region 10 with fail
 have HSC := Lib.hid (show ∀ (W : World) (Y9 : Option Addr) (c9 : Nat) (Y0 : Option Addr) (c0 : Nat), IntsAt W Y9 k.af → IntsAt W Y0 k.af → Calls Try.prog 24 #[.agg (cmdA k Y9 c9), .agg (cmdA k Y0 c0)] W fun e w' => e = .returned (.bool true) ∧ Below W.heap.size W w' from fun W Y9 c9 Y0 c0 h1 h2 => by
  have := rsameCmd28 k k Y9 Y0 c9 c0 HKW.out.1 HKW.out.1 HKW.out.2 HKW.out.2 W h1 h2
  rw [decide_eq_true (rfl : k = k)] at this
  exact this)
 have HS9 := Lib.hid (show ∀ (W : World) (Y9 : Option Addr) (c9 : Nat), IntsAt W Y8 k.af → IntsAt W Y9 k.af → Calls Try.prog 24 #[.agg (cL k Y8 c8).toArray, .agg (cmdA k Y9 c9)] W fun e w' => e = .returned (.bool true) ∧ Below W.heap.size W w' from fun W Y9 c9 h1 h2 => HSC.out W Y8 c8 Y9 c9 h1 h2)
 obtain ⟨B, hB⟩ : ∃ B, B = decide (r = o) := ⟨_, rfl⟩
 have HSA := Lib.hid (show ∀ (W : World), Below w.heap.size w W → Calls Try.prog 18 #[.agg (rL r x Y cy).toArray, .agg (rL o y Z cz).toArray] W fun e w' => e = .returned (.bool B) ∧ Below W.heap.size W w' from fun W h => by
  rw [hB]
  exact rsameA r o x y Y Z cy cz HF.out.1.hs HF.out.2.1.hs HF.out.1.hc HF.out.2.1.hc HF.out.1.ht HF.out.2.1.ht W (HR.out.1.up h).st (HR.out.2.1.up h).st (HR.out.1.up h).af (HR.out.2.1.up h).af)
 have HSB := Lib.hid (show ∀ (W : World), Below w.heap.size w W → Calls Try.prog 23 #[.agg (rL r x Y cy).toArray, .agg (rL o y Z cz).toArray] W fun e w' => e = .returned (.bool B) ∧ Below W.heap.size W w' from fun W h => by
  rw [hB]
  exact rsame28 r o x y Y Z cy cz HF.out.1.hs HF.out.2.1.hs HF.out.1.hc HF.out.2.1.hc HF.out.1.ht HF.out.2.1.ht W (HR.out.1.up h).st (HR.out.2.1.up h).st (HR.out.1.up h).af (HR.out.2.1.up h).af)
 have HTX := Lib.hid (fun (W : World) (h : Below w.heap.size w W) => run_strOf (n := t.length) (c := c) (show Reads W W.heap.size 1 X t.length (t.map (Value.int .u8)) from txt_bytes (HR.out.2.2.up h)))
 clear hB
 refine wp_region_held_drew (S := (fun W => Below w9.heap.size w9 W)) (by kernel_rfl) ?_ (fun hHeld => ?_)
 ·exact (Below.refl _ w9).drew
 refine' wpAnyH_take (i := 0) (v := _) rfl (by kernel_rfl) (by kernel_rfl) (by kernel_rfl) (fun _ _ _ h => h) (yieldsIf_load_mid (by rfl) _ _ rfl _ _ rfl (cL k Y8 c8) _ (fun W hSw => range_part (n := 28) (B9.out.below hSw B9.out.lt) rfl) Try.underlying34 rfl (by kernel_rfl)) (by assumption) ?r32
 (try simp only [Act.put, List.getElem_toArray, List.getElem_cons_zero, List.getElem_cons_succ, List.setIfInBounds_toArray, List.set_cons_zero, List.set_cons_succ])
 refine' wpAnyH_take (i := 1) (v := _) rfl (by kernel_rfl) (by kernel_rfl) (by kernel_rfl) (fun _ _ _ h => h) (yieldsIf_load_mid (by rfl) _ _ rfl _ _ rfl (cL d V cv) _ (fun W hSw => range_part (n := 28) (K9.out.d.below hSw K9.out.d.lt) rfl) Try.underlying34 rfl (by kernel_rfl)) (by assumption) ?r33
 (try simp only [Act.put, List.getElem_toArray, List.getElem_cons_zero, List.getElem_cons_succ, List.setIfInBounds_toArray, List.set_cons_zero, List.set_cons_succ])
 refine wpAnyH_ready (rs := [2]) (by kernel_rfl) (by simp) ?_
 refine AllReadyH.cons (i := 2) rfl (fun K hK => ?_) ?_
 ·go_simp
  refine (HO9.out w9.drew (HD.out.2.2.2.up (below_up K9.out.b (below_drew2 w9)))).mono ?_
  rintro e u1 ⟨Y9, c9, rfl, _, hI9, hB⟩
  have H1 := Lib.hid (below_up (below_drew2 w9) hB)
  have HI9 := Lib.hid hI9
  clear hB hI9
  (try dsimp only)
  refine hK.out _ _ ?_ (fun hHeld => ?_)
  ·exact H1.out
  clear hK K
  (try simp only [Act.put, List.getElem_toArray, List.getElem_cons_zero, List.getElem_cons_succ, List.setIfInBounds_toArray, List.set_cons_zero, List.set_cons_succ])
  refine wpAnyH_ready (rs := [3]) (by kernel_rfl) (by simp) ?_
  refine AllReadyH.cons (i := 3) rfl (fun K hK => ?_) ?_
  ·go_simp
   refine (HS9.out u1 Y9 c9 (I9.out.up H1.out) HI9.out).mono ?_
   rintro e u2 ⟨rfl, hB⟩
   have H2 := Lib.hid (below_up H1.out hB)
   clear hB
   (try dsimp only)
   refine hK.out _ _ ?_ (fun hHeld => ?_)
   ·exact H2.out
   clear hK K
   (try simp only [Act.put, List.getElem_toArray, List.getElem_cons_zero, List.getElem_cons_succ, List.setIfInBounds_toArray, List.set_cons_zero, List.set_cons_succ])
   refine' wpAnyH_take (i := 4) (v := ?v34) rfl (by kernel_rfl) (by kernel_rfl) (by kernel_rfl) (fun _ _ _ h => h) (Or.inl ⟨by rfl, ?y34⟩) (by assumption) ?r34
   case y34 => (intro W hSw; (try dsimp only at hSw); go_simp; try with_reducible rfl)
   (try simp only [Act.put, List.getElem_toArray, List.getElem_cons_zero, List.getElem_cons_succ, List.setIfInBounds_toArray, List.set_cons_zero, List.set_cons_succ])
   refine' wpAnyH_take (i := 5) (v := _) rfl (by kernel_rfl) (by kernel_rfl) (by kernel_rfl) (fun _ _ _ h => h) (yieldsIf_load_mid (by rfl) _ _ rfl _ _ rfl (rL r x Y cy) _ (fun W hSw => range_part (n := 45) (K9.out.r.below hSw K9.out.r.lt) rfl) Try.underlying51 rfl (by kernel_rfl)) (by assumption) ?r35
   (try simp only [Act.put, List.getElem_toArray, List.getElem_cons_zero, List.getElem_cons_succ, List.setIfInBounds_toArray, List.set_cons_zero, List.set_cons_succ])
   refine' wpAnyH_take (i := 6) (v := _) rfl (by kernel_rfl) (by kernel_rfl) (by kernel_rfl) (fun _ _ _ h => h) (yieldsIf_load_mid (by rfl) _ _ rfl _ _ rfl (rL o y Z cz) _ (fun W hSw => range_part (n := 45) (K9.out.o.below hSw K9.out.o.lt) rfl) Try.underlying51 rfl (by kernel_rfl)) (by assumption) ?r36
   (try simp only [Act.put, List.getElem_toArray, List.getElem_cons_zero, List.getElem_cons_succ, List.setIfInBounds_toArray, List.set_cons_zero, List.set_cons_succ])
   refine' wpAnyH_take (i := 8) (v := _) rfl (by kernel_rfl) (by kernel_rfl) (by kernel_rfl) (fun _ _ _ h => h) (yieldsIf_load_mid (by rfl) _ _ rfl _ _ rfl (rL r x Y cy) _ (fun W hSw => range_part (n := 45) (K9.out.r.below hSw K9.out.r.lt) rfl) Try.underlying51 rfl (by kernel_rfl)) (by assumption) ?r37
   (try simp only [Act.put, List.getElem_toArray, List.getElem_cons_zero, List.getElem_cons_succ, List.setIfInBounds_toArray, List.set_cons_zero, List.set_cons_succ])
   refine' wpAnyH_take (i := 9) (v := _) rfl (by kernel_rfl) (by kernel_rfl) (by kernel_rfl) (fun _ _ _ h => h) (yieldsIf_load_mid (by rfl) _ _ rfl _ _ rfl (rL o y Z cz) _ (fun W hSw => range_part (n := 45) (K9.out.o.below hSw K9.out.o.lt) rfl) Try.underlying51 rfl (by kernel_rfl)) (by assumption) ?r38
   (try simp only [Act.put, List.getElem_toArray, List.getElem_cons_zero, List.getElem_cons_succ, List.setIfInBounds_toArray, List.set_cons_zero, List.set_cons_succ])
   refine wpAnyH_ready (rs := [7]) (by kernel_rfl) (by simp) ?_
   refine AllReadyH.cons (i := 7) rfl (fun K hK => ?_) ?_
   ·go_simp
    refine (HSA.out u2 (below_up K9.out.b H2.out)).mono ?_
    rintro e u3 ⟨rfl, hB⟩
    have H3 := Lib.hid (below_up H2.out hB)
    clear hB
    (try dsimp only)
    refine hK.out _ _ ?_ (fun hHeld => ?_)
    ·exact H3.out
    clear hK K
    (try simp only [Act.put, List.getElem_toArray, List.getElem_cons_zero, List.getElem_cons_succ, List.setIfInBounds_toArray, List.set_cons_zero, List.set_cons_succ])
    refine wpAnyH_ready (rs := [10]) (by kernel_rfl) (by simp) ?_
    refine AllReadyH.cons (i := 10) rfl (fun K hK => ?_) ?_
    ·go_simp
     refine (HSB.out u3 (below_up K9.out.b H3.out)).mono ?_
     rintro e u4 ⟨rfl, hB⟩
     have H4 := Lib.hid (below_up H3.out hB)
     clear hB
     (try dsimp only)
     refine hK.out _ _ ?_ (fun hHeld => ?_)
     ·exact H4.out
     clear hK K
     (try simp only [Act.put, List.getElem_toArray, List.getElem_cons_zero, List.getElem_cons_succ, List.setIfInBounds_toArray, List.set_cons_zero, List.set_cons_succ])
     refine' wpAnyH_take (i := 11) (v := ?v39) rfl (by kernel_rfl) (by kernel_rfl) (by kernel_rfl) (fun _ _ _ h => h) (Or.inl ⟨by rfl, ?y39⟩) (by assumption) ?r39
     case y39 => (intro W hSw; (try dsimp only at hSw); go_simp; try with_reducible rfl)
     (try simp only [Act.put, List.getElem_toArray, List.getElem_cons_zero, List.getElem_cons_succ, List.setIfInBounds_toArray, List.set_cons_zero, List.set_cons_succ])
     refine' wpAnyH_take (i := 12) (v := ?v40) rfl (by kernel_rfl) (by kernel_rfl) (by kernel_rfl) (fun _ _ _ h => h) (Or.inl ⟨by rfl, ?y40⟩) (by assumption) ?r40
     case y40 => (intro W hSw; (try dsimp only at hSw); go_simp; try with_reducible rfl)
     (try simp only [Act.put, List.getElem_toArray, List.getElem_cons_zero, List.getElem_cons_succ, List.setIfInBounds_toArray, List.set_cons_zero, List.set_cons_succ])
     refine' wpAnyH_take (i := 13) (v := ?v41) rfl (by kernel_rfl) (by kernel_rfl) (by kernel_rfl) (fun _ _ _ h => h) (Or.inl ⟨by rfl, ?y41⟩) (by assumption) ?r41
     case y41 => (intro W hSw; (try dsimp only at hSw); go_simp; try with_reducible rfl)
     (try simp only [Act.put, List.getElem_toArray, List.getElem_cons_zero, List.getElem_cons_succ, List.setIfInBounds_toArray, List.set_cons_zero, List.set_cons_succ])
     refine wpAnyH_done (by kernel_rfl) ?_ _
     have K10 := Lib.hid (K9.out.up H4.out)
     have B10 := Lib.hid (B9.out.below H4.out B9.out.lt)
     have J10 := Lib.hid (show ∀ j, j < k.af.length → ElAt w Y8 g8 j u4 from fun j hj => by
      have hg : k.af[j]? = some k.af[j] := List.getElem?_eq_getElem hj
      obtain ⟨b, o2, e, hb, hcell⟩ := I9.out.up H4.out j _ hg
      have hne : k.af ≠ [] := fun h => by rw [h] at hj; simp at hj
      obtain ⟨cur, hk⟩ := N8.out.2 hne b o2 e
      exact ⟨b, o2, _, e, N8.out.1 b o2 e, N9.out b o2 hne e, hcell, (hk.below H4.out hk.lt).frozen _⟩)
     have hkl := HKW.out.2
     clear K9 B9 I9 N8 N9 H4
     go_wp2_with fail
     go_loopw [21] (fun i wr => ∃ (m : Nat), m ≤ k.af.length ∧ i = .int .i64 m ∧ Hid (TB w r x Y cy o y Z cz d V cv wr) ∧ Hid (Blk wr g8 34 (cL k Y8 c8).toArray) ∧ Hid (∀ j, j < k.af.length → ElAt w Y8 g8 j wr))
      (fun i _ => k.af.length - (intOf i).toNat)
     case atStart => exact ⟨0, Nat.zero_le _, rfl, K10, B10, J10⟩
     case round =>
      obtain ⟨m, hm, rfl, KR, BR, JR⟩ := hrel
      clear K10 B10 J10
      have aL : wr.cell? ⟨g8, 14, none⟩ = some (.slice Y8 k.af.length c8) := BR.out.cell 14
      by_cases hlt : m < k.af.length
      ·have hki : (m : Int) < (k.af.length : Int) := by omega
       have hki0 : (0 : Int) ≤ (m : Int) := by omega
       obtain ⟨b, o2, z, e, hb, hbg, hcell, hfr⟩ := JR.out m hlt
       rw [e] at aL
       have HB9 := Lib.hid (And.intro hb hbg)
       have HE := Lib.hid e
       clear e hb hbg
       go_wp2_with fail
       go_roundw
       case rel => exact ⟨m + 1, by omega, by go_num, KR.out.set HB9.out.1, BR.out.far (p := ⟨b, o2 + m, none⟩) (fun h => HB9.out.2 h.symm) _, fun j hj => (JR.out j hj).set HE.out hcell⟩
       case measure => simp [intOf]; omega
      ·obtain rfl : m = k.af.length := by omega
       go_upto_region 15 with fail
       refine wp_region_held_drew (S := (fun W => Below wr.heap.size wr W)) (by kernel_rfl) ?_ (fun hHeld => ?_)
       ·exact (Below.refl _ wr).drew
       refine' wpAnyH_take (i := 0) (v := ?v17) rfl (by kernel_rfl) (by kernel_rfl) (by kernel_rfl) (fun _ _ _ h => h) (Or.inl ⟨by rfl, ?y17⟩) (by assumption) ?r17
       case y17 => (intro W hSw; (try dsimp only at hSw); go_simp; try with_reducible rfl)
       (try simp only [Act.put, List.getElem_toArray, List.getElem_cons_zero, List.getElem_cons_succ, List.setIfInBounds_toArray, List.set_cons_zero, List.set_cons_succ])
       refine' wpAnyH_take (i := 1) (v := ?v18) rfl (by kernel_rfl) (by kernel_rfl) (by kernel_rfl) (fun _ _ _ h => h) (Or.inl ⟨by rfl, ?y18⟩) (by assumption) ?r18
       case y18 => (intro W hSw; (try dsimp only at hSw); go_simp; try with_reducible rfl)
       (try simp only [Act.put, List.getElem_toArray, List.getElem_cons_zero, List.getElem_cons_succ, List.setIfInBounds_toArray, List.set_cons_zero, List.set_cons_succ])
       refine' wpAnyH_take (i := 2) (v := ?v19) rfl (by kernel_rfl) (by kernel_rfl) (by kernel_rfl) (fun _ _ _ h => h) (Or.inl ⟨by rfl, ?y19⟩) (by assumption) ?r19
       case y19 => (intro W hSw; (try dsimp only at hSw); go_simp; try with_reducible rfl)
       (try simp only [Act.put, List.getElem_toArray, List.getElem_cons_zero, List.getElem_cons_succ, List.setIfInBounds_toArray, List.set_cons_zero, List.set_cons_succ])
       refine' wpAnyH_take (i := 3) (v := ?v20) rfl (by kernel_rfl) (by kernel_rfl) (by kernel_rfl) (fun _ _ _ h => h) (Or.inl ⟨by rfl, ?y20⟩) (by assumption) ?r20
       case y20 => (intro W hSw; (try dsimp only at hSw); go_simp; try with_reducible rfl)
       (try simp only [Act.put, List.getElem_toArray, List.getElem_cons_zero, List.getElem_cons_succ, List.setIfInBounds_toArray, List.set_cons_zero, List.set_cons_succ])
       refine' wpAnyH_take (i := 4) (v := ?v21) rfl (by kernel_rfl) (by kernel_rfl) (by kernel_rfl) (fun _ _ _ h => h) (Or.inl ⟨by rfl, ?y21⟩) (by assumption) ?r21
       case y21 => (intro W hSw; (try dsimp only at hSw); go_simp; try with_reducible rfl)
       (try simp only [Act.put, List.getElem_toArray, List.getElem_cons_zero, List.getElem_cons_succ, List.setIfInBounds_toArray, List.set_cons_zero, List.set_cons_succ])
       refine' wpAnyH_take (i := 5) (v := _) rfl (by kernel_rfl) (by kernel_rfl) (by kernel_rfl) (fun _ _ _ h => h) (yieldsIf_load_mid (by rfl) _ _ rfl _ _ rfl (cL d V cv) _ (fun W hSw => range_part (n := 28) (KR.out.d.below hSw KR.out.d.lt) rfl) Try.underlying34 rfl (by kernel_rfl)) (by assumption) ?r22
       (try simp only [Act.put, List.getElem_toArray, List.getElem_cons_zero, List.getElem_cons_succ, List.setIfInBounds_toArray, List.set_cons_zero, List.set_cons_succ])
       refine' wpAnyH_take (i := 7) (v := _) rfl (by kernel_rfl) (by kernel_rfl) (by kernel_rfl) (fun _ _ _ h => h) (yieldsIf_load_mid (by rfl) _ _ rfl _ _ rfl (cL d V cv) _ (fun W hSw => range_part (n := 28) (KR.out.d.below hSw KR.out.d.lt) rfl) Try.underlying34 rfl (by kernel_rfl)) (by assumption) ?r23
       (try simp only [Act.put, List.getElem_toArray, List.getElem_cons_zero, List.getElem_cons_succ, List.setIfInBounds_toArray, List.set_cons_zero, List.set_cons_succ])
       refine wpAnyH_ready (rs := [6]) (by kernel_rfl) (by simp) ?_
       refine AllReadyH.cons (i := 6) rfl (fun K hK => ?_) ?_
       ·go_simp
        refine (HK9.out wr.drew (HD.out.2.2.2.up (below_up KR.out.b (below_drew2 wr)))).mono ?_
        rintro e u1 ⟨Y9, c9, rfl, _, hI9, hB, _⟩
        have H1 := Lib.hid (below_up (below_drew2 wr) hB)
        have HI9 := Lib.hid hI9
        clear hB hI9
        (try dsimp only)
        refine hK.out _ _ ?_ (fun hHeld => ?_)
        ·exact H1.out
        clear hK K
        (try simp only [Act.put, List.getElem_toArray, List.getElem_cons_zero, List.getElem_cons_succ, List.setIfInBounds_toArray, List.set_cons_zero, List.set_cons_succ])
        refine wpAnyH_ready (rs := [8]) (by kernel_rfl) (by simp) ?_
        refine AllReadyH.cons (i := 8) rfl (fun K hK => ?_) ?_
        ·go_simp
         refine (HO9.out u1 (HD.out.2.2.2.up (below_up KR.out.b H1.out))).mono ?_
         rintro e u2 ⟨Y10, c10, rfl, _, hI10, hB⟩
         have H2 := Lib.hid (below_up H1.out hB)
         have HI10 := Lib.hid (And.intro (HI9.out.up hB) hI10)
         clear hB hI10 HI9
         (try dsimp only)
         refine hK.out _ _ ?_ (fun hHeld => ?_)
         ·exact H2.out
         clear hK K
         (try simp only [Act.put, List.getElem_toArray, List.getElem_cons_zero, List.getElem_cons_succ, List.setIfInBounds_toArray, List.set_cons_zero, List.set_cons_succ])
         refine wpAnyH_ready (rs := [9]) (by kernel_rfl) (by simp) ?_
         refine AllReadyH.cons (i := 9) rfl (fun K hK => ?_) ?_
         ·go_simp
          refine (HSC.out u2 Y9 c9 Y10 c10 HI10.out.1 HI10.out.2).mono ?_
          rintro e u3 ⟨rfl, hB⟩
          have H3 := Lib.hid (below_up H2.out hB)
          clear hB
          (try dsimp only)
          refine hK.out _ _ ?_ (fun hHeld => ?_)
          ·exact H3.out
          clear hK K
          (try simp only [Act.put, List.getElem_toArray, List.getElem_cons_zero, List.getElem_cons_succ, List.setIfInBounds_toArray, List.set_cons_zero, List.set_cons_succ])
          refine' wpAnyH_take (i := 10) (v := ?v24) rfl (by kernel_rfl) (by kernel_rfl) (by kernel_rfl) (fun _ _ _ h => h) (Or.inl ⟨by rfl, ?y24⟩) (by assumption) ?r24
          case y24 => (intro W hSw; (try dsimp only at hSw); go_simp; try with_reducible rfl)
          (try simp only [Act.put, List.getElem_toArray, List.getElem_cons_zero, List.getElem_cons_succ, List.setIfInBounds_toArray, List.set_cons_zero, List.set_cons_succ])
          refine' wpAnyH_take (i := 11) (v := ?v25) rfl (by kernel_rfl) (by kernel_rfl) (by kernel_rfl) (fun _ _ _ h => h) (Or.inl ⟨by rfl, ?y25⟩) (by assumption) ?r25
          case y25 => (intro W hSw; (try dsimp only at hSw); go_simp; try with_reducible rfl)
          (try simp only [Act.put, List.getElem_toArray, List.getElem_cons_zero, List.getElem_cons_succ, List.setIfInBounds_toArray, List.set_cons_zero, List.set_cons_succ])
          refine' wpAnyH_take (i := 12) (v := ?v26) rfl (by kernel_rfl) (by kernel_rfl) (by kernel_rfl) (fun _ _ _ h => h) (Or.inl ⟨by rfl, ?y26⟩) (by assumption) ?r26
          case y26 => (intro W hSw; (try dsimp only at hSw); go_simp; try with_reducible rfl)
          (try simp only [Act.put, List.getElem_toArray, List.getElem_cons_zero, List.getElem_cons_succ, List.setIfInBounds_toArray, List.set_cons_zero, List.set_cons_succ])
          refine' wpAnyH_take (i := 13) (v := ?v27) rfl (by kernel_rfl) (by kernel_rfl) (by kernel_rfl) (fun _ _ _ h => h) (Or.inl ⟨by rfl, ?y27⟩) (by assumption) ?r27
          case y27 => (intro W hSw; (try dsimp only at hSw); have q0 := HTX.out W (below_up KR.out.b hSw); go_simp; try with_reducible rfl)
          (try simp only [Act.put, List.getElem_toArray, List.getElem_cons_zero, List.getElem_cons_succ, List.setIfInBounds_toArray, List.set_cons_zero, List.set_cons_succ])
          refine' wpAnyH_take (i := 14) (v := ?v28) rfl (by kernel_rfl) (by kernel_rfl) (by kernel_rfl) (fun _ _ _ h => h) (Or.inl ⟨by rfl, ?y28⟩) (by assumption) ?r28
          case y28 => (intro W hSw; (try dsimp only at hSw); go_simp; try with_reducible rfl)
          (try simp only [Act.put, List.getElem_toArray, List.getElem_cons_zero, List.getElem_cons_succ, List.setIfInBounds_toArray, List.set_cons_zero, List.set_cons_succ])
          refine' wpAnyH_take (i := 15) (v := ?v29) rfl (by kernel_rfl) (by kernel_rfl) (by kernel_rfl) (fun _ _ _ h => h) (Or.inl ⟨by rfl, ?y29⟩) (by assumption) ?r29
          case y29 => (intro W hSw; (try dsimp only at hSw); go_simp; try with_reducible rfl)
          (try simp only [Act.put, List.getElem_toArray, List.getElem_cons_zero, List.getElem_cons_succ, List.setIfInBounds_toArray, List.set_cons_zero, List.set_cons_succ])
          refine' wpAnyH_take (i := 16) (v := ?v30) rfl (by kernel_rfl) (by kernel_rfl) (by kernel_rfl) (fun _ _ _ h => h) (Or.inl ⟨by rfl, ?y30⟩) (by assumption) ?r30
          case y30 => (intro W hSw; (try dsimp only at hSw); go_simp; try with_reducible rfl)
          (try simp only [Act.put, List.getElem_toArray, List.getElem_cons_zero, List.getElem_cons_succ, List.setIfInBounds_toArray, List.set_cons_zero, List.set_cons_succ])
          refine' wpAnyH_take (i := 17) (v := ?v31) rfl (by kernel_rfl) (by kernel_rfl) (by kernel_rfl) (fun _ _ _ h => h) (Or.inl ⟨by rfl, ?y31⟩) (by assumption) ?r31
          case y31 => (intro W hSw; (try dsimp only at hSw); go_simp; try with_reducible rfl)
          (try simp only [Act.put, List.getElem_toArray, List.getElem_cons_zero, List.getElem_cons_succ, List.setIfInBounds_toArray, List.set_cons_zero, List.set_cons_succ])
          refine wpAnyH_done (by kernel_rfl) ?_ _
          go_wp2_with fail
          exact bodyPost_ret (v := .bool true) (by simp [results, Try.results5, go_sem]) rfl ⟨rfl, below_up KR.out.b H3.out⟩
         exact AllReadyH.nil
        exact AllReadyH.nil
       exact AllReadyH.nil
    exact AllReadyH.nil
   exact AllReadyH.nil
  exact AllReadyH.nil
 exact AllReadyH.nil
end Go.Proofs.Ytfdldbfjeamlcaa.RecTellsW
namespace Go.Proofs.Ytfdldbfjeamlcaa.OpenCmd2
set_option maxRecDepth 100000
open Go.ChangeShapes Go.WideShapes Go.ChangeAt Go.RowKit Go.Joins Go.Deep Mem RecMath RecCommand RecVal RecSameA RecF3 RecAll Lay OpenRec0 OpenRec OpenRec2
theorem el_cmd2 {H : Type} {enc : TypeId × Value → H} {W : World} {held : Bool} {fuel : Nat} {cs : List Value} {x : DataW H × List MemPlace} (hlen : cs.length = 28) (h : DataW.trod enc Try.prog W 0 (fun _ => true) held fuel 34 cs = some x) (hs : ∀ n ∈ x.1.weights Try.prog 34, n ≤ reachBytes) :
    ∃ (c : CV) (Y : Option Addr) (cy : Nat), cs = cL c Y cy ∧ CWf c ∧ c.af.length ≤ 17592186044416 ∧ c.af.length ≤ cy ∧ IntsAt W Y c.af := by
 obtain ⟨c, Y, cy, rfl, h1, _, h2, h3, _⟩ := el_cmd hlen h
 have h4 := cmd_small h hs
 exact ⟨c, Y, cy, rfl, h3, by unfold reachBytes at h4; omega, h1, h2⟩
theorem open_cmd2 {H : Type} {enc : TypeId × Value → H} {W : World} {r : Reach} {b0 : Nat} {v : Value} {d : DataW H} {p : List MemPlace} {held : Bool}
    (hv : Value.okWide Try.prog W r b0 34 v) (h : DataW.Trod enc Try.prog W 0 (fun _ => true) held 34 v d p) (hs : ∀ n ∈ d.weights Try.prog 34, n ≤ reachBytes) :
    ∃ (c : CV) (Y : Option Addr) (cy : Nat), v = .agg (cL c Y cy).toArray ∧ CWf c ∧ c.af.length ≤ 17592186044416 ∧ c.af.length ≤ cy ∧ IntsAt W Y c.af := by
 obtain ⟨cs, rfl, hsz⟩ := okWide_struct Try.underlying34 hv
 obtain ⟨fuel, hf⟩ := h
 obtain ⟨c, Y, cy, e, hI⟩ := el_cmd2 (by simpa [Value.cells] using hsz.trans (by kernel_rfl)) hf hs
 refine ⟨c, Y, cy, ?_, hI⟩
 have e2 : cs.toList = cL c Y cy := by simpa only [Value.cells] using e
 rw [← e2]
end Go.Proofs.Ytfdldbfjeamlcaa.OpenCmd2
