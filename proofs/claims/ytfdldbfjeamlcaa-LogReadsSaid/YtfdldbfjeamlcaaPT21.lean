/- Several texts joined: The reference's Read. No conditions but those named. -/
import Derived.BigQuiet
import Derived.Deep.QuietTactic
import Derived.Deep.RegionLaw
import Derived.Deep.DeepCutAuto
import Derived.Lib.QuietBelow
import Derived.IntWalk
import Derived.WalkKit
import Derived.WalkLawsBesides
import Derived.Test.YtfdldbfjeamlcaaPT20
import Derived.Test.YtfdldbfjeamlcaaPG15
set_option linter.unusedVariables false
set_option linter.unusedSimpArgs false
namespace Go.Proofs.Ytfdldbfjeamlcaa.RfRead
set_option maxRecDepth 100000
set_option maxHeartbeats 4000000
open Go.Sort Go.RowKit Mem RecMem RecByte RecNum RecEach RecMath RecCod RecCods RecPort RecCommand RecCmdJ RecVal RecSame RecOwn RecRd RecRByte RecRNum RecREach RecRFlat RecRClass RecRL0 RecRListI RecRAsk RecRState RecRCmd RecRRec RfRd RfByte RfNum RfMany RfFlat RfBox RfList RfAsk RfCmd RfState RecRList RecRListE RecRListP RecRListJ RecRJob RecRead
theorem results_ri {P:Program} {fn:Func} {p q:Tmp} {ty:TypeId} (h:fn.results=#[.cell p ty,.tmp q]) (tmps:Array Value) (w:World) (g:Nat) (t:TypeId) (cs:Array Value) (fr:Nat × Nat) (d:TypeDesc) (v:Value)
    (hp:tmps.getD p undef = .pointer (some ⟨g,0,none⟩)) (hq:tmps.getD q undef=v) (hg:w.heap[g]? = some (.cells cs t fr))
    (hu:P.underlying ty=some d) (hd:(match d with | .struct _ | .array _ _=>true | _=>false)=true) (hi:(P.info? ty).map (·.size)=some cs.size) :
    (results fn tmps).run P w = .ok (.tuple #[.agg cs,v]) w:=by
 have hp':tmps[p]?.getD undef = .pointer (some ⟨g,0,none⟩):=by simpa using hp
 have hq':tmps[q]?.getD undef=v:=by simpa using hq
 simp [results,h,hp',hq',asAddr,run_loadVar_row w g t ty cs fr d hg hu hd hi]
theorem at_over {α:Type} {R:Rep α} {T:TypeId} {v v':World} {F b:Nat} {x:α} {vs:List Value} {cs:Array Value} (hN:KeepN T R) (h:R.At v F x vs) (hk:Blk v b T cs) (ho:Only b v v'):R.At v' F x vs:=
 hN _ _ _ _ _ h fun k c e he hF hc=>ho.block k (Array.getElem?_eq_some_iff.1 hc).1 fun e1=>by
  subst e1
  rw [show v.heap[k]? = _ from hk] at hc
  injection hc with hc
  injection hc with _ hc
  exact he hc.symm
theorem keepN_cmd {e:TypeId} (he:INT≠e):KeepN e cmdR:=by
 rintro w w' F c vs ⟨Y,cy,rfl,h⟩ hk
 exact ⟨Y,cy,rfl,keepN_ints he _ _ _ _ _ h hk⟩
theorem keepN_st {e:TypeId} (h1:CLT≠e) (h2:JBT≠e) (h3:PAT≠e) (h4:KET≠e) (h5:INT≠e):KeepN e stateR:=keepN_iso (keepN_pair (keepN_pair (keepN_pair (keepN_pair (keepN_pair (keepN_pair (keepN_pair (keepN_pair (keepN_pair (keepN_pair (keepN_pair (keepN_pair (keepN_pair keepN_flat keepN_flat) keepN_flat) keepN_flat) keepN_flat) (keepN_lst h1 keepN_flat)) keepN_flat) keepN_flat) (keepN_lst h2 (keepN_job2 h5))) (keepN_lst h3 keepN_flat)) (keepN_lst h4 keepN_flat)) (keepN_ints h5)) (keepN_ints h5)) (keepN_ints h5))
theorem at_cmd {w:World} {F:Nat} {cm:CV} {V:Option Addr} {cv:Nat} (h:cmdR.At w F cm (cL cm V cv)):recR.At w F ⟨0,SV.z,cm⟩ (rL ⟨0,SV.z,cm⟩ SA.z V cv):=⟨_,_,rfl,stateR_nil,h⟩
theorem at_state {w:World} {F:Nat} {g:Int} {s:SV} {y:SA} (h:stateR.At w F s (sL s y)):recR.At w F ⟨g,s,CV.z⟩ (rL ⟨g,s,CV.z⟩ y none 0):=⟨_,_,rfl,h,cmdR_nil rfl⟩
theorem rfread (X:Option Addr) (t:Bs) (c:Nat) (w:World) (hX:TxtAt w X t) (ho:Oct t) :
    Calls Try.prog 22 #[.slice X t.length c] w fun e w' => RdPost t w e w':=by
 have HX:=Lib.hid (And.intro hX ho)
 have KR:=Lib.hid (Blk.new w 51 Sq.zzR)
 have HB:=Lib.hid (below_alloc (o:=.cells Sq.zzR 51) (Below.refl w.heap.size w))
 have hsz:(w.alloc (.cells Sq.zzR 51)).heap.size=w.heap.size+1:=by simp
 clear hX ho
 go_enter Try.func22,Try.ntmps22
 go_upto_region 1 with fail
 have HSZ:=Lib.hid hsz
 clear hsz
 generalize w.alloc (.cells Sq.zzR 51)=w0 at *
 by_cases hlen:65536 < t.length
 ·have hl2:(65536:Int) < (t.length:Int):=by omega
  have HL:=Lib.hid hlen
  clear hlen
  have k1:Blk (World.setCells w0 w.heap.size 0 [.int .i64 0,.int .i64 0,.int .i64 0,.int .i64 0,.int .i64 0,.int .i64 0,.int .i64 0,.int .i64 0,.slice none 0 0,.int .i64 0,.int .i64 0,.slice none 0 0,.slice none 0 0,.slice none 0 0,.slice none 0 0,.slice none 0 0,.slice none 0 0,.int .u8 0,.int .i64 0,.int .i64 0,.int .i64 0,.int .i64 0,.int .i64 0,.int .i64 0,.bool false,.bool false,.bool false,.bool false,.int .i64 0,.int .i64 0,.bool false,.slice none 0 0,.int .u8 0,.int .i64 0,.int .i64 0,.int .i64 0,.int .i64 0,.int .i64 0,.int .i64 0,.int .i64 0,.int .i64 0,.int .i64 0,.int .i64 0,.int .i64 0,.bool false]) w.heap.size 51 (List.toArray [.int .i64 0,.int .i64 0,.int .i64 0,.int .i64 0,.int .i64 0,.int .i64 0,.int .i64 0,.int .i64 0,.slice none 0 0,.int .i64 0,.int .i64 0,.slice none 0 0,.slice none 0 0,.slice none 0 0,.slice none 0 0,.slice none 0 0,.slice none 0 0,.int .u8 0,.int .i64 0,.int .i64 0,.int .i64 0,.int .i64 0,.int .i64 0,.int .i64 0,.bool false,.bool false,.bool false,.bool false,.int .i64 0,.int .i64 0,.bool false,.slice none 0 0,.int .u8 0,.int .i64 0,.int .i64 0,.int .i64 0,.int .i64 0,.int .i64 0,.int .i64 0,.int .i64 0,.int .i64 0,.int .i64 0,.int .i64 0,.int .i64 0,.bool false]):=blk_all KR.out (setA_full rfl)
  have k2:Below w.heap.size w (World.setCells w0 w.heap.size 0 [.int .i64 0,.int .i64 0,.int .i64 0,.int .i64 0,.int .i64 0,.int .i64 0,.int .i64 0,.int .i64 0,.slice none 0 0,.int .i64 0,.int .i64 0,.slice none 0 0,.slice none 0 0,.slice none 0 0,.slice none 0 0,.slice none 0 0,.slice none 0 0,.int .u8 0,.int .i64 0,.int .i64 0,.int .i64 0,.int .i64 0,.int .i64 0,.int .i64 0,.bool false,.bool false,.bool false,.bool false,.int .i64 0,.int .i64 0,.bool false,.slice none 0 0,.int .u8 0,.int .i64 0,.int .i64 0,.int .i64 0,.int .i64 0,.int .i64 0,.int .i64 0,.int .i64 0,.int .i64 0,.int .i64 0,.int .i64 0,.int .i64 0,.bool false]):=below_sets (Nat.le_refl _) HB.out
  have HZ:=Lib.hid (And.intro k1 k2)
  clear k1 k2
  go_wp2_with (first | (refine wpList_store_mid rfl 51 _ _ rfl w.heap.size 0 (List.toArray [.int .i64 0,.int .i64 0,.int .i64 0,.int .i64 0,.int .i64 0,.int .i64 0,.int .i64 0,.int .i64 0,.slice none 0 0,.int .i64 0,.int .i64 0,.slice none 0 0,.slice none 0 0,.slice none 0 0,.slice none 0 0,.slice none 0 0,.slice none 0 0,.int .u8 0,.int .i64 0,.int .i64 0,.int .i64 0,.int .i64 0,.int .i64 0,.int .i64 0,.bool false,.bool false,.bool false,.bool false,.int .i64 0,.int .i64 0,.bool false,.slice none 0 0,.int .u8 0,.int .i64 0,.int .i64 0,.int .i64 0,.int .i64 0,.int .i64 0,.int .i64 0,.int .i64 0,.int .i64 0,.int .i64 0,.int .i64 0,.int .i64 0,.bool false]) rfl rfl (there_of KR.out (Nat.le_of_ble_eq_true rfl)) (by kernel_rfl) (by kernel_rfl) ?_;simp only [List.toList_toArray];generalize World.setCells _ _ _ _=w99 at *;(try simp only [Act.put])))
  refine bodyPost_ret (v:=.tuple #[.agg zA,.int .i64 4]) ?_ rfl ?_
  ·exact results_ri rfl _ _ w.heap.size 51 zA (0,0) _ (.int .i64 4) rfl rfl HZ.out.1 Try.underlying51 rfl (by kernel_rfl)
  ·exact ⟨zA.toList,by rw [readV_long HL.out],by rw [readV_long HL.out];exact recR_nil,HZ.out.2⟩
 ·have hl2:¬ (65536:Int) < (t.length:Int):=by omega
  have HL:=Lib.hid hlen
  clear hlen
  have h1:=HSZ.out
  have hp:RS w.heap.size (w0.alloc (.cells #[.slice X t.length c,.int .i64 0,.bool false] 120)) (w.heap.size+1) X t c 0 false:=⟨by rw [← h1];exact Blk.new _ _ _,Nat.zero_le _,by have:=HL.out;omega,HX.out.2,by omega,fun i x hi=>by
   obtain ⟨tb,o,e,g1,g2⟩:=HX.out.1 i x hi
   exact ⟨tb,o,e,g1,cell_over _ (keep_cell g2 HB.out)⟩⟩
  have HP:=Lib.hid hp
  have KR0:=Lib.hid (KR.out.alloc (.cells #[.slice X t.length c,.int .i64 0,.bool false] 120))
  have HB0:=Lib.hid (below_alloc (o:=.cells #[.slice X t.length c,.int .i64 0,.bool false] 120) HB.out)
  have hs0:w.heap.size+1 < (w0.alloc (.cells #[.slice X t.length c,.int .i64 0,.bool false] 120)).heap.size:=by simp;omega
  clear hp h1 KR HB
  go_upto_region 4 with fail
  rw [HSZ.out]
  generalize w0.alloc (.cells #[.slice X t.length c,.int .i64 0,.bool false] 120)=w1 at *
  go_wp2_with fail
  refine (rfnum w.heap.size (w.heap.size+1) X t c 0 false w1 HP.out).mono ?_
  rintro e wb hh
  obtain ⟨k1,od1,g,rfl,hS,hM⟩:=hh
  have HM1:=Lib.hid (And.intro hM hS)
  have KRb:=Lib.hid (hM.fr.blk KR0.out (by omega) (by omega))
  have hsb:w1.heap.size≤wb.heap.size:=hM.fr.size
  have HBb:=Lib.hid (HB0.out.trans (hM.fr.below (B:=w.heap.size) (by omega) (by omega) (by omega)))
  clear hS hM KR0 HB0 HP
  have xf:=box_full (W:=wb) 51 Sq.zzR (vs:=[.int .i64 g,.int .i64 0,.int .i64 0,.int .i64 0,.int .i64 0,.int .i64 0,.int .i64 0,.int .i64 0,.slice none 0 0,.int .i64 0,.int .i64 0,.slice none 0 0,.slice none 0 0,.slice none 0 0,.slice none 0 0,.slice none 0 0,.slice none 0 0,.int .u8 0,.int .i64 0,.int .i64 0,.int .i64 0,.int .i64 0,.int .i64 0,.int .i64 0,.bool false,.bool false,.bool false,.bool false,.int .i64 0,.int .i64 0,.bool false,.slice none 0 0,.int .u8 0,.int .i64 0,.int .i64 0,.int .i64 0,.int .i64 0,.int .i64 0,.int .i64 0,.int .i64 0,.int .i64 0,.int .i64 0,.int .i64 0,.int .i64 0,.bool false]) rfl
  have hsx:wb.heap.size < (World.setCells (wb.alloc (.cells Sq.zzR 51)) wb.heap.size 0 [.int .i64 g,.int .i64 0,.int .i64 0,.int .i64 0,.int .i64 0,.int .i64 0,.int .i64 0,.int .i64 0,.slice none 0 0,.int .i64 0,.int .i64 0,.slice none 0 0,.slice none 0 0,.slice none 0 0,.slice none 0 0,.slice none 0 0,.slice none 0 0,.int .u8 0,.int .i64 0,.int .i64 0,.int .i64 0,.int .i64 0,.int .i64 0,.int .i64 0,.bool false,.bool false,.bool false,.bool false,.int .i64 0,.int .i64 0,.bool false,.slice none 0 0,.int .u8 0,.int .i64 0,.int .i64 0,.int .i64 0,.int .i64 0,.int .i64 0,.int .i64 0,.int .i64 0,.int .i64 0,.int .i64 0,.int .i64 0,.int .i64 0,.bool false]).heap.size:=xf.1.lt
  have XF:=Lib.hid xf
  clear xf
  go_upto_region 5 with (refine wpList_store_mid rfl 51 _ _ rfl wb.heap.size 0 (List.toArray [.int .i64 g,.int .i64 0,.int .i64 0,.int .i64 0,.int .i64 0,.int .i64 0,.int .i64 0,.int .i64 0,.slice none 0 0,.int .i64 0,.int .i64 0,.slice none 0 0,.slice none 0 0,.slice none 0 0,.slice none 0 0,.slice none 0 0,.slice none 0 0,.int .u8 0,.int .i64 0,.int .i64 0,.int .i64 0,.int .i64 0,.int .i64 0,.int .i64 0,.bool false,.bool false,.bool false,.bool false,.int .i64 0,.int .i64 0,.bool false,.slice none 0 0,.int .u8 0,.int .i64 0,.int .i64 0,.int .i64 0,.int .i64 0,.int .i64 0,.int .i64 0,.int .i64 0,.int .i64 0,.int .i64 0,.int .i64 0,.int .i64 0,.bool false]) rfl rfl (there_of (Blk.new wb 51 Sq.zzR) (Nat.le_of_ble_eq_true rfl)) (by kernel_rfl) (by kernel_rfl) ?_;simp only [List.toList_toArray];generalize World.setCells _ _ _ _=v1 at *;(try simp only [Act.put]))
  have KB1:=Lib.hid XF.out.1
  have KR1:=Lib.hid (KRb.out.below XF.out.2 KRb.out.lt)
  have HS1:=Lib.hid (HM1.out.2.up XF.out.2)
  have HN1:=Lib.hid HM1.out.1
  have HB1:=Lib.hid (HBb.out.trans (XF.out.2.mono (by omega)))
  clear XF KRb HBb HM1
  have hg2:w.heap.size+1 < wb.heap.size:=by omega
  generalize wb.heap.size=g2 at *
  have b0:v1.cell? ⟨g2,0,none⟩=some (.int .i64 g):=KB1.out.cell 0
  by_cases hg:g=0
  ·have hge:(g == 0)=true:=by simpa using hg
   have HG:=Lib.hid hg
   clear hg
   go_wp2_with fail
   refine (rfcommand w.heap.size (w.heap.size+1) X t c k1 od1 v1 HS1.out).mono ?_
   rintro e v2 hh
   obtain ⟨k2,od2,cm,V2,cv2,rfl,hS,hM⟩:=hh
   have KB2:=Lib.hid (hM.fr.blk KB1.out (by omega) (by omega))
   have KR2:=Lib.hid (hM.fr.blk KR1.out (by omega) (by omega))
   have HM2:=Lib.hid (And.intro hM hS)
   have hs2:v1.heap.size≤v2.heap.size:=hM.fr.size
   have hv1:g2 < v1.heap.size:=KB1.out.lt
   have HB2:=Lib.hid (HB1.out.trans (hM.fr.below (B:=w.heap.size) (by omega) (by omega) (by omega)))
   clear hS hM KB1 KR1 HB1
   have ho:=Only.sets (Only.refl g2 v2) (cL cm V2 cv2) 17
   have Kx:=blk_setA (i:=17) (vs:=(cL cm V2 cv2)) KB2.out
   rw [show setA #[.int .i64 g,.int .i64 0,.int .i64 0,.int .i64 0,.int .i64 0,.int .i64 0,.int .i64 0,.int .i64 0,.slice none 0 0,.int .i64 0,.int .i64 0,.slice none 0 0,.slice none 0 0,.slice none 0 0,.slice none 0 0,.slice none 0 0,.slice none 0 0,.int .u8 0,.int .i64 0,.int .i64 0,.int .i64 0,.int .i64 0,.int .i64 0,.int .i64 0,.bool false,.bool false,.bool false,.bool false,.int .i64 0,.int .i64 0,.bool false,.slice none 0 0,.int .u8 0,.int .i64 0,.int .i64 0,.int .i64 0,.int .i64 0,.int .i64 0,.int .i64 0,.int .i64 0,.int .i64 0,.int .i64 0,.int .i64 0,.int .i64 0,.bool false] 17 (cL cm V2 cv2)=#[.int .i64 g,.int .i64 0,.int .i64 0,.int .i64 0,.int .i64 0,.int .i64 0,.int .i64 0,.int .i64 0,.slice none 0 0,.int .i64 0,.int .i64 0,.slice none 0 0,.slice none 0 0,.slice none 0 0,.slice none 0 0,.slice none 0 0,.slice none 0 0,.int .u8 cm.kd,.int .i64 cm.id,.int .i64 cm.us,.int .i64 cm.cl,.int .i64 cm.a,.int .i64 cm.b,.int .i64 cm.c,.bool cm.p,.bool cm.q,.bool cm.r,.bool cm.tn,.int .i64 cm.wa,.int .i64 cm.pr,.bool cm.he,.slice V2 cm.af.length cv2,.int .u8 cm.st,.int .i64 cm.ca,.int .i64 cm.ci,.int .i64 cm.b0,.int .i64 cm.b1,.int .i64 cm.b2,.int .i64 cm.b3,.int .i64 cm.b4,.int .i64 cm.b5,.int .i64 cm.fr,.int .i64 cm.to,.int .i64 cm.n,.bool cm.we] from by simp only [setA,List.setIfInBounds_toArray,List.set_cons_zero,List.set_cons_succ]] at Kx
   have XX:=Lib.hid (And.intro Kx (And.intro (RS.only HM2.out.2 ho (by omega) (by omega)) (And.intro (ho.blk KR2.out (by omega)) (And.intro (at_over (keepN_cmd (by decide)) (show cmdR.At v2 w.heap.size cm (cL cm V2 cv2) from cmdR.mono HM2.out.1.at_ (by omega)) KB2.out ho) (HB2.out.trans (ho.below (by omega) (by omega)))))))
   clear ho Kx
   go_upto_region 8 with (refine wpList_store_mid rfl 34 _ _ rfl g2 17 (List.toArray (cL cm V2 cv2)) rfl rfl (there_of KB2.out (Nat.le_of_ble_eq_true rfl)) (by kernel_rfl) (by kernel_rfl) ?_;simp only [List.toList_toArray];generalize World.setCells _ _ _ _=v3 at *;(try simp only [Act.put]))
   have KB3:=Lib.hid XX.out.1
   have HS3:=Lib.hid XX.out.2.1
   have KR3:=Lib.hid XX.out.2.2.1
   have HA3:=Lib.hid XX.out.2.2.2.1
   have HB3:=Lib.hid XX.out.2.2.2.2
   have hv3:w.heap.size < v3.heap.size:=XX.out.2.2.1.lt
   have HD:=Lib.hid HM2.out.1
   clear XX KB2 KR2 HM2 HB2
   have hgood:od2=false∧k2=t.length→readV t=(⟨0,SV.z,cm⟩,0):=fun h=>by
    obtain ⟨e1,d1⟩:=HD.out.ok h.1
    obtain ⟨_,d0⟩:=HN1.out.ok e1
    rw [List.drop_zero,HG.out] at d0
    rw [h.2,List.drop_length] at d1
    exact readV_ok HL.out (by rw [rec_cmd d0,d1];rfl)
   have hbad:¬ (od2=false∧k2=t.length)→readV t=(RV.z,8):=fun h=>by
    cases h1:od1 with
    | true =>
     have:=HN1.out.bad h1 rfl
     rw [List.drop_zero] at this
     exact readV_none HL.out (rec_none this)
    | false =>
     obtain ⟨_,d0⟩:=HN1.out.ok h1
     rw [List.drop_zero,HG.out] at d0
     cases h2:od2 with
     | true=>exact readV_none HL.out (by rw [rec_cmd d0,HD.out.bad h2 h1];rfl)
     | false =>
      obtain ⟨_,d1⟩:=HD.out.ok h2
      have hk:k2 < t.length:=by
       have:=HS3.out.le
       rcases Nat.lt_or_ge k2 t.length with h3 | h3
       ·exact h3
       ·exact absurd ⟨h2,by omega⟩ h
      exact readV_more (r:=⟨0,SV.z,cm⟩) (x:=t[k2]) (u:=t.drop (k2+1)) HL.out (by rw [rec_cmd d0,d1,List.drop_eq_getElem_cons hk];rfl)
   have HGD:=Lib.hid hgood
   have HBD:=Lib.hid hbad
   clear hgood hbad
   by_cases hq:od2=false∧k2=t.length
   ·have HGOOD:=Lib.hid (HGD.out hq)
    have hkk:((k2:Int) != (t.length:Int))=false:=by simp [hq.2]
    have hg1:¬ g < 0:=by rw [HG.out];omega
    have hg3:¬ 2147483647 < g:=by rw [HG.out];omega
    obtain rfl:od2=false:=hq.1
    clear hq HGD HBD
    have p2:v3.cell? ⟨w.heap.size+1,2,none⟩=some (.bool false):=HS3.out.blk.cell 2
    have p1:v3.cell? ⟨w.heap.size+1,1,none⟩=some (.int .i64 k2):=HS3.out.blk.cell 1
    have b0:v3.cell? ⟨g2,0,none⟩=some (.int .i64 g):=KB3.out.cell 0
    have R9:=Lib.hid (show v3.rangeAt g2 0 [.int .i64 g,.int .i64 0,.int .i64 0,.int .i64 0,.int .i64 0,.int .i64 0,.int .i64 0,.int .i64 0,.slice none 0 0,.int .i64 0,.int .i64 0,.slice none 0 0,.slice none 0 0,.slice none 0 0,.slice none 0 0,.slice none 0 0,.slice none 0 0,.int .u8 cm.kd,.int .i64 cm.id,.int .i64 cm.us,.int .i64 cm.cl,.int .i64 cm.a,.int .i64 cm.b,.int .i64 cm.c,.bool cm.p,.bool cm.q,.bool cm.r,.bool cm.tn,.int .i64 cm.wa,.int .i64 cm.pr,.bool cm.he,.slice V2 cm.af.length cv2,.int .u8 cm.st,.int .i64 cm.ca,.int .i64 cm.ci,.int .i64 cm.b0,.int .i64 cm.b1,.int .i64 cm.b2,.int .i64 cm.b3,.int .i64 cm.b4,.int .i64 cm.b5,.int .i64 cm.fr,.int .i64 cm.to,.int .i64 cm.n,.bool cm.we] from range_part (n:=45) KB3.out rfl)
    have ho:=Only.sets (Only.refl w.heap.size v3) [.int .i64 g,.int .i64 0,.int .i64 0,.int .i64 0,.int .i64 0,.int .i64 0,.int .i64 0,.int .i64 0,.slice none 0 0,.int .i64 0,.int .i64 0,.slice none 0 0,.slice none 0 0,.slice none 0 0,.slice none 0 0,.slice none 0 0,.slice none 0 0,.int .u8 cm.kd,.int .i64 cm.id,.int .i64 cm.us,.int .i64 cm.cl,.int .i64 cm.a,.int .i64 cm.b,.int .i64 cm.c,.bool cm.p,.bool cm.q,.bool cm.r,.bool cm.tn,.int .i64 cm.wa,.int .i64 cm.pr,.bool cm.he,.slice V2 cm.af.length cv2,.int .u8 cm.st,.int .i64 cm.ca,.int .i64 cm.ci,.int .i64 cm.b0,.int .i64 cm.b1,.int .i64 cm.b2,.int .i64 cm.b3,.int .i64 cm.b4,.int .i64 cm.b5,.int .i64 cm.fr,.int .i64 cm.to,.int .i64 cm.n,.bool cm.we] 0
    have Kz:Blk (World.setCells v3 w.heap.size 0 [.int .i64 g,.int .i64 0,.int .i64 0,.int .i64 0,.int .i64 0,.int .i64 0,.int .i64 0,.int .i64 0,.slice none 0 0,.int .i64 0,.int .i64 0,.slice none 0 0,.slice none 0 0,.slice none 0 0,.slice none 0 0,.slice none 0 0,.slice none 0 0,.int .u8 cm.kd,.int .i64 cm.id,.int .i64 cm.us,.int .i64 cm.cl,.int .i64 cm.a,.int .i64 cm.b,.int .i64 cm.c,.bool cm.p,.bool cm.q,.bool cm.r,.bool cm.tn,.int .i64 cm.wa,.int .i64 cm.pr,.bool cm.he,.slice V2 cm.af.length cv2,.int .u8 cm.st,.int .i64 cm.ca,.int .i64 cm.ci,.int .i64 cm.b0,.int .i64 cm.b1,.int .i64 cm.b2,.int .i64 cm.b3,.int .i64 cm.b4,.int .i64 cm.b5,.int .i64 cm.fr,.int .i64 cm.to,.int .i64 cm.n,.bool cm.we]) w.heap.size 51 (List.toArray [.int .i64 g,.int .i64 0,.int .i64 0,.int .i64 0,.int .i64 0,.int .i64 0,.int .i64 0,.int .i64 0,.slice none 0 0,.int .i64 0,.int .i64 0,.slice none 0 0,.slice none 0 0,.slice none 0 0,.slice none 0 0,.slice none 0 0,.slice none 0 0,.int .u8 cm.kd,.int .i64 cm.id,.int .i64 cm.us,.int .i64 cm.cl,.int .i64 cm.a,.int .i64 cm.b,.int .i64 cm.c,.bool cm.p,.bool cm.q,.bool cm.r,.bool cm.tn,.int .i64 cm.wa,.int .i64 cm.pr,.bool cm.he,.slice V2 cm.af.length cv2,.int .u8 cm.st,.int .i64 cm.ca,.int .i64 cm.ci,.int .i64 cm.b0,.int .i64 cm.b1,.int .i64 cm.b2,.int .i64 cm.b3,.int .i64 cm.b4,.int .i64 cm.b5,.int .i64 cm.fr,.int .i64 cm.to,.int .i64 cm.n,.bool cm.we]):=blk_all KR3.out (setA_full rfl)
    have HZ:=Lib.hid (And.intro Kz (And.intro (at_over (keepN_cmd (by decide)) HA3.out KR3.out ho) (HB3.out.trans (ho.below (Nat.le_refl _) (by omega)))))
    clear ho Kz
    go_wp2_with (first | (refine wpList_load_mid rfl 51 _ rfl _ _ rfl _ _ R9.out Try.underlying51 rfl (by kernel_rfl) ?_) | (refine wpList_store_mid rfl 51 _ _ rfl w.heap.size 0 (List.toArray [.int .i64 g,.int .i64 0,.int .i64 0,.int .i64 0,.int .i64 0,.int .i64 0,.int .i64 0,.int .i64 0,.slice none 0 0,.int .i64 0,.int .i64 0,.slice none 0 0,.slice none 0 0,.slice none 0 0,.slice none 0 0,.slice none 0 0,.slice none 0 0,.int .u8 cm.kd,.int .i64 cm.id,.int .i64 cm.us,.int .i64 cm.cl,.int .i64 cm.a,.int .i64 cm.b,.int .i64 cm.c,.bool cm.p,.bool cm.q,.bool cm.r,.bool cm.tn,.int .i64 cm.wa,.int .i64 cm.pr,.bool cm.he,.slice V2 cm.af.length cv2,.int .u8 cm.st,.int .i64 cm.ca,.int .i64 cm.ci,.int .i64 cm.b0,.int .i64 cm.b1,.int .i64 cm.b2,.int .i64 cm.b3,.int .i64 cm.b4,.int .i64 cm.b5,.int .i64 cm.fr,.int .i64 cm.to,.int .i64 cm.n,.bool cm.we]) rfl rfl (there_of KR3.out (Nat.le_of_ble_eq_true rfl)) (by kernel_rfl) (by kernel_rfl) ?_;simp only [List.toList_toArray];generalize World.setCells _ _ _ _=w99 at *;(try simp only [Act.put])))
    refine bodyPost_ret (v:=.tuple #[.agg (List.toArray [.int .i64 g,.int .i64 0,.int .i64 0,.int .i64 0,.int .i64 0,.int .i64 0,.int .i64 0,.int .i64 0,.slice none 0 0,.int .i64 0,.int .i64 0,.slice none 0 0,.slice none 0 0,.slice none 0 0,.slice none 0 0,.slice none 0 0,.slice none 0 0,.int .u8 cm.kd,.int .i64 cm.id,.int .i64 cm.us,.int .i64 cm.cl,.int .i64 cm.a,.int .i64 cm.b,.int .i64 cm.c,.bool cm.p,.bool cm.q,.bool cm.r,.bool cm.tn,.int .i64 cm.wa,.int .i64 cm.pr,.bool cm.he,.slice V2 cm.af.length cv2,.int .u8 cm.st,.int .i64 cm.ca,.int .i64 cm.ci,.int .i64 cm.b0,.int .i64 cm.b1,.int .i64 cm.b2,.int .i64 cm.b3,.int .i64 cm.b4,.int .i64 cm.b5,.int .i64 cm.fr,.int .i64 cm.to,.int .i64 cm.n,.bool cm.we]),.int .i64 0]) ?_ rfl ?_
    ·refine results_ri rfl _ _ w.heap.size 51 _ (0,0) _ _ ?_ ?_ HZ.out.1 Try.underlying51 rfl (by kernel_rfl)
     ·rfl
     ·rfl
    ·have e:=HG.out
     subst e
     exact ⟨_,by rw [HGOOD.out],by rw [HGOOD.out];exact at_cmd HZ.out.2.1,HZ.out.2.2⟩
   ·have HBAD:=Lib.hid (HBD.out hq)
    have k1':Blk (World.setCells v3 w.heap.size 0 [.int .i64 0,.int .i64 0,.int .i64 0,.int .i64 0,.int .i64 0,.int .i64 0,.int .i64 0,.int .i64 0,.slice none 0 0,.int .i64 0,.int .i64 0,.slice none 0 0,.slice none 0 0,.slice none 0 0,.slice none 0 0,.slice none 0 0,.slice none 0 0,.int .u8 0,.int .i64 0,.int .i64 0,.int .i64 0,.int .i64 0,.int .i64 0,.int .i64 0,.bool false,.bool false,.bool false,.bool false,.int .i64 0,.int .i64 0,.bool false,.slice none 0 0,.int .u8 0,.int .i64 0,.int .i64 0,.int .i64 0,.int .i64 0,.int .i64 0,.int .i64 0,.int .i64 0,.int .i64 0,.int .i64 0,.int .i64 0,.int .i64 0,.bool false]) w.heap.size 51 (List.toArray [.int .i64 0,.int .i64 0,.int .i64 0,.int .i64 0,.int .i64 0,.int .i64 0,.int .i64 0,.int .i64 0,.slice none 0 0,.int .i64 0,.int .i64 0,.slice none 0 0,.slice none 0 0,.slice none 0 0,.slice none 0 0,.slice none 0 0,.slice none 0 0,.int .u8 0,.int .i64 0,.int .i64 0,.int .i64 0,.int .i64 0,.int .i64 0,.int .i64 0,.bool false,.bool false,.bool false,.bool false,.int .i64 0,.int .i64 0,.bool false,.slice none 0 0,.int .u8 0,.int .i64 0,.int .i64 0,.int .i64 0,.int .i64 0,.int .i64 0,.int .i64 0,.int .i64 0,.int .i64 0,.int .i64 0,.int .i64 0,.int .i64 0,.bool false]):=blk_all KR3.out (setA_full rfl)
    have k2':Below w.heap.size w (World.setCells v3 w.heap.size 0 [.int .i64 0,.int .i64 0,.int .i64 0,.int .i64 0,.int .i64 0,.int .i64 0,.int .i64 0,.int .i64 0,.slice none 0 0,.int .i64 0,.int .i64 0,.slice none 0 0,.slice none 0 0,.slice none 0 0,.slice none 0 0,.slice none 0 0,.slice none 0 0,.int .u8 0,.int .i64 0,.int .i64 0,.int .i64 0,.int .i64 0,.int .i64 0,.int .i64 0,.bool false,.bool false,.bool false,.bool false,.int .i64 0,.int .i64 0,.bool false,.slice none 0 0,.int .u8 0,.int .i64 0,.int .i64 0,.int .i64 0,.int .i64 0,.int .i64 0,.int .i64 0,.int .i64 0,.int .i64 0,.int .i64 0,.int .i64 0,.int .i64 0,.bool false]):=below_sets (Nat.le_refl _) HB3.out
    have HZ:=Lib.hid (And.intro k1' k2')
    clear k1' k2' HGD HBD
    rcases od2 with _ | _
    ·have hl3:=HS3.out.le
     have p2:v3.cell? ⟨w.heap.size+1,2,none⟩=some (.bool false):=HS3.out.blk.cell 2
     have p1:v3.cell? ⟨w.heap.size+1,1,none⟩=some (.int .i64 k2):=HS3.out.blk.cell 1
     have b0:v3.cell? ⟨g2,0,none⟩=some (.int .i64 g):=KB3.out.cell 0
     by_cases hk:k2=t.length
     ·exact absurd ⟨rfl,hk⟩ hq
     ·have hkk:((k2:Int) != (t.length:Int))=true:=by simp;omega
      clear hq hk
      go_wp2_with (first | (refine wpList_store_mid rfl 51 _ _ rfl w.heap.size 0 (List.toArray [.int .i64 0,.int .i64 0,.int .i64 0,.int .i64 0,.int .i64 0,.int .i64 0,.int .i64 0,.int .i64 0,.slice none 0 0,.int .i64 0,.int .i64 0,.slice none 0 0,.slice none 0 0,.slice none 0 0,.slice none 0 0,.slice none 0 0,.slice none 0 0,.int .u8 0,.int .i64 0,.int .i64 0,.int .i64 0,.int .i64 0,.int .i64 0,.int .i64 0,.bool false,.bool false,.bool false,.bool false,.int .i64 0,.int .i64 0,.bool false,.slice none 0 0,.int .u8 0,.int .i64 0,.int .i64 0,.int .i64 0,.int .i64 0,.int .i64 0,.int .i64 0,.int .i64 0,.int .i64 0,.int .i64 0,.int .i64 0,.int .i64 0,.bool false]) rfl rfl (there_of KR3.out (Nat.le_of_ble_eq_true rfl)) (by kernel_rfl) (by kernel_rfl) ?_;simp only [List.toList_toArray];generalize World.setCells _ _ _ _=w99 at *;(try simp only [Act.put])))
      refine bodyPost_ret (v:=.tuple #[.agg zA,.int .i64 8]) ?_ rfl ?_
      ·exact results_ri rfl _ _ w.heap.size 51 zA (0,0) _ (.int .i64 8) rfl rfl HZ.out.1 Try.underlying51 rfl (by kernel_rfl)
      ·exact ⟨zA.toList,by rw [HBAD.out],by rw [HBAD.out];exact recR_nil,HZ.out.2⟩
    ·clear hq
     have p2:v3.cell? ⟨w.heap.size+1,2,none⟩=some (.bool true):=HS3.out.blk.cell 2
     have p1:v3.cell? ⟨w.heap.size+1,1,none⟩=some (.int .i64 k2):=HS3.out.blk.cell 1
     have b0:v3.cell? ⟨g2,0,none⟩=some (.int .i64 g):=KB3.out.cell 0
     go_wp2_with (first | (refine wpList_store_mid rfl 51 _ _ rfl w.heap.size 0 (List.toArray [.int .i64 0,.int .i64 0,.int .i64 0,.int .i64 0,.int .i64 0,.int .i64 0,.int .i64 0,.int .i64 0,.slice none 0 0,.int .i64 0,.int .i64 0,.slice none 0 0,.slice none 0 0,.slice none 0 0,.slice none 0 0,.slice none 0 0,.slice none 0 0,.int .u8 0,.int .i64 0,.int .i64 0,.int .i64 0,.int .i64 0,.int .i64 0,.int .i64 0,.bool false,.bool false,.bool false,.bool false,.int .i64 0,.int .i64 0,.bool false,.slice none 0 0,.int .u8 0,.int .i64 0,.int .i64 0,.int .i64 0,.int .i64 0,.int .i64 0,.int .i64 0,.int .i64 0,.int .i64 0,.int .i64 0,.int .i64 0,.int .i64 0,.bool false]) rfl rfl (there_of KR3.out (Nat.le_of_ble_eq_true rfl)) (by kernel_rfl) (by kernel_rfl) ?_;simp only [List.toList_toArray];generalize World.setCells _ _ _ _=w99 at *;(try simp only [Act.put])))
     refine bodyPost_ret (v:=.tuple #[.agg zA,.int .i64 8]) ?_ rfl ?_
     ·exact results_ri rfl _ _ w.heap.size 51 zA (0,0) _ (.int .i64 8) rfl rfl HZ.out.1 Try.underlying51 rfl (by kernel_rfl)
     ·exact ⟨zA.toList,by rw [HBAD.out],by rw [HBAD.out];exact recR_nil,HZ.out.2⟩
  ·have hge:(g == 0)=false:=by simpa using hg
   have HG:=Lib.hid hg
   clear hg
   go_wp2_with fail
   refine (rfstate w.heap.size (w.heap.size+1) X t c k1 od1 v1 HS1.out).mono ?_
   rintro e v2 hh
   obtain ⟨k2,od2,s,y,rfl,hS,hM⟩:=hh
   have KB2:=Lib.hid (hM.fr.blk KB1.out (by omega) (by omega))
   have KR2:=Lib.hid (hM.fr.blk KR1.out (by omega) (by omega))
   have HM2:=Lib.hid (And.intro hM hS)
   have hs2:v1.heap.size≤v2.heap.size:=hM.fr.size
   have hv1:g2 < v1.heap.size:=KB1.out.lt
   have HB2:=Lib.hid (HB1.out.trans (hM.fr.below (B:=w.heap.size) (by omega) (by omega) (by omega)))
   clear hS hM KB1 KR1 HB1
   have ho:=Only.sets (Only.refl g2 v2) (sL s y) 1
   have Kx:=blk_setA (i:=1) (vs:=(sL s y)) KB2.out
   rw [show setA #[.int .i64 g,.int .i64 0,.int .i64 0,.int .i64 0,.int .i64 0,.int .i64 0,.int .i64 0,.int .i64 0,.slice none 0 0,.int .i64 0,.int .i64 0,.slice none 0 0,.slice none 0 0,.slice none 0 0,.slice none 0 0,.slice none 0 0,.slice none 0 0,.int .u8 0,.int .i64 0,.int .i64 0,.int .i64 0,.int .i64 0,.int .i64 0,.int .i64 0,.bool false,.bool false,.bool false,.bool false,.int .i64 0,.int .i64 0,.bool false,.slice none 0 0,.int .u8 0,.int .i64 0,.int .i64 0,.int .i64 0,.int .i64 0,.int .i64 0,.int .i64 0,.int .i64 0,.int .i64 0,.int .i64 0,.int .i64 0,.int .i64 0,.bool false] 1 (sL s y)=#[.int .i64 g,.int .i64 s.d0,.int .i64 s.d1,.int .i64 s.d2,.int .i64 s.bo,.int .i64 s.fr,.int .i64 s.tr,.int .i64 s.ag,.slice y.C s.cs.length y.cc,.int .i64 s.nw,.int .i64 s.nx,.slice y.J s.js.length y.cj,.slice y.P s.ps.length y.cp,.slice y.K s.ks.length y.ck,.slice y.D s.dn.length y.cd,.slice y.S s.sh.length y.cs,.slice y.U s.cu.length y.cu,.int .u8 0,.int .i64 0,.int .i64 0,.int .i64 0,.int .i64 0,.int .i64 0,.int .i64 0,.bool false,.bool false,.bool false,.bool false,.int .i64 0,.int .i64 0,.bool false,.slice none 0 0,.int .u8 0,.int .i64 0,.int .i64 0,.int .i64 0,.int .i64 0,.int .i64 0,.int .i64 0,.int .i64 0,.int .i64 0,.int .i64 0,.int .i64 0,.int .i64 0,.bool false] from by simp only [setA,List.setIfInBounds_toArray,List.set_cons_zero,List.set_cons_succ]] at Kx
   have XX:=Lib.hid (And.intro Kx (And.intro (RS.only HM2.out.2 ho (by omega) (by omega)) (And.intro (ho.blk KR2.out (by omega)) (And.intro (at_over (keepN_st (by decide) (by decide) (by decide) (by decide) (by decide)) (show stateR.At v2 w.heap.size s (sL s y) from stateR.mono HM2.out.1.at_ (by omega)) KB2.out ho) (HB2.out.trans (ho.below (by omega) (by omega)))))))
   clear ho Kx
   go_upto_region 8 with (refine wpList_store_mid rfl 49 _ _ rfl g2 1 (List.toArray (sL s y)) rfl rfl (there_of KB2.out (Nat.le_of_ble_eq_true rfl)) (by kernel_rfl) (by kernel_rfl) ?_;simp only [List.toList_toArray];generalize World.setCells _ _ _ _=v3 at *;(try simp only [Act.put]))
   have KB3:=Lib.hid XX.out.1
   have HS3:=Lib.hid XX.out.2.1
   have KR3:=Lib.hid XX.out.2.2.1
   have HA3:=Lib.hid XX.out.2.2.2.1
   have HB3:=Lib.hid XX.out.2.2.2.2
   have hv3:w.heap.size < v3.heap.size:=XX.out.2.2.1.lt
   have HD:=Lib.hid HM2.out.1
   clear XX KB2 KR2 HM2 HB2
   have hgood:od2=false∧k2=t.length∧0≤g∧g≤2147483647→readV t=(⟨g,s,CV.z⟩,0):=fun h=>by
    obtain ⟨e1,d1⟩:=HD.out.ok h.1
    obtain ⟨_,d0⟩:=HN1.out.ok e1
    rw [List.drop_zero] at d0
    rw [h.2.1,List.drop_length] at d1
    have hg0:=HG.out
    exact readV_ok HL.out (by rw [rec_state d0 (by omega) h.2.2.2,d1];rfl)
   have hbad:¬ (od2=false∧k2=t.length∧0≤g∧g≤2147483647)→readV t=(RV.z,8):=fun h=>by
    have hg0:=HG.out
    cases h1:od1 with
    | true =>
     have:=HN1.out.bad h1 rfl
     rw [List.drop_zero] at this
     exact readV_none HL.out (rec_none this)
    | false =>
     obtain ⟨_,d0⟩:=HN1.out.ok h1
     rw [List.drop_zero] at d0
     by_cases hr:g < 0∨2147483647 < g
     ·exact readV_none HL.out (rec_odd d0 hr)
     ·cases h2:od2 with
      | true=>exact readV_none HL.out (by rw [rec_state d0 (by omega) (by omega),HD.out.bad h2 h1];rfl)
      | false =>
       obtain ⟨_,d1⟩:=HD.out.ok h2
       have hk:k2 < t.length:=by
        have:=HS3.out.le
        rcases Nat.lt_or_ge k2 t.length with h3 | h3
        ·exact h3
        ·exact absurd ⟨h2,by omega,by omega,by omega⟩ h
       exact readV_more (r:=⟨g,s,CV.z⟩) (x:=t[k2]) (u:=t.drop (k2+1)) HL.out (by rw [rec_state d0 (by omega) (by omega),d1,List.drop_eq_getElem_cons hk];rfl)
   have HGD:=Lib.hid hgood
   have HBD:=Lib.hid hbad
   clear hgood hbad
   by_cases hq:od2=false∧k2=t.length∧0≤g∧g≤2147483647
   ·have HGOOD:=Lib.hid (HGD.out hq)
    have hkk:((k2:Int) != (t.length:Int))=false:=by simp [hq.2.1]
    have hg1:¬ g < 0:=by omega
    have hg3:¬ 2147483647 < g:=by omega
    obtain rfl:od2=false:=hq.1
    clear hq HGD HBD
    have p2:v3.cell? ⟨w.heap.size+1,2,none⟩=some (.bool false):=HS3.out.blk.cell 2
    have p1:v3.cell? ⟨w.heap.size+1,1,none⟩=some (.int .i64 k2):=HS3.out.blk.cell 1
    have b0:v3.cell? ⟨g2,0,none⟩=some (.int .i64 g):=KB3.out.cell 0
    have R9:=Lib.hid (show v3.rangeAt g2 0 [.int .i64 g,.int .i64 s.d0,.int .i64 s.d1,.int .i64 s.d2,.int .i64 s.bo,.int .i64 s.fr,.int .i64 s.tr,.int .i64 s.ag,.slice y.C s.cs.length y.cc,.int .i64 s.nw,.int .i64 s.nx,.slice y.J s.js.length y.cj,.slice y.P s.ps.length y.cp,.slice y.K s.ks.length y.ck,.slice y.D s.dn.length y.cd,.slice y.S s.sh.length y.cs,.slice y.U s.cu.length y.cu,.int .u8 0,.int .i64 0,.int .i64 0,.int .i64 0,.int .i64 0,.int .i64 0,.int .i64 0,.bool false,.bool false,.bool false,.bool false,.int .i64 0,.int .i64 0,.bool false,.slice none 0 0,.int .u8 0,.int .i64 0,.int .i64 0,.int .i64 0,.int .i64 0,.int .i64 0,.int .i64 0,.int .i64 0,.int .i64 0,.int .i64 0,.int .i64 0,.int .i64 0,.bool false] from range_part (n:=45) KB3.out rfl)
    have ho:=Only.sets (Only.refl w.heap.size v3) [.int .i64 g,.int .i64 s.d0,.int .i64 s.d1,.int .i64 s.d2,.int .i64 s.bo,.int .i64 s.fr,.int .i64 s.tr,.int .i64 s.ag,.slice y.C s.cs.length y.cc,.int .i64 s.nw,.int .i64 s.nx,.slice y.J s.js.length y.cj,.slice y.P s.ps.length y.cp,.slice y.K s.ks.length y.ck,.slice y.D s.dn.length y.cd,.slice y.S s.sh.length y.cs,.slice y.U s.cu.length y.cu,.int .u8 0,.int .i64 0,.int .i64 0,.int .i64 0,.int .i64 0,.int .i64 0,.int .i64 0,.bool false,.bool false,.bool false,.bool false,.int .i64 0,.int .i64 0,.bool false,.slice none 0 0,.int .u8 0,.int .i64 0,.int .i64 0,.int .i64 0,.int .i64 0,.int .i64 0,.int .i64 0,.int .i64 0,.int .i64 0,.int .i64 0,.int .i64 0,.int .i64 0,.bool false] 0
    have Kz:Blk (World.setCells v3 w.heap.size 0 [.int .i64 g,.int .i64 s.d0,.int .i64 s.d1,.int .i64 s.d2,.int .i64 s.bo,.int .i64 s.fr,.int .i64 s.tr,.int .i64 s.ag,.slice y.C s.cs.length y.cc,.int .i64 s.nw,.int .i64 s.nx,.slice y.J s.js.length y.cj,.slice y.P s.ps.length y.cp,.slice y.K s.ks.length y.ck,.slice y.D s.dn.length y.cd,.slice y.S s.sh.length y.cs,.slice y.U s.cu.length y.cu,.int .u8 0,.int .i64 0,.int .i64 0,.int .i64 0,.int .i64 0,.int .i64 0,.int .i64 0,.bool false,.bool false,.bool false,.bool false,.int .i64 0,.int .i64 0,.bool false,.slice none 0 0,.int .u8 0,.int .i64 0,.int .i64 0,.int .i64 0,.int .i64 0,.int .i64 0,.int .i64 0,.int .i64 0,.int .i64 0,.int .i64 0,.int .i64 0,.int .i64 0,.bool false]) w.heap.size 51 (List.toArray [.int .i64 g,.int .i64 s.d0,.int .i64 s.d1,.int .i64 s.d2,.int .i64 s.bo,.int .i64 s.fr,.int .i64 s.tr,.int .i64 s.ag,.slice y.C s.cs.length y.cc,.int .i64 s.nw,.int .i64 s.nx,.slice y.J s.js.length y.cj,.slice y.P s.ps.length y.cp,.slice y.K s.ks.length y.ck,.slice y.D s.dn.length y.cd,.slice y.S s.sh.length y.cs,.slice y.U s.cu.length y.cu,.int .u8 0,.int .i64 0,.int .i64 0,.int .i64 0,.int .i64 0,.int .i64 0,.int .i64 0,.bool false,.bool false,.bool false,.bool false,.int .i64 0,.int .i64 0,.bool false,.slice none 0 0,.int .u8 0,.int .i64 0,.int .i64 0,.int .i64 0,.int .i64 0,.int .i64 0,.int .i64 0,.int .i64 0,.int .i64 0,.int .i64 0,.int .i64 0,.int .i64 0,.bool false]):=blk_all KR3.out (setA_full rfl)
    have HZ:=Lib.hid (And.intro Kz (And.intro (at_over (keepN_st (by decide) (by decide) (by decide) (by decide) (by decide)) HA3.out KR3.out ho) (HB3.out.trans (ho.below (Nat.le_refl _) (by omega)))))
    clear ho Kz
    go_wp2_with (first | (refine wpList_load_mid rfl 51 _ rfl _ _ rfl _ _ R9.out Try.underlying51 rfl (by kernel_rfl) ?_) | (refine wpList_store_mid rfl 51 _ _ rfl w.heap.size 0 (List.toArray [.int .i64 g,.int .i64 s.d0,.int .i64 s.d1,.int .i64 s.d2,.int .i64 s.bo,.int .i64 s.fr,.int .i64 s.tr,.int .i64 s.ag,.slice y.C s.cs.length y.cc,.int .i64 s.nw,.int .i64 s.nx,.slice y.J s.js.length y.cj,.slice y.P s.ps.length y.cp,.slice y.K s.ks.length y.ck,.slice y.D s.dn.length y.cd,.slice y.S s.sh.length y.cs,.slice y.U s.cu.length y.cu,.int .u8 0,.int .i64 0,.int .i64 0,.int .i64 0,.int .i64 0,.int .i64 0,.int .i64 0,.bool false,.bool false,.bool false,.bool false,.int .i64 0,.int .i64 0,.bool false,.slice none 0 0,.int .u8 0,.int .i64 0,.int .i64 0,.int .i64 0,.int .i64 0,.int .i64 0,.int .i64 0,.int .i64 0,.int .i64 0,.int .i64 0,.int .i64 0,.int .i64 0,.bool false]) rfl rfl (there_of KR3.out (Nat.le_of_ble_eq_true rfl)) (by kernel_rfl) (by kernel_rfl) ?_;simp only [List.toList_toArray];generalize World.setCells _ _ _ _=w99 at *;(try simp only [Act.put])))
    refine bodyPost_ret (v:=.tuple #[.agg (List.toArray [.int .i64 g,.int .i64 s.d0,.int .i64 s.d1,.int .i64 s.d2,.int .i64 s.bo,.int .i64 s.fr,.int .i64 s.tr,.int .i64 s.ag,.slice y.C s.cs.length y.cc,.int .i64 s.nw,.int .i64 s.nx,.slice y.J s.js.length y.cj,.slice y.P s.ps.length y.cp,.slice y.K s.ks.length y.ck,.slice y.D s.dn.length y.cd,.slice y.S s.sh.length y.cs,.slice y.U s.cu.length y.cu,.int .u8 0,.int .i64 0,.int .i64 0,.int .i64 0,.int .i64 0,.int .i64 0,.int .i64 0,.bool false,.bool false,.bool false,.bool false,.int .i64 0,.int .i64 0,.bool false,.slice none 0 0,.int .u8 0,.int .i64 0,.int .i64 0,.int .i64 0,.int .i64 0,.int .i64 0,.int .i64 0,.int .i64 0,.int .i64 0,.int .i64 0,.int .i64 0,.int .i64 0,.bool false]),.int .i64 0]) ?_ rfl ?_
    ·refine results_ri rfl _ _ w.heap.size 51 _ (0,0) _ _ ?_ ?_ HZ.out.1 Try.underlying51 rfl (by kernel_rfl)
     ·rfl
     ·rfl
    ·exact ⟨_,by rw [HGOOD.out],by rw [HGOOD.out];exact at_state HZ.out.2.1,HZ.out.2.2⟩
   ·have HBAD:=Lib.hid (HBD.out hq)
    have k1':Blk (World.setCells v3 w.heap.size 0 [.int .i64 0,.int .i64 0,.int .i64 0,.int .i64 0,.int .i64 0,.int .i64 0,.int .i64 0,.int .i64 0,.slice none 0 0,.int .i64 0,.int .i64 0,.slice none 0 0,.slice none 0 0,.slice none 0 0,.slice none 0 0,.slice none 0 0,.slice none 0 0,.int .u8 0,.int .i64 0,.int .i64 0,.int .i64 0,.int .i64 0,.int .i64 0,.int .i64 0,.bool false,.bool false,.bool false,.bool false,.int .i64 0,.int .i64 0,.bool false,.slice none 0 0,.int .u8 0,.int .i64 0,.int .i64 0,.int .i64 0,.int .i64 0,.int .i64 0,.int .i64 0,.int .i64 0,.int .i64 0,.int .i64 0,.int .i64 0,.int .i64 0,.bool false]) w.heap.size 51 (List.toArray [.int .i64 0,.int .i64 0,.int .i64 0,.int .i64 0,.int .i64 0,.int .i64 0,.int .i64 0,.int .i64 0,.slice none 0 0,.int .i64 0,.int .i64 0,.slice none 0 0,.slice none 0 0,.slice none 0 0,.slice none 0 0,.slice none 0 0,.slice none 0 0,.int .u8 0,.int .i64 0,.int .i64 0,.int .i64 0,.int .i64 0,.int .i64 0,.int .i64 0,.bool false,.bool false,.bool false,.bool false,.int .i64 0,.int .i64 0,.bool false,.slice none 0 0,.int .u8 0,.int .i64 0,.int .i64 0,.int .i64 0,.int .i64 0,.int .i64 0,.int .i64 0,.int .i64 0,.int .i64 0,.int .i64 0,.int .i64 0,.int .i64 0,.bool false]):=blk_all KR3.out (setA_full rfl)
    have k2':Below w.heap.size w (World.setCells v3 w.heap.size 0 [.int .i64 0,.int .i64 0,.int .i64 0,.int .i64 0,.int .i64 0,.int .i64 0,.int .i64 0,.int .i64 0,.slice none 0 0,.int .i64 0,.int .i64 0,.slice none 0 0,.slice none 0 0,.slice none 0 0,.slice none 0 0,.slice none 0 0,.slice none 0 0,.int .u8 0,.int .i64 0,.int .i64 0,.int .i64 0,.int .i64 0,.int .i64 0,.int .i64 0,.bool false,.bool false,.bool false,.bool false,.int .i64 0,.int .i64 0,.bool false,.slice none 0 0,.int .u8 0,.int .i64 0,.int .i64 0,.int .i64 0,.int .i64 0,.int .i64 0,.int .i64 0,.int .i64 0,.int .i64 0,.int .i64 0,.int .i64 0,.int .i64 0,.bool false]):=below_sets (Nat.le_refl _) HB3.out
    have HZ:=Lib.hid (And.intro k1' k2')
    clear k1' k2' HGD HBD
    rcases od2 with _ | _
    ·have hl3:=HS3.out.le
     have p2:v3.cell? ⟨w.heap.size+1,2,none⟩=some (.bool false):=HS3.out.blk.cell 2
     have p1:v3.cell? ⟨w.heap.size+1,1,none⟩=some (.int .i64 k2):=HS3.out.blk.cell 1
     have b0:v3.cell? ⟨g2,0,none⟩=some (.int .i64 g):=KB3.out.cell 0
     by_cases hk:k2=t.length
     ·have hkk:((k2:Int) != (t.length:Int))=false:=by simp [hk]
      by_cases hg1:g < 0
      ·clear hq hk
       go_wp2_with (first | (refine wpList_store_mid rfl 51 _ _ rfl w.heap.size 0 (List.toArray [.int .i64 0,.int .i64 0,.int .i64 0,.int .i64 0,.int .i64 0,.int .i64 0,.int .i64 0,.int .i64 0,.slice none 0 0,.int .i64 0,.int .i64 0,.slice none 0 0,.slice none 0 0,.slice none 0 0,.slice none 0 0,.slice none 0 0,.slice none 0 0,.int .u8 0,.int .i64 0,.int .i64 0,.int .i64 0,.int .i64 0,.int .i64 0,.int .i64 0,.bool false,.bool false,.bool false,.bool false,.int .i64 0,.int .i64 0,.bool false,.slice none 0 0,.int .u8 0,.int .i64 0,.int .i64 0,.int .i64 0,.int .i64 0,.int .i64 0,.int .i64 0,.int .i64 0,.int .i64 0,.int .i64 0,.int .i64 0,.int .i64 0,.bool false]) rfl rfl (there_of KR3.out (Nat.le_of_ble_eq_true rfl)) (by kernel_rfl) (by kernel_rfl) ?_;simp only [List.toList_toArray];generalize World.setCells _ _ _ _=w99 at *;(try simp only [Act.put])))
       refine bodyPost_ret (v:=.tuple #[.agg zA,.int .i64 8]) ?_ rfl ?_
       ·exact results_ri rfl _ _ w.heap.size 51 zA (0,0) _ (.int .i64 8) rfl rfl HZ.out.1 Try.underlying51 rfl (by kernel_rfl)
       ·exact ⟨zA.toList,by rw [HBAD.out],by rw [HBAD.out];exact recR_nil,HZ.out.2⟩
      ·have hg3:2147483647 < g:=by
        rcases Int.lt_or_le 2147483647 g with h | h
        ·exact h
        ·exact absurd ⟨rfl,hk,by omega,h⟩ hq
       clear hq hk
       go_wp2_with (first | (refine wpList_store_mid rfl 51 _ _ rfl w.heap.size 0 (List.toArray [.int .i64 0,.int .i64 0,.int .i64 0,.int .i64 0,.int .i64 0,.int .i64 0,.int .i64 0,.int .i64 0,.slice none 0 0,.int .i64 0,.int .i64 0,.slice none 0 0,.slice none 0 0,.slice none 0 0,.slice none 0 0,.slice none 0 0,.slice none 0 0,.int .u8 0,.int .i64 0,.int .i64 0,.int .i64 0,.int .i64 0,.int .i64 0,.int .i64 0,.bool false,.bool false,.bool false,.bool false,.int .i64 0,.int .i64 0,.bool false,.slice none 0 0,.int .u8 0,.int .i64 0,.int .i64 0,.int .i64 0,.int .i64 0,.int .i64 0,.int .i64 0,.int .i64 0,.int .i64 0,.int .i64 0,.int .i64 0,.int .i64 0,.bool false]) rfl rfl (there_of KR3.out (Nat.le_of_ble_eq_true rfl)) (by kernel_rfl) (by kernel_rfl) ?_;simp only [List.toList_toArray];generalize World.setCells _ _ _ _=w99 at *;(try simp only [Act.put])))
       refine bodyPost_ret (v:=.tuple #[.agg zA,.int .i64 8]) ?_ rfl ?_
       ·exact results_ri rfl _ _ w.heap.size 51 zA (0,0) _ (.int .i64 8) rfl rfl HZ.out.1 Try.underlying51 rfl (by kernel_rfl)
       ·exact ⟨zA.toList,by rw [HBAD.out],by rw [HBAD.out];exact recR_nil,HZ.out.2⟩
     ·have hkk:((k2:Int) != (t.length:Int))=true:=by simp;omega
      clear hq hk
      go_wp2_with (first | (refine wpList_store_mid rfl 51 _ _ rfl w.heap.size 0 (List.toArray [.int .i64 0,.int .i64 0,.int .i64 0,.int .i64 0,.int .i64 0,.int .i64 0,.int .i64 0,.int .i64 0,.slice none 0 0,.int .i64 0,.int .i64 0,.slice none 0 0,.slice none 0 0,.slice none 0 0,.slice none 0 0,.slice none 0 0,.slice none 0 0,.int .u8 0,.int .i64 0,.int .i64 0,.int .i64 0,.int .i64 0,.int .i64 0,.int .i64 0,.bool false,.bool false,.bool false,.bool false,.int .i64 0,.int .i64 0,.bool false,.slice none 0 0,.int .u8 0,.int .i64 0,.int .i64 0,.int .i64 0,.int .i64 0,.int .i64 0,.int .i64 0,.int .i64 0,.int .i64 0,.int .i64 0,.int .i64 0,.int .i64 0,.bool false]) rfl rfl (there_of KR3.out (Nat.le_of_ble_eq_true rfl)) (by kernel_rfl) (by kernel_rfl) ?_;simp only [List.toList_toArray];generalize World.setCells _ _ _ _=w99 at *;(try simp only [Act.put])))
      refine bodyPost_ret (v:=.tuple #[.agg zA,.int .i64 8]) ?_ rfl ?_
      ·exact results_ri rfl _ _ w.heap.size 51 zA (0,0) _ (.int .i64 8) rfl rfl HZ.out.1 Try.underlying51 rfl (by kernel_rfl)
      ·exact ⟨zA.toList,by rw [HBAD.out],by rw [HBAD.out];exact recR_nil,HZ.out.2⟩
    ·clear hq
     have p2:v3.cell? ⟨w.heap.size+1,2,none⟩=some (.bool true):=HS3.out.blk.cell 2
     have p1:v3.cell? ⟨w.heap.size+1,1,none⟩=some (.int .i64 k2):=HS3.out.blk.cell 1
     have b0:v3.cell? ⟨g2,0,none⟩=some (.int .i64 g):=KB3.out.cell 0
     go_wp2_with (first | (refine wpList_store_mid rfl 51 _ _ rfl w.heap.size 0 (List.toArray [.int .i64 0,.int .i64 0,.int .i64 0,.int .i64 0,.int .i64 0,.int .i64 0,.int .i64 0,.int .i64 0,.slice none 0 0,.int .i64 0,.int .i64 0,.slice none 0 0,.slice none 0 0,.slice none 0 0,.slice none 0 0,.slice none 0 0,.slice none 0 0,.int .u8 0,.int .i64 0,.int .i64 0,.int .i64 0,.int .i64 0,.int .i64 0,.int .i64 0,.bool false,.bool false,.bool false,.bool false,.int .i64 0,.int .i64 0,.bool false,.slice none 0 0,.int .u8 0,.int .i64 0,.int .i64 0,.int .i64 0,.int .i64 0,.int .i64 0,.int .i64 0,.int .i64 0,.int .i64 0,.int .i64 0,.int .i64 0,.int .i64 0,.bool false]) rfl rfl (there_of KR3.out (Nat.le_of_ble_eq_true rfl)) (by kernel_rfl) (by kernel_rfl) ?_;simp only [List.toList_toArray];generalize World.setCells _ _ _ _=w99 at *;(try simp only [Act.put])))
     refine bodyPost_ret (v:=.tuple #[.agg zA,.int .i64 8]) ?_ rfl ?_
     ·exact results_ri rfl _ _ w.heap.size 51 zA (0,0) _ (.int .i64 8) rfl rfl HZ.out.1 Try.underlying51 rfl (by kernel_rfl)
     ·exact ⟨zA.toList,by rw [HBAD.out],by rw [HBAD.out];exact recR_nil,HZ.out.2⟩
end Go.Proofs.Ytfdldbfjeamlcaa.RfRead
