/- Several texts joined: rec.port: lists of partitions, where it writes. -/
import Derived.BigQuiet
import Derived.Deep.QuietTactic
import Derived.Deep.MidRow
import Derived.Deep.DeepCutAuto
import Derived.Lib.QuietBelow
import Derived.Lib.SliceRun
import Derived.Test.YtfdldbfjeamlcaaPG6
import Derived.Test.YtfdldbfjeamlcaaPG3
import Derived.Deep.RegionLaw
import Derived.IntWalk
import Derived.WalkKit
import Derived.WalkLawsBesides
set_option linter.unusedVariables false
set_option linter.unusedSimpArgs false
namespace Go.Proofs.Ytfdldbfjeamlcaa.RecWListP
set_option maxRecDepth 100000
set_option maxHeartbeats 4000000
open Go.RowKit Mem RecMem RecByte RecNum RecEach RecMath RecPort RecCmd RecCod RecCods RecCommand RecCmdJ RecVal RecSame RecOwn RecWAt RecWFlat RecWListI 
open Go.Sort (grow)
theorem wlistP (gp:Nat) (v:Value) (t:List Int) (od:Bool) (b o:Nat) (X:Option Addr) (c:Nat) (l:List PV) (hc:l.length≤c) (hm:l.length≤maxLen) (hw:∀ x ∈ l,PWf x) (hl:t.length+(listE partE l).length≤800000000) (w:World) (hP:PW w gp v t od) (hA:WAt gp v w b o [.slice X l.length c]) (hX:SlcFar 13 pF gp v w X l) :
    Calls Try.prog 112 #[.pointer (some ⟨gp,0,none⟩),.pointer (some ⟨b,o,none⟩),.func (.func 113) #[.pointer (some ⟨gp,0,none⟩)] #[]] w fun e w' => WOut (listE partE l) (listO yes l) gp v t od w e w':=by
 have hm2:l.length≤9223372036854775807:=hm
 have hlw:W64 (l.length:Int):=i64_mk (by omega)
 have hB1:Below w.heap.size w (w.alloc (.cells #[.int .i64 (l.length:Int)] 3)):=below_alloc (Below.refl _ _)
 have HC:=Lib.hid (wnumW gp v t od w.heap.size 0 (l.length:Int) hlw (by have h9:=hl;simp only [listE,List.length_append,nB_len] at h9;rw [nB_len];omega) (w.alloc (.cells #[.int .i64 (l.length:Int)] 3)) (hP.alloc _) (WAt.blk (Blk.new w 3 #[.int .i64 (l.length:Int)]) (hP.new _)))
 have H0:=Lib.hid (And.intro (WAt.blk (Blk.new w 3 #[.int .i64 (l.length:Int)]) (hP.new _)) (And.intro (hA.fr (fr_up hB1)) (And.intro (hX.fr pStaysF (fr_up hB1)) (fr_up (gp:=gp) (v:=v) hB1))))
 have ca:=hA.c0 _ rfl
 have HW:=Lib.hid hw
 have HLB:=Lib.hid hl
 clear hP hA hX hw hlw hB1 hl hm hm2
 go_enter Try.func112,Try.ntmps112
 go_wp2_with fail
 refine HC.out.mono ?_
 rintro e w1 ⟨⟨r,rfl⟩,v1,hP1,hF1⟩
 have hP1:=(show PW w1 gp v1 (t ++ nB (l.length:Int)) od from by simpa using hP1)
 have cn:w1.cell? ⟨w.heap.size,0,none⟩=some (.int .i64 (l.length:Int)):=(H0.out.1.fr hF1).c0 _ rfl
 have cl:w1.cell? ⟨b,o,none⟩=some (.slice X l.length c):=(H0.out.2.1.fr hF1).c0 _ rfl
 have p1:w1.cell? ⟨gp,1,none⟩=some (.bool false):=hP1.1.cell 1
 have hX1:=H0.out.2.2.1.fr pStaysF hF1
 have hF01:=H0.out.2.2.2.trans hF1
 by_cases hn:l.length≤1000
 ·have HE:=Lib.hid (show listE partE l=nB (l.length:Int) ++ l.flatMap partE from by unfold listE;rw [if_pos hn])
  have HO:=Lib.hid (show listO yes l=l.all yes from by unfold listO;rw [decide_eq_true hn,Bool.true_and])
  have H1:=Lib.hid (And.intro hP1 (And.intro hF01 hX1))
  have hn0:¬ ((l.length:Int) < 0):=by omega
  have hn1:¬ ((1000:Int) < (l.length:Int)):=by omega
  clear hP1 hF1 hF01 HC H0 ca hX1
  go_wp2_with fail
  have kq0:=cell_regrown cn
  have kq1:=cell_regrown cl
  refine wp_region_quiet_below (by kernel_rfl) (by kernel_rfl) ?_
  repeat (go_big_quiet_step (first | fail))
  refine wpQuiet_nil ?_
  intro _ hw'
  obtain ⟨⟨dq,osq⟩,hw''⟩:=hw'
  subst hw''
  have hBq:=below_regrown w1 dq osq
  clear kq0 kq1 cn cl p1
  have hP2:=PW.up H1.out.1 hBq
  have hF2:=Fr.up H1.out.2.1 hBq
  have hX2:=H1.out.2.2.fr pStaysF (Fr.up (Fr.refl gp v1 w1) hBq)
  generalize grow (redrawn w1 dq) osq=w2 at *
  have H2:=Lib.hid (And.intro hP2 (And.intro hF2 hX2))
  clear hP2 hF2 hX2 hBq H1
  go_wp2_with fail
  go_loopw [9,51] (fun _ i wr=>∃ (k:Nat) (v':Value),k≤l.length∧i = .int .i64 k∧Hid (PW wr gp v' (t ++ nB (l.length:Int) ++ (l.take k).flatMap partE) (od || !((l.take k).all yes)))∧Hid (Fr gp v w v' wr)∧Hid (SlcFar 13 pF gp v' wr X l))
   (fun _ i _=>l.length - (intOf i).toNat)
  case atStart=>exact ⟨0,v1,Nat.zero_le _,rfl,by show PW w2 gp v1 (t ++ nB (l.length:Int) ++ []) (od || !true);rw [List.append_nil,Bool.not_true,Bool.or_false];exact H2.out.1,H2.out.2.1,H2.out.2.2⟩
  case round =>
   obtain ⟨k,v',hk,rfl,hP',hFr,hX'⟩:=hrel
   clear H2
   by_cases hlt:k < l.length
   ·have hg:l[k]? = some l[k]:=List.getElem?_eq_getElem hlt
    generalize l[k]=x at hg
    have hki:(k:Int) < (l.length:Int):=by omega
    have hki0:(0:Int)≤(k:Int):=by omega
    obtain ⟨yb,yo,cs,rfl,hyF,_,hyc,hyr⟩:=hX'.out k x hg
    obtain rfl:cs=(pL x):=hyr
    have hlen:(t ++ nB (l.length:Int) ++ (l.take k).flatMap partE).length+(partE x).length≤800000000:=by
     have h9:=HLB.out
     rw [HE.out,List.length_append] at h9
     have h8:=flat_take (enc:=partE) hg
     simp only [List.length_append] at h8 h9 ⊢
     omega
    have HR:=Lib.hid hyc
    have hx:=box_full (W:=wr) 109 Sq.zzP (vs:=(pL x)) rfl
    have HFA:=Lib.hid (fr_up (gp:=gp) (v:=v') hx.2)
    have HC:=Lib.hid (wpartW gp v' _ _ wr.heap.size 0 x (HW.out x (List.mem_of_getElem? hg)) hlen (World.setCells (wr.alloc (.cells Sq.zzP 109)) wr.heap.size 0 (pL x)) (PW.up hP'.out hx.2) (WAt.blk hx.1 (new_below hP'.out hx.2 hx.1.lt)))
    clear hx
    have HG:=Lib.hid hg
    clear hg hyF hlen hyc
    go_wp2_with (first | (refine wpList_load_mid rfl 109 _ rfl _ _ rfl _ _ HR.out Try.underlying109 rfl (by kernel_rfl) ?_) | (refine wpList_store_mid rfl 109 _ _ rfl wr.heap.size 0 (List.toArray (pL x)) rfl rfl (there_of (Blk.new _ 109 Sq.zzP) (Nat.le_of_ble_eq_true rfl)) (by kernel_rfl) (by kernel_rfl) ?_;simp only [List.toList_toArray];generalize World.setCells _ _ _ _=wz at *))
    refine HC.out.mono ?_
    rintro e w3 ⟨⟨r,rfl⟩,v3,hP3,hF3⟩
    have H3:=Lib.hid (And.intro hP3 (And.intro ((hFr.out.trans HFA.out).trans hF3) ((hX'.out.fr pStaysF HFA.out).fr pStaysF hF3)))
    clear hP3 hF3 HC
    go_wp2_with fail
    go_roundw
    case measure=>simp [intOf];omega
    refine ⟨k+1,v3,by omega,by go_num,?_,H3.out.2.1,H3.out.2.2⟩
    rw [take_snoc HG.out,List.flatMap_append,← List.append_assoc,List.all_append,show (List.flatMap partE [x])=partE x from by simp,show (List.all [x] yes)=yes x from by simp]
    rw [show (od || !((l.take k).all yes && yes x))=(od || !((l.take k).all yes) || !(yes x)) by cases od <;> cases (l.take k).all yes <;> cases yes x <;> rfl]
    exact H3.out.1
   ·obtain rfl:k=l.length:=by omega
    go_wp2_with fail
    go_end0
    refine ⟨⟨_,rfl⟩,v',?_,hFr.out⟩
    have:=hP'.out
    rw [HE.out,HO.out]
    rwa [List.take_length,List.append_assoc] at this
 ·have HE:=Lib.hid (show listE partE l=nB (l.length:Int) from by unfold listE;rw [if_neg hn,List.append_nil])
  have HO:=Lib.hid (show listO yes l=false from by unfold listO;rw [decide_eq_false hn,Bool.false_and])
  have hn0:¬ ((l.length:Int) < 0):=by omega
  have hn1:(1000:Int) < (l.length:Int):=by omega
  have pf:=hP1.1.frozen 2
  have po:w1.cell? ⟨gp,2,none⟩=some (.bool od):=hP1.1.cell 2
  have cf:w1.frozen? ⟨w.heap.size,0,none⟩=false:=(H0.out.1.fr hF1).f0 _ rfl
  have hgn:gp≠w.heap.size:=fun h=>H0.out.1.far.2.1 h.symm
  have hFn:Far gp v1 w1 w.heap.size:=hF1.far H0.out.1.far
  have hbn:b≠w.heap.size:=by have:=cell_lt ca;simp at this;omega
  have hbg:b≠gp:=H0.out.2.1.far.2.1
  have hPo:=PW.odd hP1 true
  have hFo:Fr gp v w v1 (w1.setCell ⟨gp,2,none⟩ (.bool true)):=hF01.set_ (.inl rfl) _
  have hPz:PW ((w1.setCell ⟨gp,2,none⟩ (.bool true)).setCell ⟨w.heap.size,0,none⟩ (.int .i64 0)) gp v1 (t ++ nB (l.length:Int)) true:=hPo.far (p:=⟨w.heap.size,0,none⟩) ⟨by simpa using hFn.1,hFn.2⟩ _
  have hFz:Fr gp v w v1 ((w1.setCell ⟨gp,2,none⟩ (.bool true)).setCell ⟨w.heap.size,0,none⟩ (.int .i64 0)):=hFo.set_ (.inr (Nat.le_refl _)) _
  have dn:((w1.setCell ⟨gp,2,none⟩ (.bool true)).setCell ⟨w.heap.size,0,none⟩ (.int .i64 0)).cell? ⟨w.heap.size,0,none⟩=some (.int .i64 0):=cell_set_new (by rw [cell_set_far (by simpa using hgn.symm)];exact cn)
  have dl:((w1.setCell ⟨gp,2,none⟩ (.bool true)).setCell ⟨w.heap.size,0,none⟩ (.int .i64 0)).cell? ⟨b,o,none⟩=some (.slice X l.length c):=by
   rw [World.cell?_of_block (Below.heap_setCell _ _ _ b (by simpa using hbn)),World.cell?_of_block (Below.heap_setCell _ _ _ b (by simpa using hbg))];exact cl
  have dp:((w1.setCell ⟨gp,2,none⟩ (.bool true)).setCell ⟨w.heap.size,0,none⟩ (.int .i64 0)).cell? ⟨gp,1,none⟩=some (.bool false):=hPz.1.cell 1
  have H1:=Lib.hid (And.intro hPz (And.intro hFz (And.intro dn (And.intro dl dp))))
  clear hPz hFz hPo hFo dn dl dp hP1 hF1 hF01 HC H0 ca hX1 hFn
  have hng:w.heap.size≠gp:=fun h=>hgn h.symm
  go_upto_region 5 with fail
  clear hgn hbn hbg cl p1 hng po
  generalize (w1.setCell ⟨gp,2,none⟩ (.bool true)).setCell ⟨w.heap.size,0,none⟩ (.int .i64 0)=w2 at *
  have cn2:=H1.out.2.2.1
  have cl2:=H1.out.2.2.2.1
  have p2:=H1.out.2.2.2.2
  clear cn cf pf
  go_wp2_with fail
  have kq0:=cell_regrown cn2
  have kq1:=cell_regrown cl2
  refine wp_region_quiet_below (by kernel_rfl) (by kernel_rfl) ?_
  repeat (go_big_quiet_step (first | fail))
  refine wpQuiet_nil ?_
  intro _ hw'
  obtain ⟨⟨dq,osq⟩,hw''⟩:=hw'
  subst hw''
  have hBq:=below_regrown w2 dq osq
  have hP2:=PW.up H1.out.1 hBq
  have hF2:=Fr.up H1.out.2.1 hBq
  clear kq0 kq1 cn2 cl2 p2 H1
  generalize grow (redrawn w2 dq) osq=w3 at *
  have H2:=Lib.hid (And.intro hP2 hF2)
  clear hP2 hF2 hBq
  go_wp2_with fail
  refine wp_loop_rounds 1 ?_
  rw [rounds_succ]
  go_wp2_with fail
  go_end0
  refine ⟨⟨_,rfl⟩,v1,?_,H2.out.2⟩
  rw [HE.out,HO.out,Bool.not_false,Bool.or_true]
  exact H2.out.1
end Go.Proofs.Ytfdldbfjeamlcaa.RecWListP
namespace Go.Proofs.Ytfdldbfjeamlcaa.RecWListE
set_option maxRecDepth 100000
set_option maxHeartbeats 4000000
open Go.RowKit Mem RecMem RecByte RecNum RecEach RecMath RecPort RecCmd RecCod RecCods RecCommand RecCmdJ RecVal RecSame RecOwn RecWAt RecWFlat RecWListI 
open Go.Sort (grow)
theorem wlistE (gp:Nat) (v:Value) (t:List Int) (od:Bool) (b o:Nat) (X:Option Addr) (c:Nat) (l:List EV) (hc:l.length≤c) (hm:l.length≤maxLen) (hw:∀ x ∈ l,EWf x) (hl:t.length+(listE keepE l).length≤800000000) (w:World) (hP:PW w gp v t od) (hA:WAt gp v w b o [.slice X l.length c]) (hX:SlcFar 9 eF gp v w X l) :
    Calls Try.prog 114 #[.pointer (some ⟨gp,0,none⟩),.pointer (some ⟨b,o,none⟩),.func (.func 115) #[.pointer (some ⟨gp,0,none⟩)] #[]] w fun e w' => WOut (listE keepE l) (listO yes l) gp v t od w e w':=by
 have hm2:l.length≤9223372036854775807:=hm
 have hlw:W64 (l.length:Int):=i64_mk (by omega)
 have hB1:Below w.heap.size w (w.alloc (.cells #[.int .i64 (l.length:Int)] 3)):=below_alloc (Below.refl _ _)
 have HC:=Lib.hid (wnumW gp v t od w.heap.size 0 (l.length:Int) hlw (by have h9:=hl;simp only [listE,List.length_append,nB_len] at h9;rw [nB_len];omega) (w.alloc (.cells #[.int .i64 (l.length:Int)] 3)) (hP.alloc _) (WAt.blk (Blk.new w 3 #[.int .i64 (l.length:Int)]) (hP.new _)))
 have H0:=Lib.hid (And.intro (WAt.blk (Blk.new w 3 #[.int .i64 (l.length:Int)]) (hP.new _)) (And.intro (hA.fr (fr_up hB1)) (And.intro (hX.fr eStaysF (fr_up hB1)) (fr_up (gp:=gp) (v:=v) hB1))))
 have ca:=hA.c0 _ rfl
 have HW:=Lib.hid hw
 have HLB:=Lib.hid hl
 clear hP hA hX hw hlw hB1 hl hm hm2
 go_enter Try.func114,Try.ntmps114
 go_wp2_with fail
 refine HC.out.mono ?_
 rintro e w1 ⟨⟨r,rfl⟩,v1,hP1,hF1⟩
 have hP1:=(show PW w1 gp v1 (t ++ nB (l.length:Int)) od from by simpa using hP1)
 have cn:w1.cell? ⟨w.heap.size,0,none⟩=some (.int .i64 (l.length:Int)):=(H0.out.1.fr hF1).c0 _ rfl
 have cl:w1.cell? ⟨b,o,none⟩=some (.slice X l.length c):=(H0.out.2.1.fr hF1).c0 _ rfl
 have p1:w1.cell? ⟨gp,1,none⟩=some (.bool false):=hP1.1.cell 1
 have hX1:=H0.out.2.2.1.fr eStaysF hF1
 have hF01:=H0.out.2.2.2.trans hF1
 by_cases hn:l.length≤1000
 ·have HE:=Lib.hid (show listE keepE l=nB (l.length:Int) ++ l.flatMap keepE from by unfold listE;rw [if_pos hn])
  have HO:=Lib.hid (show listO yes l=l.all yes from by unfold listO;rw [decide_eq_true hn,Bool.true_and])
  have H1:=Lib.hid (And.intro hP1 (And.intro hF01 hX1))
  have hn0:¬ ((l.length:Int) < 0):=by omega
  have hn1:¬ ((1000:Int) < (l.length:Int)):=by omega
  clear hP1 hF1 hF01 HC H0 ca hX1
  go_wp2_with fail
  have kq0:=cell_regrown cn
  have kq1:=cell_regrown cl
  refine wp_region_quiet_below (by kernel_rfl) (by kernel_rfl) ?_
  repeat (go_big_quiet_step (first | fail))
  refine wpQuiet_nil ?_
  intro _ hw'
  obtain ⟨⟨dq,osq⟩,hw''⟩:=hw'
  subst hw''
  have hBq:=below_regrown w1 dq osq
  clear kq0 kq1 cn cl p1
  have hP2:=PW.up H1.out.1 hBq
  have hF2:=Fr.up H1.out.2.1 hBq
  have hX2:=H1.out.2.2.fr eStaysF (Fr.up (Fr.refl gp v1 w1) hBq)
  generalize grow (redrawn w1 dq) osq=w2 at *
  have H2:=Lib.hid (And.intro hP2 (And.intro hF2 hX2))
  clear hP2 hF2 hX2 hBq H1
  go_wp2_with fail
  go_loopw [9,51] (fun _ i wr=>∃ (k:Nat) (v':Value),k≤l.length∧i = .int .i64 k∧Hid (PW wr gp v' (t ++ nB (l.length:Int) ++ (l.take k).flatMap keepE) (od || !((l.take k).all yes)))∧Hid (Fr gp v w v' wr)∧Hid (SlcFar 9 eF gp v' wr X l))
   (fun _ i _=>l.length - (intOf i).toNat)
  case atStart=>exact ⟨0,v1,Nat.zero_le _,rfl,by show PW w2 gp v1 (t ++ nB (l.length:Int) ++ []) (od || !true);rw [List.append_nil,Bool.not_true,Bool.or_false];exact H2.out.1,H2.out.2.1,H2.out.2.2⟩
  case round =>
   obtain ⟨k,v',hk,rfl,hP',hFr,hX'⟩:=hrel
   clear H2
   by_cases hlt:k < l.length
   ·have hg:l[k]? = some l[k]:=List.getElem?_eq_getElem hlt
    generalize l[k]=x at hg
    have hki:(k:Int) < (l.length:Int):=by omega
    have hki0:(0:Int)≤(k:Int):=by omega
    obtain ⟨yb,yo,cs,rfl,hyF,_,hyc,hyr⟩:=hX'.out k x hg
    obtain rfl:cs=(eL x):=hyr
    have hlen:(t ++ nB (l.length:Int) ++ (l.take k).flatMap keepE).length+(keepE x).length≤800000000:=by
     have h9:=HLB.out
     rw [HE.out,List.length_append] at h9
     have h8:=flat_take (enc:=keepE) hg
     simp only [List.length_append] at h8 h9 ⊢
     omega
    have HR:=Lib.hid hyc
    have hx:=box_full (W:=wr) 112 Sq.zzE (vs:=(eL x)) rfl
    have HFA:=Lib.hid (fr_up (gp:=gp) (v:=v') hx.2)
    have HC:=Lib.hid (wkeepW gp v' _ _ wr.heap.size 0 x (HW.out x (List.mem_of_getElem? hg)) hlen (World.setCells (wr.alloc (.cells Sq.zzE 112)) wr.heap.size 0 (eL x)) (PW.up hP'.out hx.2) (WAt.blk hx.1 (new_below hP'.out hx.2 hx.1.lt)))
    clear hx
    have HG:=Lib.hid hg
    clear hg hyF hlen hyc
    go_wp2_with (first | (refine wpList_load_mid rfl 112 _ rfl _ _ rfl _ _ HR.out Try.underlying112 rfl (by kernel_rfl) ?_) | (refine wpList_store_mid rfl 112 _ _ rfl wr.heap.size 0 (List.toArray (eL x)) rfl rfl (there_of (Blk.new _ 112 Sq.zzE) (Nat.le_of_ble_eq_true rfl)) (by kernel_rfl) (by kernel_rfl) ?_;simp only [List.toList_toArray];generalize World.setCells _ _ _ _=wz at *))
    refine HC.out.mono ?_
    rintro e w3 ⟨⟨r,rfl⟩,v3,hP3,hF3⟩
    have H3:=Lib.hid (And.intro hP3 (And.intro ((hFr.out.trans HFA.out).trans hF3) ((hX'.out.fr eStaysF HFA.out).fr eStaysF hF3)))
    clear hP3 hF3 HC
    go_wp2_with fail
    go_roundw
    case measure=>simp [intOf];omega
    refine ⟨k+1,v3,by omega,by go_num,?_,H3.out.2.1,H3.out.2.2⟩
    rw [take_snoc HG.out,List.flatMap_append,← List.append_assoc,List.all_append,show (List.flatMap keepE [x])=keepE x from by simp,show (List.all [x] yes)=yes x from by simp]
    rw [show (od || !((l.take k).all yes && yes x))=(od || !((l.take k).all yes) || !(yes x)) by cases od <;> cases (l.take k).all yes <;> cases yes x <;> rfl]
    exact H3.out.1
   ·obtain rfl:k=l.length:=by omega
    go_wp2_with fail
    go_end0
    refine ⟨⟨_,rfl⟩,v',?_,hFr.out⟩
    have:=hP'.out
    rw [HE.out,HO.out]
    rwa [List.take_length,List.append_assoc] at this
 ·have HE:=Lib.hid (show listE keepE l=nB (l.length:Int) from by unfold listE;rw [if_neg hn,List.append_nil])
  have HO:=Lib.hid (show listO yes l=false from by unfold listO;rw [decide_eq_false hn,Bool.false_and])
  have hn0:¬ ((l.length:Int) < 0):=by omega
  have hn1:(1000:Int) < (l.length:Int):=by omega
  have pf:=hP1.1.frozen 2
  have po:w1.cell? ⟨gp,2,none⟩=some (.bool od):=hP1.1.cell 2
  have cf:w1.frozen? ⟨w.heap.size,0,none⟩=false:=(H0.out.1.fr hF1).f0 _ rfl
  have hgn:gp≠w.heap.size:=fun h=>H0.out.1.far.2.1 h.symm
  have hFn:Far gp v1 w1 w.heap.size:=hF1.far H0.out.1.far
  have hbn:b≠w.heap.size:=by have:=cell_lt ca;simp at this;omega
  have hbg:b≠gp:=H0.out.2.1.far.2.1
  have hPo:=PW.odd hP1 true
  have hFo:Fr gp v w v1 (w1.setCell ⟨gp,2,none⟩ (.bool true)):=hF01.set_ (.inl rfl) _
  have hPz:PW ((w1.setCell ⟨gp,2,none⟩ (.bool true)).setCell ⟨w.heap.size,0,none⟩ (.int .i64 0)) gp v1 (t ++ nB (l.length:Int)) true:=hPo.far (p:=⟨w.heap.size,0,none⟩) ⟨by simpa using hFn.1,hFn.2⟩ _
  have hFz:Fr gp v w v1 ((w1.setCell ⟨gp,2,none⟩ (.bool true)).setCell ⟨w.heap.size,0,none⟩ (.int .i64 0)):=hFo.set_ (.inr (Nat.le_refl _)) _
  have dn:((w1.setCell ⟨gp,2,none⟩ (.bool true)).setCell ⟨w.heap.size,0,none⟩ (.int .i64 0)).cell? ⟨w.heap.size,0,none⟩=some (.int .i64 0):=cell_set_new (by rw [cell_set_far (by simpa using hgn.symm)];exact cn)
  have dl:((w1.setCell ⟨gp,2,none⟩ (.bool true)).setCell ⟨w.heap.size,0,none⟩ (.int .i64 0)).cell? ⟨b,o,none⟩=some (.slice X l.length c):=by
   rw [World.cell?_of_block (Below.heap_setCell _ _ _ b (by simpa using hbn)),World.cell?_of_block (Below.heap_setCell _ _ _ b (by simpa using hbg))];exact cl
  have dp:((w1.setCell ⟨gp,2,none⟩ (.bool true)).setCell ⟨w.heap.size,0,none⟩ (.int .i64 0)).cell? ⟨gp,1,none⟩=some (.bool false):=hPz.1.cell 1
  have H1:=Lib.hid (And.intro hPz (And.intro hFz (And.intro dn (And.intro dl dp))))
  clear hPz hFz hPo hFo dn dl dp hP1 hF1 hF01 HC H0 ca hX1 hFn
  have hng:w.heap.size≠gp:=fun h=>hgn h.symm
  go_upto_region 5 with fail
  clear hgn hbn hbg cl p1 hng po
  generalize (w1.setCell ⟨gp,2,none⟩ (.bool true)).setCell ⟨w.heap.size,0,none⟩ (.int .i64 0)=w2 at *
  have cn2:=H1.out.2.2.1
  have cl2:=H1.out.2.2.2.1
  have p2:=H1.out.2.2.2.2
  clear cn cf pf
  go_wp2_with fail
  have kq0:=cell_regrown cn2
  have kq1:=cell_regrown cl2
  refine wp_region_quiet_below (by kernel_rfl) (by kernel_rfl) ?_
  repeat (go_big_quiet_step (first | fail))
  refine wpQuiet_nil ?_
  intro _ hw'
  obtain ⟨⟨dq,osq⟩,hw''⟩:=hw'
  subst hw''
  have hBq:=below_regrown w2 dq osq
  have hP2:=PW.up H1.out.1 hBq
  have hF2:=Fr.up H1.out.2.1 hBq
  clear kq0 kq1 cn2 cl2 p2 H1
  generalize grow (redrawn w2 dq) osq=w3 at *
  have H2:=Lib.hid (And.intro hP2 hF2)
  clear hP2 hF2 hBq
  go_wp2_with fail
  refine wp_loop_rounds 1 ?_
  rw [rounds_succ]
  go_wp2_with fail
  go_end0
  refine ⟨⟨_,rfl⟩,v1,?_,H2.out.2⟩
  rw [HE.out,HO.out,Bool.not_false,Bool.or_true]
  exact H2.out.1
end Go.Proofs.Ytfdldbfjeamlcaa.RecWListE
namespace Go.Proofs.Ytfdldbfjeamlcaa.RecWJob
set_option maxRecDepth 100000
set_option maxHeartbeats 4000000
open Go.RowKit Mem RecMem RecByte RecNum RecEach RecMath RecPort RecCmd RecCod RecCods RecCommand RecCmdJ RecVal RecSame RecOwn RecWAt RecWFlat RecWListI
theorem wat_eq {gp b o o2:Nat} {v:Value} {w:World} {L:List Value} (h:o=o2) (k:WAt gp v w b o L):WAt gp v w b o2 L:=h ▸ k
theorem waskW (gp:Nat) (v:Value) (t:List Int) (od:Bool) (b o:Nat) (x:QV) (Y:Option Addr) (cy:Nat) (hw:QWf x) (hcy:x.af.length≤cy) (hcm:x.af.length≤maxLen) (hl:t.length+(askE x).length≤800000000) (w:World) (hP:PW w gp v t od) (hA:WAt gp v w b (o+1) [.int .i64 x.us,.int .i64 x.cl,.int .i64 x.a,.int .i64 x.b,.int .i64 x.c,.bool x.p,.bool x.q,.bool x.r,.bool x.tn,.int .i64 x.wa,.int .i64 x.pr,.bool x.he,.slice Y x.af.length cy]) (hX:SlcFar 1 iF gp v w Y x.af) :
    Calls Try.prog 103 #[.pointer (some ⟨gp,0,none⟩),.pointer (some ⟨b,o,none⟩)] w fun e w' => WOut (askE x) (askO x) gp v t od w e w':=by
 have HM0:=Lib.hid (WMid.refl hP)
 have HA0:=Lib.hid hA
 simp only [askE] at hl
 have HLB:=Lib.hid hl
 have HW:=Lib.hid hw
 have HX0:=Lib.hid hX
 have HY:=Lib.hid (And.intro hcy hcm)
 clear hP hA hl hw hX hcy hcm
 go_enter Try.func103,Try.ntmps103
 have HC1:=Lib.hid (wnumW gp _ _ _ b (o+1) x.us HW.out.1 (by have h9:=HLB.out;simp only [List.length_append,List.length_nil,List.length_cons,nB_len,numsB_len,wantsE_len,placeE_len] at h9 ⊢;omega)  _ HM0.out.1 (wat_eq (by omega) (HA0.out.sub 0 1 (M:=[.int .i64 x.us]) rfl)))
 go_wp2_with fail
 refine HC1.out.mono ?_
 intro e w1 hj
 obtain ⟨⟨r1,rfl⟩,v1,hM,hf⟩:=WMid.next HM0.out hj
 have HM1:=Lib.hid hM
 have HA1:=Lib.hid (HA0.out.fr hf)
 have HX1:=Lib.hid (HX0.out.fr iStaysF hf)
 clear HX0
 clear hj hM hf HC1 HM0 HA0
 have HC2:=Lib.hid (wnumW gp _ _ _ b (o+2) x.cl HW.out.2.1 (by have h9:=HLB.out;simp only [List.length_append,List.length_nil,List.length_cons,nB_len,numsB_len,wantsE_len,placeE_len] at h9 ⊢;omega)  _ HM1.out.1 (wat_eq (by omega) (HA1.out.sub 1 1 (M:=[.int .i64 x.cl]) rfl)))
 go_wp2_with fail
 refine HC2.out.mono ?_
 intro e w2 hj
 obtain ⟨⟨r2,rfl⟩,v2,hM,hf⟩:=WMid.next HM1.out hj
 have HM2:=Lib.hid hM
 have HA2:=Lib.hid (HA1.out.fr hf)
 have HX2:=Lib.hid (HX1.out.fr iStaysF hf)
 clear HX1
 clear hj hM hf HC2 HM1 HA1
 have HC3:=Lib.hid (wwantsW gp _ _ _ b (o+3) x HW.out (by have h9:=HLB.out;simp only [List.length_append,List.length_nil,List.length_cons,nB_len,numsB_len,wantsE_len,placeE_len] at h9 ⊢;omega)  _ HM2.out.1 (wat_eq (by omega) (HA2.out.sub 2 7 (M:=[.int .i64 x.a,.int .i64 x.b,.int .i64 x.c,.bool x.p,.bool x.q,.bool x.r,.bool x.tn]) rfl)))
 go_wp2_with fail
 refine HC3.out.mono ?_
 intro e w3 hj
 obtain ⟨⟨r3,rfl⟩,v3,hM,hf⟩:=WMid.next HM2.out hj
 have HM3:=Lib.hid hM
 have HA3:=Lib.hid (HA2.out.fr hf)
 have HX3:=Lib.hid (HX2.out.fr iStaysF hf)
 clear HX2
 clear hj hM hf HC3 HM2 HA2
 have HC4:=Lib.hid (wnumW gp _ _ _ b (o+10) x.wa HW.out.2.2.2.2.2.1 (by have h9:=HLB.out;simp only [List.length_append,List.length_nil,List.length_cons,nB_len,numsB_len,wantsE_len,placeE_len] at h9 ⊢;omega)  _ HM3.out.1 (wat_eq (by omega) (HA3.out.sub 9 1 (M:=[.int .i64 x.wa]) rfl)))
 go_wp2_with fail
 refine HC4.out.mono ?_
 intro e w4 hj
 obtain ⟨⟨r4,rfl⟩,v4,hM,hf⟩:=WMid.next HM3.out hj
 have HM4:=Lib.hid hM
 have HA4:=Lib.hid (HA3.out.fr hf)
 have HX4:=Lib.hid (HX3.out.fr iStaysF hf)
 clear HX3
 clear hj hM hf HC4 HM3 HA3
 have HC5:=Lib.hid (wnumW gp _ _ _ b (o+11) x.pr HW.out.2.2.2.2.2.2.1 (by have h9:=HLB.out;simp only [List.length_append,List.length_nil,List.length_cons,nB_len,numsB_len,wantsE_len,placeE_len] at h9 ⊢;omega)  _ HM4.out.1 (wat_eq (by omega) (HA4.out.sub 10 1 (M:=[.int .i64 x.pr]) rfl)))
 go_wp2_with fail
 refine HC5.out.mono ?_
 intro e w5 hj
 obtain ⟨⟨r5,rfl⟩,v5,hM,hf⟩:=WMid.next HM4.out hj
 have HM5:=Lib.hid hM
 have HA5:=Lib.hid (HA4.out.fr hf)
 have HX5:=Lib.hid (HX4.out.fr iStaysF hf)
 clear HX4
 clear hj hM hf HC5 HM4 HA4
 have HC6:=Lib.hid (wtruthW gp _ _ _ b (o+12) x.he  (by have h9:=HLB.out;simp only [List.length_append,List.length_nil,List.length_cons,nB_len,numsB_len,wantsE_len,placeE_len] at h9 ⊢;omega)  _ HM5.out.1 (wat_eq (by omega) (HA5.out.sub 11 1 (M:=[.bool x.he]) rfl)))
 go_wp2_with fail
 refine HC6.out.mono ?_
 intro e w6 hj
 obtain ⟨⟨r6,rfl⟩,v6,hM,hf⟩:=WMid.next HM5.out hj
 have HM6:=Lib.hid hM
 have HA6:=Lib.hid (HA5.out.fr hf)
 have HX6:=Lib.hid (HX5.out.fr iStaysF hf)
 clear HX5
 clear hj hM hf HC6 HM5 HA5
 have HC7:=Lib.hid (wlistI gp _ _ _ b (o+13) Y cy x.af HY.out.1 HY.out.2 HW.out.2.2.2.2.2.2.2 (by have h9:=HLB.out;simp only [List.length_append,List.length_nil,List.length_cons,nB_len,numsB_len,wantsE_len,placeE_len] at h9 ⊢;omega)  _ HM6.out.1 (wat_eq (by omega) (HA6.out.sub 12 1 (M:=[.slice Y x.af.length cy]) rfl)) HX6.out)
 go_wp2_with fail
 refine HC7.out.mono ?_
 intro e w7 hj
 obtain ⟨⟨r7,rfl⟩,v7,hM,hf⟩:=WMid.next HM6.out hj
 have HM7:=Lib.hid hM
 have HA7:=Lib.hid (HA6.out.fr hf)
 have HX7:=Lib.hid (HX6.out.fr iStaysF hf)
 clear HX6
 clear hj hM hf HC7 HM6 HA6
 go_wp2_with fail
 go_end0
 exact WMid.out HM7.out (by simp only [askE,List.nil_append]) (by simp only [askO,Bool.true_and,Bool.and_true]) _
theorem wjobW (gp:Nat) (v:Value) (t:List Int) (od:Bool) (b o:Nat) (x:JV) (Y:Option Addr) (cy:Nat) (hw:JWf x) (hcy:x.q.af.length≤cy) (hcm:x.q.af.length≤maxLen) (hl:t.length+(jobE x).length≤800000000) (w:World) (hP:PW w gp v t od) (hA:WAt gp v w b o (jL x Y cy)) (hX:SlcFar 1 iF gp v w Y x.q.af) :
    Calls Try.prog 111 #[.pointer (some ⟨gp,0,none⟩),.pointer (some ⟨b,o,none⟩)] w fun e w' => WOut (jobE x) (jobO x) gp v t od w e w':=by
 have HM0:=Lib.hid (WMid.refl hP)
 have HA0:=Lib.hid hA
 simp only [jobE] at hl
 have HLB:=Lib.hid hl
 have HW:=Lib.hid hw
 have HX0:=Lib.hid hX
 have HY:=Lib.hid (And.intro hcy hcm)
 clear hP hA hl hw hX hcy hcm
 go_enter Try.func111,Try.ntmps111
 have HC1:=Lib.hid (wnumW gp _ _ _ b o x.id HW.out.1 (by have h9:=HLB.out;simp only [List.length_append,List.length_nil,List.length_cons,nB_len,numsB_len,wantsE_len,placeE_len] at h9 ⊢;omega)  _ HM0.out.1 (HA0.out.first 1 (M:=[.int .i64 x.id]) rfl))
 go_wp2_with fail
 refine HC1.out.mono ?_
 intro e w1 hj
 obtain ⟨⟨r1,rfl⟩,v1,hM,hf⟩:=WMid.next HM0.out hj
 have HM1:=Lib.hid hM
 have HA1:=Lib.hid (HA0.out.fr hf)
 have HX1:=Lib.hid (HX0.out.fr iStaysF hf)
 clear HX0
 clear hj hM hf HC1 HM0 HA0
 have HC2:=Lib.hid (waskW gp _ _ _ b o x.q Y cy HW.out.2.1 HY.out.1 HY.out.2 (by have h9:=HLB.out;simp only [List.length_append,List.length_nil,List.length_cons,nB_len,numsB_len,wantsE_len,placeE_len] at h9 ⊢;omega)  _ HM1.out.1 (HA1.out.sub 1 13 (M:=[.int .i64 x.q.us,.int .i64 x.q.cl,.int .i64 x.q.a,.int .i64 x.q.b,.int .i64 x.q.c,.bool x.q.p,.bool x.q.q,.bool x.q.r,.bool x.q.tn,.int .i64 x.q.wa,.int .i64 x.q.pr,.bool x.q.he,.slice Y x.q.af.length cy]) rfl) HX1.out)
 go_wp2_with fail
 refine HC2.out.mono ?_
 intro e w2 hj
 obtain ⟨⟨r2,rfl⟩,v2,hM,hf⟩:=WMid.next HM1.out hj
 have HM2:=Lib.hid hM
 have HA2:=Lib.hid (HA1.out.fr hf)
 have HX2:=Lib.hid (HX1.out.fr iStaysF hf)
 clear HX1
 clear hj hM hf HC2 HM1 HA1
 have HC3:=Lib.hid (wbyteW gp _ _ _ b (o+14) x.st  (by have h9:=HLB.out;simp only [List.length_append,List.length_nil,List.length_cons,nB_len,numsB_len,wantsE_len,placeE_len] at h9 ⊢;omega)  _ HM2.out.1 (HA2.out.sub 14 1 (M:=[.int .u8 x.st]) rfl))
 go_wp2_with fail
 refine HC3.out.mono ?_
 intro e w3 hj
 obtain ⟨⟨r3,rfl⟩,v3,hM,hf⟩:=WMid.next HM2.out hj
 have HM3:=Lib.hid hM
 have HA3:=Lib.hid (HA2.out.fr hf)
 have HX3:=Lib.hid (HX2.out.fr iStaysF hf)
 clear HX2
 clear hj hM hf HC3 HM2 HA2
 have HC4:=Lib.hid (wnumW gp _ _ _ b (o+15) x.ca HW.out.2.2.2 (by have h9:=HLB.out;simp only [List.length_append,List.length_nil,List.length_cons,nB_len,numsB_len,wantsE_len,placeE_len] at h9 ⊢;omega)  _ HM3.out.1 (HA3.out.sub 15 1 (M:=[.int .i64 x.ca]) rfl))
 go_wp2_with fail
 refine HC4.out.mono ?_
 intro e w4 hj
 obtain ⟨⟨r4,rfl⟩,v4,hM,hf⟩:=WMid.next HM3.out hj
 have HM4:=Lib.hid hM
 have HA4:=Lib.hid (HA3.out.fr hf)
 have HX4:=Lib.hid (HX3.out.fr iStaysF hf)
 clear HX3
 clear hj hM hf HC4 HM3 HA3
 go_wp2_with fail
 go_end0
 exact WMid.out HM4.out (by simp only [jobE,List.nil_append]) (by simp only [jobO,Bool.true_and,Bool.and_true]) _
end Go.Proofs.Ytfdldbfjeamlcaa.RecWJob
namespace Go.Proofs.Ytfdldbfjeamlcaa.RecWListJ
set_option maxRecDepth 100000
set_option maxHeartbeats 4000000
open Go.RowKit Mem RecMem RecByte RecNum RecEach RecMath RecPort RecCmd RecCod RecCods RecCommand RecCmdJ RecVal RecSame RecOwn RecWAt RecWFlat RecWListI RecWJob 
open Go.Sort (grow)
theorem wlistJ (gp:Nat) (v:Value) (t:List Int) (od:Bool) (b o:Nat) (X:Option Addr) (c:Nat) (l:List JV) (hc:l.length≤c) (hm:l.length≤maxLen) (hw:∀ x ∈ l,JWf x) (hl:t.length+(listE jobE l).length≤800000000) (w:World) (hP:PW w gp v t od) (hA:WAt gp v w b o [.slice X l.length c]) (hX:SlcFar 16 jF gp v w X l) :
    Calls Try.prog 110 #[.pointer (some ⟨gp,0,none⟩),.pointer (some ⟨b,o,none⟩),.func (.func 111) #[.pointer (some ⟨gp,0,none⟩)] #[]] w fun e w' => WOut (listE jobE l) (listO jobO l) gp v t od w e w':=by
 have hm2:l.length≤9223372036854775807:=hm
 have hlw:W64 (l.length:Int):=i64_mk (by omega)
 have hB1:Below w.heap.size w (w.alloc (.cells #[.int .i64 (l.length:Int)] 3)):=below_alloc (Below.refl _ _)
 have HC:=Lib.hid (wnumW gp v t od w.heap.size 0 (l.length:Int) hlw (by have h9:=hl;simp only [listE,List.length_append,nB_len] at h9;rw [nB_len];omega) (w.alloc (.cells #[.int .i64 (l.length:Int)] 3)) (hP.alloc _) (WAt.blk (Blk.new w 3 #[.int .i64 (l.length:Int)]) (hP.new _)))
 have H0:=Lib.hid (And.intro (WAt.blk (Blk.new w 3 #[.int .i64 (l.length:Int)]) (hP.new _)) (And.intro (hA.fr (fr_up hB1)) (And.intro (hX.fr jStaysF (fr_up hB1)) (fr_up (gp:=gp) (v:=v) hB1))))
 have ca:=hA.c0 _ rfl
 have HW:=Lib.hid hw
 have HLB:=Lib.hid hl
 clear hP hA hX hw hlw hB1 hl hm hm2
 go_enter Try.func110,Try.ntmps110
 go_wp2_with fail
 refine HC.out.mono ?_
 rintro e w1 ⟨⟨r,rfl⟩,v1,hP1,hF1⟩
 have hP1:=(show PW w1 gp v1 (t ++ nB (l.length:Int)) od from by simpa using hP1)
 have cn:w1.cell? ⟨w.heap.size,0,none⟩=some (.int .i64 (l.length:Int)):=(H0.out.1.fr hF1).c0 _ rfl
 have cl:w1.cell? ⟨b,o,none⟩=some (.slice X l.length c):=(H0.out.2.1.fr hF1).c0 _ rfl
 have p1:w1.cell? ⟨gp,1,none⟩=some (.bool false):=hP1.1.cell 1
 have hX1:=H0.out.2.2.1.fr jStaysF hF1
 have hF01:=H0.out.2.2.2.trans hF1
 by_cases hn:l.length≤1000
 ·have HE:=Lib.hid (show listE jobE l=nB (l.length:Int) ++ l.flatMap jobE from by unfold listE;rw [if_pos hn])
  have HO:=Lib.hid (show listO jobO l=l.all jobO from by unfold listO;rw [decide_eq_true hn,Bool.true_and])
  have H1:=Lib.hid (And.intro hP1 (And.intro hF01 hX1))
  have hn0:¬ ((l.length:Int) < 0):=by omega
  have hn1:¬ ((1000:Int) < (l.length:Int)):=by omega
  clear hP1 hF1 hF01 HC H0 ca hX1
  go_wp2_with fail
  have kq0:=cell_regrown cn
  have kq1:=cell_regrown cl
  refine wp_region_quiet_below (by kernel_rfl) (by kernel_rfl) ?_
  repeat (go_big_quiet_step (first | fail))
  refine wpQuiet_nil ?_
  intro _ hw'
  obtain ⟨⟨dq,osq⟩,hw''⟩:=hw'
  subst hw''
  have hBq:=below_regrown w1 dq osq
  clear kq0 kq1 cn cl p1
  have hP2:=PW.up H1.out.1 hBq
  have hF2:=Fr.up H1.out.2.1 hBq
  have hX2:=H1.out.2.2.fr jStaysF (Fr.up (Fr.refl gp v1 w1) hBq)
  generalize grow (redrawn w1 dq) osq=w2 at *
  have H2:=Lib.hid (And.intro hP2 (And.intro hF2 hX2))
  clear hP2 hF2 hX2 hBq H1
  go_wp2_with fail
  go_loopw [9,51] (fun _ i wr=>∃ (k:Nat) (v':Value),k≤l.length∧i = .int .i64 k∧Hid (PW wr gp v' (t ++ nB (l.length:Int) ++ (l.take k).flatMap jobE) (od || !((l.take k).all jobO)))∧Hid (Fr gp v w v' wr)∧Hid (SlcFar 16 jF gp v' wr X l))
   (fun _ i _=>l.length - (intOf i).toNat)
  case atStart=>exact ⟨0,v1,Nat.zero_le _,rfl,by show PW w2 gp v1 (t ++ nB (l.length:Int) ++ []) (od || !true);rw [List.append_nil,Bool.not_true,Bool.or_false];exact H2.out.1,H2.out.2.1,H2.out.2.2⟩
  case round =>
   obtain ⟨k,v',hk,rfl,hP',hFr,hX'⟩:=hrel
   clear H2
   by_cases hlt:k < l.length
   ·have hg:l[k]? = some l[k]:=List.getElem?_eq_getElem hlt
    generalize l[k]=x at hg
    have hki:(k:Int) < (l.length:Int):=by omega
    have hki0:(0:Int)≤(k:Int):=by omega
    obtain ⟨yb,yo,cs,rfl,hyF,_,hyc,hyr⟩:=hX'.out k x hg
    obtain ⟨Y,cy,rfl,h91,h92,hX9⟩:=hyr
    have hlen:(t ++ nB (l.length:Int) ++ (l.take k).flatMap jobE).length+(jobE x).length≤800000000:=by
     have h9:=HLB.out
     rw [HE.out,List.length_append] at h9
     have h8:=flat_take (enc:=jobE) hg
     simp only [List.length_append] at h8 h9 ⊢
     omega
    have HR:=Lib.hid hyc
    have hx:=box_full (W:=wr) 28 Sq.zzJ (vs:=(jL x Y cy)) rfl
    have HFA:=Lib.hid (fr_up (gp:=gp) (v:=v') hx.2)
    have HC:=Lib.hid (wjobW gp v' _ _ wr.heap.size 0 x Y cy (HW.out x (List.mem_of_getElem? hg)) h91 h92 hlen (World.setCells (wr.alloc (.cells Sq.zzJ 28)) wr.heap.size 0 (jL x Y cy)) (PW.up hP'.out hx.2) (WAt.blk hx.1 (new_below hP'.out hx.2 hx.1.lt)) (hX9.fr iStaysF HFA.out))
    clear hx
    have HG:=Lib.hid hg
    clear hg hyF hlen hyc
    go_wp2_with (first | (refine wpList_load_mid rfl 28 _ rfl _ _ rfl _ _ HR.out Try.underlying28 rfl (by kernel_rfl) ?_) | (refine wpList_store_mid rfl 28 _ _ rfl wr.heap.size 0 (List.toArray (jL x Y cy)) rfl rfl (there_of (Blk.new _ 28 Sq.zzJ) (Nat.le_of_ble_eq_true rfl)) (by kernel_rfl) (by kernel_rfl) ?_;simp only [List.toList_toArray];generalize World.setCells _ _ _ _=wz at *))
    refine HC.out.mono ?_
    rintro e w3 ⟨⟨r,rfl⟩,v3,hP3,hF3⟩
    have H3:=Lib.hid (And.intro hP3 (And.intro ((hFr.out.trans HFA.out).trans hF3) ((hX'.out.fr jStaysF HFA.out).fr jStaysF hF3)))
    clear hP3 hF3 HC
    go_wp2_with fail
    go_roundw
    case measure=>simp [intOf];omega
    refine ⟨k+1,v3,by omega,by go_num,?_,H3.out.2.1,H3.out.2.2⟩
    rw [take_snoc HG.out,List.flatMap_append,← List.append_assoc,List.all_append,show (List.flatMap jobE [x])=jobE x from by simp,show (List.all [x] jobO)=jobO x from by simp]
    rw [show (od || !((l.take k).all jobO && jobO x))=(od || !((l.take k).all jobO) || !(jobO x)) by cases od <;> cases (l.take k).all jobO <;> cases jobO x <;> rfl]
    exact H3.out.1
   ·obtain rfl:k=l.length:=by omega
    go_wp2_with fail
    go_end0
    refine ⟨⟨_,rfl⟩,v',?_,hFr.out⟩
    have:=hP'.out
    rw [HE.out,HO.out]
    rwa [List.take_length,List.append_assoc] at this
 ·have HE:=Lib.hid (show listE jobE l=nB (l.length:Int) from by unfold listE;rw [if_neg hn,List.append_nil])
  have HO:=Lib.hid (show listO jobO l=false from by unfold listO;rw [decide_eq_false hn,Bool.false_and])
  have hn0:¬ ((l.length:Int) < 0):=by omega
  have hn1:(1000:Int) < (l.length:Int):=by omega
  have pf:=hP1.1.frozen 2
  have po:w1.cell? ⟨gp,2,none⟩=some (.bool od):=hP1.1.cell 2
  have cf:w1.frozen? ⟨w.heap.size,0,none⟩=false:=(H0.out.1.fr hF1).f0 _ rfl
  have hgn:gp≠w.heap.size:=fun h=>H0.out.1.far.2.1 h.symm
  have hFn:Far gp v1 w1 w.heap.size:=hF1.far H0.out.1.far
  have hbn:b≠w.heap.size:=by have:=cell_lt ca;simp at this;omega
  have hbg:b≠gp:=H0.out.2.1.far.2.1
  have hPo:=PW.odd hP1 true
  have hFo:Fr gp v w v1 (w1.setCell ⟨gp,2,none⟩ (.bool true)):=hF01.set_ (.inl rfl) _
  have hPz:PW ((w1.setCell ⟨gp,2,none⟩ (.bool true)).setCell ⟨w.heap.size,0,none⟩ (.int .i64 0)) gp v1 (t ++ nB (l.length:Int)) true:=hPo.far (p:=⟨w.heap.size,0,none⟩) ⟨by simpa using hFn.1,hFn.2⟩ _
  have hFz:Fr gp v w v1 ((w1.setCell ⟨gp,2,none⟩ (.bool true)).setCell ⟨w.heap.size,0,none⟩ (.int .i64 0)):=hFo.set_ (.inr (Nat.le_refl _)) _
  have dn:((w1.setCell ⟨gp,2,none⟩ (.bool true)).setCell ⟨w.heap.size,0,none⟩ (.int .i64 0)).cell? ⟨w.heap.size,0,none⟩=some (.int .i64 0):=cell_set_new (by rw [cell_set_far (by simpa using hgn.symm)];exact cn)
  have dl:((w1.setCell ⟨gp,2,none⟩ (.bool true)).setCell ⟨w.heap.size,0,none⟩ (.int .i64 0)).cell? ⟨b,o,none⟩=some (.slice X l.length c):=by
   rw [World.cell?_of_block (Below.heap_setCell _ _ _ b (by simpa using hbn)),World.cell?_of_block (Below.heap_setCell _ _ _ b (by simpa using hbg))];exact cl
  have dp:((w1.setCell ⟨gp,2,none⟩ (.bool true)).setCell ⟨w.heap.size,0,none⟩ (.int .i64 0)).cell? ⟨gp,1,none⟩=some (.bool false):=hPz.1.cell 1
  have H1:=Lib.hid (And.intro hPz (And.intro hFz (And.intro dn (And.intro dl dp))))
  clear hPz hFz hPo hFo dn dl dp hP1 hF1 hF01 HC H0 ca hX1 hFn
  have hng:w.heap.size≠gp:=fun h=>hgn h.symm
  go_upto_region 5 with fail
  clear hgn hbn hbg cl p1 hng po
  generalize (w1.setCell ⟨gp,2,none⟩ (.bool true)).setCell ⟨w.heap.size,0,none⟩ (.int .i64 0)=w2 at *
  have cn2:=H1.out.2.2.1
  have cl2:=H1.out.2.2.2.1
  have p2:=H1.out.2.2.2.2
  clear cn cf pf
  go_wp2_with fail
  have kq0:=cell_regrown cn2
  have kq1:=cell_regrown cl2
  refine wp_region_quiet_below (by kernel_rfl) (by kernel_rfl) ?_
  repeat (go_big_quiet_step (first | fail))
  refine wpQuiet_nil ?_
  intro _ hw'
  obtain ⟨⟨dq,osq⟩,hw''⟩:=hw'
  subst hw''
  have hBq:=below_regrown w2 dq osq
  have hP2:=PW.up H1.out.1 hBq
  have hF2:=Fr.up H1.out.2.1 hBq
  clear kq0 kq1 cn2 cl2 p2 H1
  generalize grow (redrawn w2 dq) osq=w3 at *
  have H2:=Lib.hid (And.intro hP2 hF2)
  clear hP2 hF2 hBq
  go_wp2_with fail
  refine wp_loop_rounds 1 ?_
  rw [rounds_succ]
  go_wp2_with fail
  go_end0
  refine ⟨⟨_,rfl⟩,v1,?_,H2.out.2⟩
  rw [HE.out,HO.out,Bool.not_false,Bool.or_true]
  exact H2.out.1
end Go.Proofs.Ytfdldbfjeamlcaa.RecWListJ
namespace Go.Proofs.Ytfdldbfjeamlcaa.RecWState
set_option maxRecDepth 100000
set_option maxHeartbeats 4000000
open Go.RowKit Mem RecMem RecByte RecNum RecEach RecMath RecPort RecCmd RecCod RecCods RecCommand RecCmdJ RecVal RecSame RecOwn RecWAt RecWFlat RecWListI RecWCls RecWJob RecWListK RecWListP RecWListE RecWListJ
structure StCap (s:SV) (x:SA):Prop where
 C:s.cs.length≤x.cc
 J:s.js.length≤x.cj
 P:s.ps.length≤x.cp
 K:s.ks.length≤x.ck
 D:s.dn.length≤x.cd
 S:s.sh.length≤x.cs
 U:s.cu.length≤x.cu
theorem cap_of {w:World} {s:SV} {x:SA} (h:StAt w s x):StCap s x:=⟨h.cc,h.cj,h.cp,h.ck,h.cd,h.cs,h.cu⟩
theorem wstateW (gp:Nat) (v:Value) (t:List Int) (od:Bool) (b o:Nat) (s:SV) (x:SA) (hw:SWf s) (ht:StTop s) (hcp:StCap s x) (hl:t.length≤100000000) (w:World) (hP:PW w gp v t od) (hA:WAt gp v w b o (sL s x)) (hX:StFar gp v w s x) :
    Calls Try.prog 76 #[.pointer (some ⟨gp,0,none⟩),.pointer (some ⟨b,o,none⟩)] w fun e w' => WOut (stateE s) (stateO s) gp v t od w e w':=by
 have HM0:=Lib.hid (WMid.refl hP)
 have HA0:=Lib.hid hA
 have hlb:t.length+(stateE s).length≤800000000:=by have:=stateE_len s;omega
 simp only [stateE] at hlb
 have HLB:=Lib.hid hlb
 have HW:=Lib.hid hw
 have HT:=Lib.hid ht
 have HCp:=Lib.hid hcp
 have HX0:=Lib.hid hX
 clear hP hA hl hw ht hcp hX hlb
 go_enter Try.func76,Try.ntmps76
 have HC1:=Lib.hid (wn3W gp _ _ _ b o s.d0 s.d1 s.d2 HW.out.1.1 HW.out.1.2.1 HW.out.1.2.2.1 (by have h9:=HLB.out;simp only [List.length_append,List.length_nil,List.length_cons,nB_len,numsB_len,wantsE_len,placeE_len] at h9 ⊢;omega)  _ HM0.out.1 (HA0.out.first 3 (M:=[.int .i64 s.d0,.int .i64 s.d1,.int .i64 s.d2]) rfl))
 go_wp2_with fail
 refine HC1.out.mono ?_
 intro e w1 hj
 obtain ⟨⟨r1,rfl⟩,v1,hM,hf⟩:=WMid.next HM0.out hj
 have HM1:=Lib.hid hM
 have HA1:=Lib.hid (HA0.out.fr hf)
 have HX1:=Lib.hid (HX0.out.fr hf)
 clear HX0
 clear hj hM hf HC1 HM0 HA0
 go_wp2_with fail
 go_region
 have hBB:Below w1.heap.size w1 (World.drew (w1.alloc (.cells #[.pointer (some ⟨b,o+3,none⟩),.pointer (some ⟨b,o+4,none⟩),.pointer (some ⟨b,o+5,none⟩),.pointer (some ⟨b,o+6,none⟩)] 147))):=(below_alloc (Below.refl _ _)).drew
 obtain ⟨kq1,hkq⟩:∃ n,n=w1.heap.size:=⟨_,rfl⟩
 have HQ1:=Lib.hid (show WAt gp v1 (World.drew (w1.alloc (.cells #[.pointer (some ⟨b,o+3,none⟩),.pointer (some ⟨b,o+4,none⟩),.pointer (some ⟨b,o+5,none⟩),.pointer (some ⟨b,o+6,none⟩)] 147))) w1.heap.size 0 [.pointer (some ⟨b,o+3,none⟩),.pointer (some ⟨b,o+4,none⟩),.pointer (some ⟨b,o+5,none⟩),.pointer (some ⟨b,o+6,none⟩)] from WAt.blk (Blk.new w1 147 #[.pointer (some ⟨b,o+3,none⟩),.pointer (some ⟨b,o+4,none⟩),.pointer (some ⟨b,o+5,none⟩),.pointer (some ⟨b,o+6,none⟩)]).drew (HM1.out.1.new (.cells #[.pointer (some ⟨b,o+3,none⟩),.pointer (some ⟨b,o+4,none⟩),.pointer (some ⟨b,o+5,none⟩),.pointer (some ⟨b,o+6,none⟩)] 147)))
 have HMb:=Lib.hid (WMid.up HM1.out hBB)
 have HAb:=Lib.hid (HA1.out.fr (fr_up hBB))
 have HXb:=Lib.hid (HX1.out.fr (fr_up hBB))
 clear HM1 HA1 HX1 hBB
 rw [← hkq] at HQ1
 generalize hwq:World.drew (w1.alloc (.cells #[.pointer (some ⟨b,o+3,none⟩),.pointer (some ⟨b,o+4,none⟩),.pointer (some ⟨b,o+5,none⟩),.pointer (some ⟨b,o+6,none⟩)] 147))=w1b at HMb HAb HXb HQ1 ⊢
 rw [← hkq]
 clear hkq hwq
 have HM1:=Lib.hid HMb.out
 have HA1:=Lib.hid HAb.out
 have HX1:=Lib.hid HXb.out
 clear HMb HAb HXb
 have q1:w1b.cell? ⟨kq1,0,none⟩=some (.pointer (some ⟨b,o+3,none⟩)):=by have:=HQ1.out.c 0 _ rfl;rwa [Nat.zero_add] at this
 have HC2:=Lib.hid (wnumW gp _ _ _ b (o+3) s.bo HW.out.1.2.2.2.1 (by have h9:=HLB.out;simp only [List.length_append,List.length_nil,List.length_cons,nB_len,numsB_len,wantsE_len,placeE_len] at h9 ⊢;omega)  _ HM1.out.1 (HA1.out.sub 3 1 (M:=[.int .i64 s.bo]) rfl))
 go_wp2_with fail
 refine wp_loop_rounds 5 ?_
 rw [rounds_succ]
 go_wp2_with fail
 refine HC2.out.mono ?_
 intro e w2 hj
 obtain ⟨⟨r2,rfl⟩,v2,hM,hf⟩:=WMid.next HM1.out hj
 have HM2:=Lib.hid hM
 have HA2:=Lib.hid (HA1.out.fr hf)
 have HX2:=Lib.hid (HX1.out.fr hf)
 clear HX1
 have HQ2:=Lib.hid (HQ1.out.fr hf)
 clear q1 HQ1
 have q2:w2.cell? ⟨kq1,1,none⟩=some (.pointer (some ⟨b,o+4,none⟩)):=by have:=HQ2.out.c 1 _ rfl;rwa [Nat.zero_add] at this
 clear hj hM hf HC2 HM1 HA1
 have HC3:=Lib.hid (wnumW gp _ _ _ b (o+4) s.fr HW.out.1.2.2.2.2.1 (by have h9:=HLB.out;simp only [List.length_append,List.length_nil,List.length_cons,nB_len,numsB_len,wantsE_len,placeE_len] at h9 ⊢;omega)  _ HM2.out.1 (HA2.out.sub 4 1 (M:=[.int .i64 s.fr]) rfl))
 go_wp2_with fail
 rw [rounds_succ]
 go_wp2_with fail
 refine HC3.out.mono ?_
 intro e w3 hj
 obtain ⟨⟨r3,rfl⟩,v3,hM,hf⟩:=WMid.next HM2.out hj
 have HM3:=Lib.hid hM
 have HA3:=Lib.hid (HA2.out.fr hf)
 have HX3:=Lib.hid (HX2.out.fr hf)
 clear HX2
 have HQ3:=Lib.hid (HQ2.out.fr hf)
 clear q2 HQ2
 have q3:w3.cell? ⟨kq1,2,none⟩=some (.pointer (some ⟨b,o+5,none⟩)):=by have:=HQ3.out.c 2 _ rfl;rwa [Nat.zero_add] at this
 clear hj hM hf HC3 HM2 HA2
 have HC4:=Lib.hid (wnumW gp _ _ _ b (o+5) s.tr HW.out.1.2.2.2.2.2.1 (by have h9:=HLB.out;simp only [List.length_append,List.length_nil,List.length_cons,nB_len,numsB_len,wantsE_len,placeE_len] at h9 ⊢;omega)  _ HM3.out.1 (HA3.out.sub 5 1 (M:=[.int .i64 s.tr]) rfl))
 go_wp2_with fail
 rw [rounds_succ]
 go_wp2_with fail
 refine HC4.out.mono ?_
 intro e w4 hj
 obtain ⟨⟨r4,rfl⟩,v4,hM,hf⟩:=WMid.next HM3.out hj
 have HM4:=Lib.hid hM
 have HA4:=Lib.hid (HA3.out.fr hf)
 have HX4:=Lib.hid (HX3.out.fr hf)
 clear HX3
 have HQ4:=Lib.hid (HQ3.out.fr hf)
 clear q3 HQ3
 have q4:w4.cell? ⟨kq1,3,none⟩=some (.pointer (some ⟨b,o+6,none⟩)):=by have:=HQ4.out.c 3 _ rfl;rwa [Nat.zero_add] at this
 clear hj hM hf HC4 HM3 HA3
 have HC5:=Lib.hid (wnumW gp _ _ _ b (o+6) s.ag HW.out.1.2.2.2.2.2.2.1 (by have h9:=HLB.out;simp only [List.length_append,List.length_nil,List.length_cons,nB_len,numsB_len,wantsE_len,placeE_len] at h9 ⊢;omega)  _ HM4.out.1 (HA4.out.sub 6 1 (M:=[.int .i64 s.ag]) rfl))
 go_wp2_with fail
 rw [rounds_succ]
 go_wp2_with fail
 refine HC5.out.mono ?_
 intro e w5 hj
 obtain ⟨⟨r5,rfl⟩,v5,hM,hf⟩:=WMid.next HM4.out hj
 have HM5:=Lib.hid hM
 have HA5:=Lib.hid (HA4.out.fr hf)
 have HX5:=Lib.hid (HX4.out.fr hf)
 clear HX4
 have HQ5:=Lib.hid (HQ4.out.fr hf)
 clear q4 HQ4
 clear hj hM hf HC5 HM4 HA4
 have HC6:=Lib.hid (wlistK gp _ _ _ b (o+7) x.C x.cc s.cs HCp.out.C HT.out.C HW.out.2.1 (by have h9:=HLB.out;simp only [List.length_append,List.length_nil,List.length_cons,nB_len,numsB_len,wantsE_len,placeE_len] at h9 ⊢;omega)  _ HM5.out.1 (HA5.out.sub 7 1 (M:=[.slice x.C s.cs.length x.cc]) rfl) HX5.out.C)
 go_wp2_with fail
 rw [rounds_succ]
 go_wp2_with fail
 refine HC6.out.mono ?_
 intro e w6 hj
 obtain ⟨⟨r6,rfl⟩,v6,hM,hf⟩:=WMid.next HM5.out hj
 have HM6:=Lib.hid hM
 have HA6:=Lib.hid (HA5.out.fr hf)
 have HX6:=Lib.hid (HX5.out.fr hf)
 clear HX5
 clear hj hM hf HC6 HM5 HA5
 have HC7:=Lib.hid (wnumW gp _ _ _ b (o+8) s.nw HW.out.1.2.2.2.2.2.2.2.1 (by have h9:=HLB.out;simp only [List.length_append,List.length_nil,List.length_cons,nB_len,numsB_len,wantsE_len,placeE_len] at h9 ⊢;omega)  _ HM6.out.1 (HA6.out.sub 8 1 (M:=[.int .i64 s.nw]) rfl))
 go_wp2_with fail
 refine HC7.out.mono ?_
 intro e w7 hj
 obtain ⟨⟨r7,rfl⟩,v7,hM,hf⟩:=WMid.next HM6.out hj
 have HM7:=Lib.hid hM
 have HA7:=Lib.hid (HA6.out.fr hf)
 have HX7:=Lib.hid (HX6.out.fr hf)
 clear HX6
 clear hj hM hf HC7 HM6 HA6
 have HC8:=Lib.hid (wnumW gp _ _ _ b (o+9) s.nx HW.out.1.2.2.2.2.2.2.2.2 (by have h9:=HLB.out;simp only [List.length_append,List.length_nil,List.length_cons,nB_len,numsB_len,wantsE_len,placeE_len] at h9 ⊢;omega)  _ HM7.out.1 (HA7.out.sub 9 1 (M:=[.int .i64 s.nx]) rfl))
 go_wp2_with fail
 refine HC8.out.mono ?_
 intro e w8 hj
 obtain ⟨⟨r8,rfl⟩,v8,hM,hf⟩:=WMid.next HM7.out hj
 have HM8:=Lib.hid hM
 have HA8:=Lib.hid (HA7.out.fr hf)
 have HX8:=Lib.hid (HX7.out.fr hf)
 clear HX7
 clear hj hM hf HC8 HM7 HA7
 have HC9:=Lib.hid (wlistJ gp _ _ _ b (o+10) x.J x.cj s.js HCp.out.J HT.out.J HW.out.2.2.1 (by have h9:=HLB.out;simp only [List.length_append,List.length_nil,List.length_cons,nB_len,numsB_len,wantsE_len,placeE_len] at h9 ⊢;omega)  _ HM8.out.1 (HA8.out.sub 10 1 (M:=[.slice x.J s.js.length x.cj]) rfl) HX8.out.J)
 go_wp2_with fail
 refine HC9.out.mono ?_
 intro e w9 hj
 obtain ⟨⟨r9,rfl⟩,v9,hM,hf⟩:=WMid.next HM8.out hj
 have HM9:=Lib.hid hM
 have HA9:=Lib.hid (HA8.out.fr hf)
 have HX9:=Lib.hid (HX8.out.fr hf)
 clear HX8
 clear hj hM hf HC9 HM8 HA8
 have HC10:=Lib.hid (wlistP gp _ _ _ b (o+11) x.P x.cp s.ps HCp.out.P HT.out.P HW.out.2.2.2.1 (by have h9:=HLB.out;simp only [List.length_append,List.length_nil,List.length_cons,nB_len,numsB_len,wantsE_len,placeE_len] at h9 ⊢;omega)  _ HM9.out.1 (HA9.out.sub 11 1 (M:=[.slice x.P s.ps.length x.cp]) rfl) HX9.out.P)
 go_wp2_with fail
 refine HC10.out.mono ?_
 intro e w10 hj
 obtain ⟨⟨r10,rfl⟩,v10,hM,hf⟩:=WMid.next HM9.out hj
 have HM10:=Lib.hid hM
 have HA10:=Lib.hid (HA9.out.fr hf)
 have HX10:=Lib.hid (HX9.out.fr hf)
 clear HX9
 clear hj hM hf HC10 HM9 HA9
 have HC11:=Lib.hid (wlistE gp _ _ _ b (o+12) x.K x.ck s.ks HCp.out.K HT.out.K HW.out.2.2.2.2.1 (by have h9:=HLB.out;simp only [List.length_append,List.length_nil,List.length_cons,nB_len,numsB_len,wantsE_len,placeE_len] at h9 ⊢;omega)  _ HM10.out.1 (HA10.out.sub 12 1 (M:=[.slice x.K s.ks.length x.ck]) rfl) HX10.out.K)
 go_wp2_with fail
 refine HC11.out.mono ?_
 intro e w11 hj
 obtain ⟨⟨r11,rfl⟩,v11,hM,hf⟩:=WMid.next HM10.out hj
 have HM11:=Lib.hid hM
 have HA11:=Lib.hid (HA10.out.fr hf)
 have HX11:=Lib.hid (HX10.out.fr hf)
 clear HX10
 clear hj hM hf HC11 HM10 HA10
 go_wp2_with fail
 go_region
 have hBB:Below w11.heap.size w11 (World.drew (w11.alloc (.cells #[.pointer (some ⟨b,o+13,none⟩),.pointer (some ⟨b,o+14,none⟩),.pointer (some ⟨b,o+15,none⟩)] 195))):=(below_alloc (Below.refl _ _)).drew
 obtain ⟨kq11,hkq⟩:∃ n,n=w11.heap.size:=⟨_,rfl⟩
 have HQ11:=Lib.hid (show WAt gp v11 (World.drew (w11.alloc (.cells #[.pointer (some ⟨b,o+13,none⟩),.pointer (some ⟨b,o+14,none⟩),.pointer (some ⟨b,o+15,none⟩)] 195))) w11.heap.size 0 [.pointer (some ⟨b,o+13,none⟩),.pointer (some ⟨b,o+14,none⟩),.pointer (some ⟨b,o+15,none⟩)] from WAt.blk (Blk.new w11 195 #[.pointer (some ⟨b,o+13,none⟩),.pointer (some ⟨b,o+14,none⟩),.pointer (some ⟨b,o+15,none⟩)]).drew (HM11.out.1.new (.cells #[.pointer (some ⟨b,o+13,none⟩),.pointer (some ⟨b,o+14,none⟩),.pointer (some ⟨b,o+15,none⟩)] 195)))
 have HMb:=Lib.hid (WMid.up HM11.out hBB)
 have HAb:=Lib.hid (HA11.out.fr (fr_up hBB))
 have HXb:=Lib.hid (HX11.out.fr (fr_up hBB))
 clear HM11 HA11 HX11 hBB
 rw [← hkq] at HQ11
 generalize hwq:World.drew (w11.alloc (.cells #[.pointer (some ⟨b,o+13,none⟩),.pointer (some ⟨b,o+14,none⟩),.pointer (some ⟨b,o+15,none⟩)] 195))=w11b at HMb HAb HXb HQ11 ⊢
 rw [← hkq]
 clear hkq hwq
 have HM11:=Lib.hid HMb.out
 have HA11:=Lib.hid HAb.out
 have HX11:=Lib.hid HXb.out
 clear HMb HAb HXb
 have q11:w11b.cell? ⟨kq11,0,none⟩=some (.pointer (some ⟨b,o+13,none⟩)):=by have:=HQ11.out.c 0 _ rfl;rwa [Nat.zero_add] at this
 have HC12:=Lib.hid (wlistI gp _ _ _ b (o+13) x.D x.cd s.dn HCp.out.D HT.out.D HW.out.2.2.2.2.2.1 (by have h9:=HLB.out;simp only [List.length_append,List.length_nil,List.length_cons,nB_len,numsB_len,wantsE_len,placeE_len] at h9 ⊢;omega)  _ HM11.out.1 (HA11.out.sub 13 1 (M:=[.slice x.D s.dn.length x.cd]) rfl) HX11.out.D)
 go_wp2_with fail
 refine wp_loop_rounds 4 ?_
 rw [rounds_succ]
 go_wp2_with fail
 refine HC12.out.mono ?_
 intro e w12 hj
 obtain ⟨⟨r12,rfl⟩,v12,hM,hf⟩:=WMid.next HM11.out hj
 have HM12:=Lib.hid hM
 have HA12:=Lib.hid (HA11.out.fr hf)
 have HX12:=Lib.hid (HX11.out.fr hf)
 clear HX11
 have HQ12:=Lib.hid (HQ11.out.fr hf)
 clear q11 HQ11
 have q12:w12.cell? ⟨kq11,1,none⟩=some (.pointer (some ⟨b,o+14,none⟩)):=by have:=HQ12.out.c 1 _ rfl;rwa [Nat.zero_add] at this
 clear hj hM hf HC12 HM11 HA11
 have HC13:=Lib.hid (wlistI gp _ _ _ b (o+14) x.S x.cs s.sh HCp.out.S HT.out.S HW.out.2.2.2.2.2.2.1 (by have h9:=HLB.out;simp only [List.length_append,List.length_nil,List.length_cons,nB_len,numsB_len,wantsE_len,placeE_len] at h9 ⊢;omega)  _ HM12.out.1 (HA12.out.sub 14 1 (M:=[.slice x.S s.sh.length x.cs]) rfl) HX12.out.S)
 go_wp2_with fail
 rw [rounds_succ]
 go_wp2_with fail
 refine HC13.out.mono ?_
 intro e w13 hj
 obtain ⟨⟨r13,rfl⟩,v13,hM,hf⟩:=WMid.next HM12.out hj
 have HM13:=Lib.hid hM
 have HA13:=Lib.hid (HA12.out.fr hf)
 have HX13:=Lib.hid (HX12.out.fr hf)
 clear HX12
 have HQ13:=Lib.hid (HQ12.out.fr hf)
 clear q12 HQ12
 have q13:w13.cell? ⟨kq11,2,none⟩=some (.pointer (some ⟨b,o+15,none⟩)):=by have:=HQ13.out.c 2 _ rfl;rwa [Nat.zero_add] at this
 clear hj hM hf HC13 HM12 HA12
 have HC14:=Lib.hid (wlistI gp _ _ _ b (o+15) x.U x.cu s.cu HCp.out.U HT.out.U HW.out.2.2.2.2.2.2.2 (by have h9:=HLB.out;simp only [List.length_append,List.length_nil,List.length_cons,nB_len,numsB_len,wantsE_len,placeE_len] at h9 ⊢;omega)  _ HM13.out.1 (HA13.out.sub 15 1 (M:=[.slice x.U s.cu.length x.cu]) rfl) HX13.out.U)
 go_wp2_with fail
 rw [rounds_succ]
 go_wp2_with fail
 refine HC14.out.mono ?_
 intro e w14 hj
 obtain ⟨⟨r14,rfl⟩,v14,hM,hf⟩:=WMid.next HM13.out hj
 have HM14:=Lib.hid hM
 have HA14:=Lib.hid (HA13.out.fr hf)
 have HX14:=Lib.hid (HX13.out.fr hf)
 clear HX13
 have HQ14:=Lib.hid (HQ13.out.fr hf)
 clear q13 HQ13
 clear hj hM hf HC14 HM13 HA13
 go_wp2_with fail
 rw [rounds_succ]
 go_wp2_with fail
 go_end0
 exact WMid.out HM14.out (by simp only [stateE,List.nil_append]) (by simp only [stateO,Bool.true_and,Bool.and_true]) _
end Go.Proofs.Ytfdldbfjeamlcaa.RecWState
namespace Go.Proofs.Ytfdldbfjeamlcaa.RecRd
open Go.RowKit Mem RecMem RecByte RecNum RecEach RecMath RecCod RecPort RecCommand RecCmdJ RecVal RecSame RecOwn
abbrev RE:List PanicEntry:=[{ v:=.iface 115 (.agg #[]),recovered:=false }]
structure PR (B:Nat) (w:World) (gp:Nat) (X:Option Addr) (t:Bs) (c:Nat) (od:Bool):Prop where
 blk:Blk w gp PT #[.slice X t.length c,.bool true,.bool od]
 cap:t.length≤c
 top:c≤maxLen
 oct:Oct t
 low:B≤gp
 txt:∀ i x,t[i]? = some x→∃ tb o,X=some ⟨tb,o,none⟩∧tb < B∧w.cell? ⟨tb,o+i,none⟩=some (.int .u8 x)
structure FrR (gp b:Nat) (w w':World):Prop where
 os:w'.os=w.os
 tape:w'.tape=w.tape
 output:w'.output=w.output
 size:w.heap.size≤w'.heap.size
 block:∀ k,k < w.heap.size→k≠gp→k≠b→w'.heap[k]? = w.heap[k]?
 shape:∀ k T cs,Blk w k T cs→∃ cs':Array Value,cs'.size=cs.size∧Blk w' k T cs'
theorem FrR.refl (gp b:Nat) (w:World):FrR gp b w w:=⟨rfl,rfl,rfl,Nat.le_refl _,fun _ _ _ _=>rfl,fun _ _ cs h=>⟨cs,rfl,h⟩⟩
theorem shape_trans {w w1 w2:World} (h:∀ k T cs,Blk w k T cs→∃ cs':Array Value,cs'.size=cs.size∧Blk w1 k T cs') (h2:∀ k T cs,Blk w1 k T cs→∃ cs':Array Value,cs'.size=cs.size∧Blk w2 k T cs') (k:Nat) (T:TypeId) (cs:Array Value) (hk:Blk w k T cs):∃ cs':Array Value,cs'.size=cs.size∧Blk w2 k T cs':=by
 obtain ⟨c1,e1,k1⟩:=h k T cs hk
 obtain ⟨c2,e2,k2⟩:=h2 k T c1 k1
 exact ⟨c2,e2.trans e1,k2⟩
theorem shape_below {w w':World} (hB:Below w.heap.size w w') (k:Nat) (T:TypeId) (cs:Array Value) (hk:Blk w k T cs):∃ cs':Array Value,cs'.size=cs.size∧Blk w' k T cs':=⟨cs,rfl,hk.below hB hk.lt⟩
theorem shape_set {w:World} {p:Addr} (hs:p=⟨p.block,p.off,none⟩) (u:Value) (k:Nat) (T:TypeId) (cs:Array Value) (hk:Blk w k T cs):∃ cs':Array Value,cs'.size=cs.size∧Blk (w.setCell p u) k T cs':=by
 rw [hs]
 by_cases h:k=p.block
 ·subst h;exact ⟨_,Array.size_setIfInBounds,hk.set_ _ _⟩
 ·exact ⟨cs,rfl,hk.far (p:=⟨p.block,p.off,none⟩) h u⟩
theorem FrR.trans {gp b:Nat} {w w1 w2:World} (h:FrR gp b w w1) (k:FrR gp b w1 w2):FrR gp b w w2:=
 ⟨k.os.trans h.os,k.tape.trans h.tape,k.output.trans h.output,Nat.le_trans h.size k.size,fun i hi hg hb=>(k.block i (Nat.lt_of_lt_of_le hi h.size) hg hb).trans (h.block i hi hg hb),shape_trans h.shape k.shape⟩
theorem FrR.trans_new {gp b b':Nat} {w w1 w2:World} (h:FrR gp b w w1) (k:FrR gp b' w1 w2) (hb:w.heap.size≤b'):FrR gp b w w2:=
 ⟨k.os.trans h.os,k.tape.trans h.tape,k.output.trans h.output,Nat.le_trans h.size k.size,fun i hi hg hb2=>(k.block i (Nat.lt_of_lt_of_le hi h.size) hg (by omega)).trans (h.block i hi hg hb2),shape_trans h.shape k.shape⟩
theorem FrR.weak {gp b:Nat} {w w':World} (h:FrR gp gp w w'):FrR gp b w w':=⟨h.os,h.tape,h.output,h.size,fun k hk hg _=>h.block k hk hg hg,h.shape⟩
theorem FrR.alloc {gp b:Nat} {w w':World} (h:FrR gp b w w') (o:Obj):FrR gp b w (w'.alloc o):=
 ⟨h.os,h.tape,h.output,by have:=h.size;simp;omega,fun k hk hg hb=>by
  have:=h.size
  rw [Below.heap_alloc w' o k (by omega)]
  exact h.block k hk hg hb,shape_trans h.shape (shape_below (below_alloc (Below.refl _ _)))⟩
theorem FrR.drew {gp b:Nat} {w w':World} (h:FrR gp b w w'):FrR gp b w w'.drew:=⟨h.os,h.tape,h.output,h.size,h.block,h.shape⟩
theorem FrR.drewN {gp b:Nat} {w w':World} (h:FrR gp b w w') (n:Nat):FrR gp b w (w'.drewN n):=⟨h.os,h.tape,h.output,h.size,h.block,h.shape⟩
theorem FrR.set_ {gp b:Nat} {w w':World} (h:FrR gp b w w') {p:Addr} (hp:p.block=gp∨p.block=b∨w.heap.size≤p.block) (u:Value) (hs:p=⟨p.block,p.off,none⟩:=by rfl):FrR gp b w (w'.setCell p u):=
 ⟨h.os,h.tape,h.output,by have:=h.size;simpa using this,fun k hk hg hb=>by
  rw [Below.heap_setCell w' p u k (by rcases hp with e | e | e <;> omega)]
  exact h.block k hk hg hb,shape_trans h.shape (shape_set hs u)⟩
theorem FrR.up {gp b:Nat} {w w' w2:World} (h:FrR gp b w w') (hB:Below w'.heap.size w' w2):FrR gp b w w2:=
 h.trans ⟨hB.os,hB.tape,hB.output,hB.size,fun k hk _ _=>hB.block k hk,shape_below hB⟩
theorem FrR.grown {gp b:Nat} {w w1 w2:World} (h:FrR gp b w w1) {row:Option Nat} (hg:w1.grownBy w2 row) (hr:∀ k,row=some k→w.heap.size≤k):FrR gp b w w2:=
 ⟨hg.os.trans h.os,hg.tape.trans h.tape,hg.output.trans h.output,Nat.le_trans h.size hg.size,fun k hk h1 h2=>(hg.block k (Nat.lt_of_lt_of_le hk h.size) (fun e=>by have:=hr k e.symm;omega)).trans (h.block k hk h1 h2),fun k T cs hk=>by
  obtain ⟨c1,e1,k1⟩:=h.shape k T cs hk
  exact ⟨c1,e1,k1.grown hg (fun e=>by have:=hr k e.symm;have:=hk.lt;omega)⟩⟩
theorem FrR.below {gp b B:Nat} {w w':World} (h:FrR gp b w w') (hg:B≤gp) (hb:B≤b) (hw:B≤w.heap.size):Below B w w':=⟨h.os,h.tape,h.output,h.size,fun k hk=>h.block k (by omega) (by omega) (by omega)⟩
theorem FrR.blk {gp b g:Nat} {w w':World} {t:TypeId} {cs:Array Value} (h:FrR gp b w w') (hc:Blk w g t cs) (h1:g≠gp) (h2:g≠b):Blk w' g t cs:=(h.block g hc.lt h1 h2).trans hc
theorem FrR.cell {gp b:Nat} {w w':World} {a:Addr} {u:Value} (h:FrR gp b w w') (h1:a.block≠gp) (h2:a.block≠b) (hc:w.cell? a=some u):w'.cell? a=some u:=by
 rw [World.cell?_of_block (h.block _ (cell_lt hc) h1 h2)];exact hc
structure Rep (α:Type) where
 n:Nat
 At:World→Nat→α→List Value→Prop
 len:∀ {w F x vs},At w F x vs→vs.length=n
 keep:∀ {w w' F x vs},At w F x vs→(∀ k,F≤k→k < w.heap.size→w'.heap[k]? = w.heap[k]?)→w.heap.size≤w'.heap.size→At w' F x vs
 mono:∀ {w F F' x vs},At w F x vs→F'≤F→At w F' x vs
def flatR {α:Type} (n:Nat) (L:α→List Value) (h:∀ x,(L x).length=n):Rep α where
 n:=n
 At _ _ x vs:=vs=L x
 len e:=by rw [e,h]
 keep e _ _:=e
 mono e _:=e
def numR:Rep Int:=flatR 1 (fun n=>[.int .i64 n]) fun _=>rfl
def byteR:Rep Int:=flatR 1 (fun n=>[.int .u8 n]) fun _=>rfl
def truthR:Rep Bool:=flatR 1 (fun n=>[.bool n]) fun _=>rfl
def Rep.pair {α β:Type} (R:Rep α) (S:Rep β):Rep (α × β) where
 n:=R.n+S.n
 At w F p vs:=∃ a b,vs=a ++ b∧R.At w F p.1 a∧S.At w F p.2 b
 len:=by rintro w F x vs ⟨a,b,rfl,h1,h2⟩;rw [List.length_append,R.len h1,S.len h2]
 keep:=by rintro w w' F x vs ⟨a,b,rfl,h1,h2⟩ h k;exact ⟨a,b,rfl,R.keep h1 h k,S.keep h2 h k⟩
 mono:=by rintro w F F' x vs ⟨a,b,rfl,h1,h2⟩ h;exact ⟨a,b,rfl,R.mono h1 h,S.mono h2 h⟩
def Rep.iso {α β:Type} (R:Rep α) (g:β→α):Rep β where
 n:=R.n
 At w F y vs:=R.At w F (g y) vs
 len h:=R.len h
 keep h:=R.keep h
 mono h:=R.mono h
structure RMid {α:Type} (R:Rep α) (dec:Bs→Option (α × Bs)) (gp b:Nat) (t:Bs) (od:Bool) (w w':World) (x:α) (vs:List Value) (t':Bs) (od':Bool):Prop where
 at_:R.At w' w.heap.size x vs
 fr:FrR gp b w w'
 le:t'.length≤t.length
 ok:od' = false→od=false∧dec t=some (x,t')
 bad:od' = true→od=false→dec t=none
def RGot {α:Type} (R:Rep α) (dec:Bs→Option (α × Bs)) (B gp b:Nat) (T:TypeId) (cs:Array Value) (o:Nat) (t:Bs) (od:Bool) (w w':World):Prop:=
 ∃ X c t' od' x vs,PR B w' gp X t' c od'∧Blk w' b T (setA cs o vs)∧RMid R dec gp b t od w w' x vs t' od'
def ROut {α:Type} (R:Rep α) (dec:Bs→Option (α × Bs)) (B gp b:Nat) (T:TypeId) (cs:Array Value) (o:Nat) (t:Bs) (od:Bool) (w:World) (e:Ending) (w':World):Prop:=
 (e = .panicked RE∧(od=false→dec t=none)∧FrR gp b w w')∨((∃ r,e = .returned r)∧RGot R dec B gp b T cs o t od w w')
def pairDec {α β:Type} (d1:Bs→Option (α × Bs)) (d2:Bs→Option (β × Bs)) (t:Bs):Option ((α × β) × Bs):=(d1 t).bind fun p=>(d2 p.2).map fun q=>((p.1,q.1),q.2)
theorem pairDec_some {α β:Type} {d1:Bs→Option (α × Bs)} {d2:Bs→Option (β × Bs)} {t t1 t2:Bs} {x:α} {y:β} (h1:d1 t=some (x,t1)) (h2:d2 t1=some (y,t2)):pairDec d1 d2 t=some ((x,y),t2):=by
 unfold pairDec;rw [h1,Option.bind_some,h2];rfl
theorem pairDec_none1 {α β:Type} {d1:Bs→Option (α × Bs)} {d2:Bs→Option (β × Bs)} {t:Bs} (h1:d1 t=none):pairDec d1 d2 t=none:=by
 unfold pairDec;rw [h1];rfl
theorem pairDec_none2 {α β:Type} {d1:Bs→Option (α × Bs)} {d2:Bs→Option (β × Bs)} {t t1:Bs} {x:α} (h1:d1 t=some (x,t1)) (h2:d2 t1=none):pairDec d1 d2 t=none:=by
 unfold pairDec;rw [h1,Option.bind_some,h2];rfl
section
variable {α β:Type} {R:Rep α} {S:Rep β} {d1:Bs→Option (α × Bs)} {d2:Bs→Option (β × Bs)} {gp b:Nat} {t t1 t2:Bs} {od od1 od2:Bool} {w w1 w2:World} {x:α} {y:β} {vs us:List Value}
theorem RMid.pair (h:RMid R d1 gp b t od w w1 x vs t1 od1) (k:RMid S d2 gp b t1 od1 w1 w2 y us t2 od2) (hg:gp < w.heap.size) (hb:b < w.heap.size):RMid (R.pair S) (pairDec d1 d2) gp b t od w w2 (x,y) (vs ++ us) t2 od2 where
 at_:=⟨vs,us,rfl,R.keep h.at_ (fun i h1 h2=>k.fr.block i h2 (by omega) (by omega)) k.fr.size,S.mono k.at_ h.fr.size⟩
 fr:=h.fr.trans k.fr
 le:=Nat.le_trans k.le h.le
 ok e:=⟨(h.ok (k.ok e).1).1,pairDec_some (h.ok (k.ok e).1).2 (k.ok e).2⟩
 bad e e0:=by
  cases od1 with
  | true=>exact pairDec_none1 (h.bad rfl e0)
  | false=>exact pairDec_none2 (h.ok rfl).2 (k.bad e rfl)
theorem RMid.fail {B:Nat} {T:TypeId} {cs:Array Value} {o:Nat} (h:RMid R d1 gp b t od w w1 x vs t1 od1) (hn:od1=false→d2 t1=none) (hf:FrR gp b w1 w2):ROut (R.pair S) (pairDec d1 d2) B gp b T cs o t od w (.panicked RE) w2:=
 .inl ⟨rfl,fun e0=>by
  cases od1 with
  | true=>exact pairDec_none1 (h.bad rfl e0)
  | false=>exact pairDec_none2 (h.ok rfl).2 (hn rfl),h.fr.trans hf⟩
theorem RMid.iso {f:α→β} {g:β→α} (gf:∀ x,g (f x)=x) (h:RMid R d1 gp b t od w w1 x vs t1 od1):RMid (R.iso g) (fun t=>(d1 t).map fun p=>(f p.1,p.2)) gp b t od w w1 (f x) vs t1 od1 where
 at_:=by show R.At _ _ (g (f x)) vs;rw [gf];exact h.at_
 fr:=h.fr
 le:=h.le
 ok e:=⟨(h.ok e).1,by simp only [(h.ok e).2];rfl⟩
 bad e e0:=by simp only [h.bad e e0];rfl
theorem ROut.iso {B:Nat} {T:TypeId} {cs:Array Value} {o:Nat} {e:Ending} {f:α→β} {g:β→α} (gf:∀ x,g (f x)=x) (h:ROut R d1 B gp b T cs o t od w e w1):ROut (R.iso g) (fun t=>(d1 t).map fun p=>(f p.1,p.2)) B gp b T cs o t od w e w1:=by
 rcases h with ⟨e0,h1,h2⟩ | ⟨hr,X,c,t',od',x,vs,h1,h2,h3⟩
 ·exact .inl ⟨e0,fun e1=>by simp only [h1 e1];rfl,h2⟩
 ·exact .inr ⟨hr,X,c,t',od',f x,vs,h1,h2,h3.iso gf⟩
end
def RPl {α:Type} (L:α→List Value) (dec:Bs→Option (α × Bs)) (B gp b:Nat) (T:TypeId) (cs:Array Value) (o:Nat) (t:Bs) (od:Bool) (w:World) (e:Ending) (w':World):Prop:=
 (e = .panicked RE∧dec t=none∧FrR gp b w w')∨((∃ r,e = .returned r)∧∃ X c t' x,dec t=some (x,t')∧t'.length≤t.length∧PR B w' gp X t' c od∧Blk w' b T (setA cs o (L x))∧FrR gp b w w')
theorem RPl.out {α:Type} {L:α→List Value} {dec:Bs→Option (α × Bs)} {B gp b:Nat} {T:TypeId} {cs:Array Value} {o:Nat} {t:Bs} {od:Bool} {w:World} {e:Ending} {w':World} (n:Nat) (hn:∀ x,(L x).length=n) (h:RPl L dec B gp b T cs o t od w e w'):ROut (flatR n L hn) dec B gp b T cs o t od w e w':=by
 rcases h with ⟨e0,h1,h2⟩ | ⟨hr,X,c,t',x,h1,h2,h3,h4,h5⟩
 ·exact .inl ⟨e0,fun _=>h1,h2⟩
 ·exact .inr ⟨hr,X,c,t',od,x,L x,h3,h4,rfl,h5,h2,fun e=>⟨e,h1⟩,fun e e0=>by rw [e] at e0;cases e0⟩
theorem setA_app:∀ (vs us:List Value) (cs:Array Value) (o:Nat),setA cs o (vs ++ us)=setA (setA cs o vs) (o+vs.length) us
 | [],us,cs,o=>rfl
 | v :: vs,us,cs,o=>by
  show setA (cs.setIfInBounds o v) (o+1) (vs ++ us)=setA (setA (cs.setIfInBounds o v) (o+1) vs) (o+(vs.length+1)) us
  rw [setA_app vs us,show o+1+vs.length=o+(vs.length+1) by omega]
def ZAt (cs:Array Value) (o:Nat) (zs:List Value):Prop:=∀ i v,zs[i]? = some v→cs[o+i]? = some v
theorem ZAt.size {cs:Array Value} {o:Nat} {zs:List Value} (h:ZAt cs o zs) (hn:0 < zs.length):o+zs.length≤cs.size:=by
 have:=h (zs.length - 1) _ (List.getElem?_eq_getElem (by omega))
 have:=(Array.getElem?_eq_some_iff.1 this).1
 omega
theorem ZAt.left {cs:Array Value} {o:Nat} {zs us:List Value} (h:ZAt cs o (zs ++ us)):ZAt cs o zs:=fun i v hi=>h i v (by rw [List.getElem?_append_left (List.getElem?_eq_some_iff.1 hi).1];exact hi)
theorem ZAt.right {cs:Array Value} {o:Nat} {zs us:List Value} (h:ZAt cs o (zs ++ us)):ZAt cs (o+zs.length) us:=fun i v hi=>by
 rw [Nat.add_assoc]
 exact h (zs.length+i) v (by rw [List.getElem?_append_right (by omega),show zs.length+i - zs.length=i by omega];exact hi)
theorem ZAt.set_ {cs:Array Value} {o o':Nat} {zs vs:List Value} (h:ZAt cs o' zs) (ho:o+vs.length≤o') (hs:o+vs.length≤cs.size):ZAt (setA cs o vs) o' zs:=fun i v hi=>by
 rw [setA_get vs cs o hs,if_neg (by omega)]
 exact h i v hi
theorem ZAt.next {α:Type} {R:Rep α} {cs:Array Value} {o:Nat} {zs us vs:List Value} {w:World} {F:Nat} {x:α} (h:ZAt cs o (zs ++ us)) (hz:zs.length=R.n) (hp:0 < us.length) (hv:R.At w F x vs):ZAt (setA cs o vs) (o+R.n) us:=by
 have hl:=R.len hv
 have hr:=h.right
 rw [hz] at hr
 have:=hr.size hp
 exact hr.set_ (by omega) (by omega)
theorem PR.lt {B:Nat} {w:World} {gp:Nat} {X:Option Addr} {t:Bs} {c:Nat} {od:Bool} (h:PR B w gp X t c od):gp < w.heap.size:=h.blk.lt
theorem PR.fr {B:Nat} {w w':World} {gp:Nat} {X:Option Addr} {t:Bs} {c:Nat} {od:Bool} (h:PR B w gp X t c od) (hk:Blk w' gp PT #[.slice X t.length c,.bool true,.bool od]) (hB:∀ k,k < B→w'.heap[k]? = w.heap[k]?):PR B w' gp X t c od:=
 ⟨hk,h.cap,h.top,h.oct,h.low,fun i x hi=>by
  obtain ⟨tb,o,e,h1,h2⟩:=h.txt i x hi
  exact ⟨tb,o,e,h1,by rw [World.cell?_of_block (hB tb h1)];exact h2⟩⟩
theorem PR.alloc {B:Nat} {w:World} {gp:Nat} {X:Option Addr} {t:Bs} {c:Nat} {od:Bool} (h:PR B w gp X t c od) (o:Obj):PR B (w.alloc o) gp X t c od:=
 h.fr (h.blk.alloc o) fun k hk=>Below.heap_alloc w o k (by have:=h.lt;have:=h.low;omega)
theorem PR.up {B:Nat} {w w':World} {gp:Nat} {X:Option Addr} {t:Bs} {c:Nat} {od:Bool} (h:PR B w gp X t c od) (hB:Below w.heap.size w w'):PR B w' gp X t c od:=
 h.fr (h.blk.below hB h.lt) fun k hk=>hB.block k (by have:=h.lt;have:=h.low;omega)
theorem PR.set_ {B:Nat} {w:World} {gp:Nat} {X:Option Addr} {t:Bs} {c:Nat} {od:Bool} (h:PR B w gp X t c od) {p:Addr} (hp:p.block≠gp) (hb:B≤p.block) (u:Value):PR B (w.setCell p u) gp X t c od:=
 h.fr (h.blk.far hp.symm u) fun k hk=>Below.heap_setCell w p u k (by omega)
theorem PR.odd {B:Nat} {w:World} {gp:Nat} {X:Option Addr} {t:Bs} {c:Nat} {od:Bool} (h:PR B w gp X t c od) (p:Bool):PR B (w.setCell ⟨gp,2,none⟩ (.bool p)) gp X t c p:=by
 have hk:=h.blk.set_ 2 (.bool p)
 have h2:PR B (w.setCell ⟨gp,2,none⟩ (.bool p)) gp X t c p:=⟨hk,h.cap,h.top,h.oct,h.low,fun i x hi=>by
  obtain ⟨tb,o,e,h1,h2⟩:=h.txt i x hi
  exact ⟨tb,o,e,h1,by rw [World.cell?_of_block (Below.heap_setCell w _ _ tb (by have:=h.low;simp;omega))];exact h2⟩⟩
 exact h2
theorem PR.adv {B:Nat} {w:World} {gp tb q b o:Nat} {x:Int} {t:Bs} {c:Nat} {od:Bool} (h:PR B w gp (some ⟨tb,q,none⟩) (x :: t) c od) (hb:B≤b) (hne:b≠gp) (X:Option Addr) (hX:t=[]∨X=some ⟨tb,q+1,none⟩) (u:Value) (n:Nat) (hn:n=t.length) (m:Nat) (hm:m=c - 1) :
    PR B ((w.setCell ⟨b,o,none⟩ u).setCell ⟨gp,0,none⟩ (.slice X n m)).drew gp X t m od:=by
 subst hn hm
 have hc:t.length+1≤c:=h.cap
 refine ⟨((h.blk.far (p:=⟨b,o,none⟩) hne.symm u).set_ 0 _).drew,by omega,by have:=h.top;omega,fun y hy=>h.oct y (by simp [hy]),h.low,fun i y hi=>?_⟩
 rcases hX with rfl | rfl
 ·simp at hi
 ·obtain ⟨tb',q',e,h1,h2⟩:=h.txt (i+1) y (by simpa using hi)
  cases e
  refine ⟨tb,q+1,rfl,h1,?_⟩
  have:(((w.setCell ⟨b,o,none⟩ u).setCell ⟨gp,0,none⟩ (.slice (some ⟨tb,q+1,none⟩) t.length (c - 1))).drew).cell? ⟨tb,q+1+i,none⟩=w.cell? ⟨tb,q+1+i,none⟩:=by
   show ((w.setCell _ _).setCell _ _).cell? _=_
   rw [World.cell?_of_block (Below.heap_setCell _ _ _ tb (by have:=h.low;simp;omega)),World.cell?_of_block (Below.heap_setCell _ _ _ tb (by simp;omega))]
  rw [this,show q+1+i=q+(i+1) by omega]
  exact h2
theorem PR.grown {B:Nat} {w w':World} {gp:Nat} {X:Option Addr} {t:Bs} {c:Nat} {od:Bool} (h:PR B w gp X t c od) {row:Option Nat} (hg:w.grownBy w' row) (h1:row≠some gp) (h2:∀ k,row=some k→B≤k):PR B w' gp X t c od:=
 h.fr (h.blk.grown hg (fun e=>h1 e.symm)) fun k hk=>hg.block k (by have:=h.lt;have:=h.low;omega) (fun e=>by have:=h2 k e.symm;omega)
end Go.Proofs.Ytfdldbfjeamlcaa.RecRd
namespace Go.Proofs.Ytfdldbfjeamlcaa.RecRByte
set_option maxRecDepth 100000
set_option maxHeartbeats 4000000
open Go.RowKit Mem RecMem RecByte RecNum RecEach RecMath RecCod RecPort RecCommand RecCmdJ RecVal RecSame RecOwn RecRd
abbrev byteL (n:Int):List Value:=[.int .u8 n]
abbrev numL (n:Int):List Value:=[.int .i64 n]
abbrev truthL (n:Bool):List Value:=[.bool n]
theorem blk_adv {w:World} {b o gp:Nat} {T:TypeId} {cs:Array Value} (h:Blk w b T cs) (hne:b≠gp) (u v:Value):Blk ((w.setCell ⟨b,o,none⟩ u).setCell ⟨gp,0,none⟩ v).drew b T (setA cs o [u]):=((h.set_ o u).far (p:=⟨gp,0,none⟩) hne v).drew
theorem fr_adv {w:World} {b o gp:Nat} (u v:Value):FrR gp b w ((w.setCell ⟨b,o,none⟩ u).setCell ⟨gp,0,none⟩ v).drew:=(((FrR.refl gp b w).set_ (p:=⟨b,o,none⟩) (.inr (.inl rfl)) u).set_ (p:=⟨gp,0,none⟩) (.inl rfl) v).drew
theorem rbyte (B gp:Nat) (X:Option Addr) (t:Bs) (c:Nat) (od:Bool) (b o:Nat) (T:TypeId) (cs:Array Value) (w:World) (hP:PR B w gp X t c od) (hK:Blk w b T cs) (hz:ZAt cs o [.int .u8 0]) (hb:B≤b) (hne:b≠gp) :
    Calls Try.prog 102 #[.pointer (some ⟨gp,0,none⟩),.pointer (some ⟨b,o,none⟩)] w fun e w' => RPl byteL byteDec B gp b T cs o t od w e w':=by
 have p1:w.cell? ⟨gp,1,none⟩=some (.bool true):=hP.blk.cell 1
 match t,hP with
 | [],hP =>
  have p0:w.cell? ⟨gp,0,none⟩=some (.slice X 0 c):=hP.blk.cell 0
  have H0:=Lib.hid (And.intro hP hK)
  clear hP hK hz
  go_enter Try.func102,Try.ntmps102
  go_wp2_with fail
  exact ⟨rfl,Or.inl ⟨rfl,rfl,FrR.refl _ _ _⟩⟩
 | x :: t',hP =>
  have p0:w.cell? ⟨gp,0,none⟩=some (.slice X (t'.length+1) c):=hP.blk.cell 0
  obtain ⟨tb,q,hX,htb,htc⟩:=hP.txt 0 x rfl
  subst hX
  rw [Nat.add_zero] at htc
  have hcb:w.cell? ⟨b,o,none⟩=some (.int .u8 0):=(hK.cell o).trans (hz 0 _ rfl)
  have f1:=hK.frozen o
  have f2:=hP.blk.frozen 0
  have hgs:=hP.lt
  have hbs:=hK.lt
  have hcap:t'.length+1≤c:=hP.cap
  have htop:=hP.top
  simp only [maxLen] at htop
  have hlt:¬ (tb=gp):=by have:=hP.low;omega
  have H0:=Lib.hid (And.intro hP hK)
  have HB:=Lib.hid (And.intro hb hne)
  clear hP hK hz
  by_cases h1:c=1
  ·have ht0:t'.length=0:=by omega
   have ht:t' = []:=List.eq_nil_of_length_eq_zero ht0
   subst h1 ht
   simp only [List.length_nil,Nat.zero_add] at p0
   clear ht0 hcap htop
   go_enter Try.func102,Try.ntmps102
   go_wp2_with fail
   go_region
   all_goals
    go_wp2_with fail
    refine bodyPost_ret (results_none rfl _ _ _) rfl ?_
    exact Or.inr ⟨⟨_,rfl⟩,_,0,[],x,rfl,by simp,PR.adv H0.out.1 HB.out.1 HB.out.2 _ (.inl rfl) _ _ rfl _ rfl,blk_adv H0.out.2 HB.out.2 _ _,fr_adv _ _⟩
  ·go_enter Try.func102,Try.ntmps102
   go_wp2_with fail
   go_region
   all_goals
    go_wp2_with fail
    refine bodyPost_ret (results_none rfl _ _ _) rfl ?_
    exact Or.inr ⟨⟨_,rfl⟩,_,c - 1,t',x,rfl,by simp,PR.adv H0.out.1 HB.out.1 HB.out.2 _ (.inr rfl) _ _ rfl _ rfl,blk_adv H0.out.2 HB.out.2 _ _,fr_adv _ _⟩
theorem zat_one (v:Value):ZAt #[v] 0 [v]:=fun i u h=>by
 match i with
 | 0=>simpa using h
 | i+1=>simp at h
theorem rtruth (B gp:Nat) (X:Option Addr) (t:Bs) (c:Nat) (od:Bool) (b o:Nat) (T:TypeId) (cs:Array Value) (w:World) (hP:PR B w gp X t c od) (hK:Blk w b T cs) (hz:ZAt cs o [.bool false]) (hb:B≤b) (hne:b≠gp) :
    Calls Try.prog 106 #[.pointer (some ⟨gp,0,none⟩),.pointer (some ⟨b,o,none⟩)] w fun e w' => RPl truthL truthDec B gp b T cs o t od w e w':=by
 have hcb:w.cell? ⟨b,o,none⟩=some (.bool false):=(hK.cell o).trans (hz 0 _ rfl)
 have hbs:=hK.lt
 have hgs:=hP.lt
 have HC:=Lib.hid (rbyte B gp X t c od w.heap.size 0 5 #[.int .u8 0] (w.alloc (.cells #[.int .u8 0] 5)) (hP.alloc _) (Blk.new w 5 #[.int .u8 0]) (zat_one _) (by have:=hP.low;omega) (by omega))
 have H0:=Lib.hid (And.intro hP (And.intro hK (And.intro hb hne)))
 clear hP hK hz hb
 go_enter Try.func106,Try.ntmps106
 go_wp2_with fail
 refine HC.out.mono ?_
 rintro e w2 (⟨rfl,hd,hf⟩ | ⟨⟨r,rfl⟩,X2,c2,t2,x,hd,hl,hP2,hK2,hf2⟩)
 ·have hn:truthDec t=none:=by
   match t,hd with
   | [],_=>rfl
  have HN:=Lib.hid (And.intro hn (((FrR.refl gp b w).alloc (.cells #[.int .u8 0] 5)).trans_new hf (Nat.le_refl _)))
  clear hd hn hf HC
  go_wp2_with fail
  exact ⟨rfl,Or.inl ⟨rfl,HN.out⟩⟩
 ·have ht:t=x :: t2:=by
   match t,hd with
   | y :: t',hd=>cases hd;rfl
  have ho:0≤x∧x < 256:=H0.out.1.oct x (by rw [ht];simp)
  have h0:0≤x:=ho.1
  have h255:x≤255:=by omega
  have hFr:FrR gp b w w2:=((FrR.refl gp b w).alloc (.cells #[.int .u8 0] 5)).trans_new hf2 (Nat.le_refl _)
  have hKb:Blk w2 b T cs:=hf2.blk (H0.out.2.1.alloc _) hne (by omega)
  have hx:w2.cell? ⟨w.heap.size,0,none⟩=some (.int .u8 x):=hK2.cell 0
  have hcb2:w2.cell? ⟨b,o,none⟩=some (.bool false):=by
   rw [hKb.cell o,← H0.out.2.1.cell o];exact hcb
  have f2:=hKb.frozen o
  have H2:=Lib.hid (And.intro ht (And.intro hl (And.intro hP2 (And.intro hFr hKb))))
  clear hd hl hP2 hK2 hf2 ht hFr hKb HC hcb ho
  by_cases h1:x≤1
  ·go_wp2_with fail
   go_end0
   refine Or.inr ⟨⟨_,rfl⟩,X2,c2,t2,x == 1,?_,by rw [H2.out.1];simp,H2.out.2.2.1.set_ hne H0.out.2.2.1 _,H2.out.2.2.2.2.set_ o _,H2.out.2.2.2.1.set_ (.inr (.inl rfl)) _⟩
   rw [H2.out.1]
   show (if x≤1 then some (x == 1,t2) else none)=_
   rw [if_pos h1]
  ·have hn:truthDec t=none:=by
    rw [H2.out.1]
    show (if x≤1 then some (x == 1,t2) else none)=_
    rw [if_neg h1]
   have HN:=Lib.hid (And.intro hn H2.out.2.2.2.1)
   clear hn
   go_wp2_with fail
   exact ⟨rfl,Or.inl ⟨rfl,HN.out⟩⟩
end Go.Proofs.Ytfdldbfjeamlcaa.RecRByte
