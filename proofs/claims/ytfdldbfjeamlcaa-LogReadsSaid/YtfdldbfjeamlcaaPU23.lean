/- Several texts joined: log.frames' iterator: every frame, in order. No conditions but those named. -/
import Derived.BigQuiet
import Derived.Deep.QuietTactic
import Derived.Deep.DeepCutAuto
import Derived.Test.YtfdldbfjeamlcaaPU22
import Derived.RangeFuncNested
import Derived.RangeFuncLeaves
import Derived.OwnWalkIn
set_option linter.unusedVariables false
set_option linter.unusedSimpArgs false
namespace Go.Proofs.Ytfdldbfjeamlcaa.LogFrames
set_option maxRecDepth 100000
set_option maxHeartbeats 6000000
open Go Go.RowKit Go.Sort MarkMath Mem RecMem RecByte RecNum RecMath RecCod RecVal RecSame RecWr0 RecRecC RecRd RecRead RecRRec RecAt RecAll LogFour LogJoin LogWrap RangeGiven LogFrm RecOwn RecCmdJ
structure FrAt (t:Bs) (n0 Bp:Nat) (w0:World) (J:List FE→World→Prop) (k f:Nat) (pre:List FE) (wr:World):Prop where
 fu:t.length < k+f
 eq:keys pre ++ fr t f k=fr t (t.length+1) 0
 j:J pre wr
 b:Kpt n0 Bp w0 wr
theorem read_at (X:Option Addr) (t:Bs) (n c:Nat) (hn:n=t.length) (w:World) (hX:TxtAt w X t) (ho:Oct t) (hc:n≤c) (hm:c≤maxLen) :
    Calls Try.prog 19 #[.slice X n c] w fun e w' => (∃ x Y cy,e = .returned (.tuple #[.agg (rL (readV t).1 x Y cy).toArray,.int .i64 (readV t).2])∧recR.At w' w.heap.size (readV t).1 (rL (readV t).1 x Y cy))∧Below w.heap.size w w':=by
 subst hn
 refine (rread X t c w hX ho hc hm).mono ?_
 rintro e w' ⟨vs,rfl,hR,hB⟩
 obtain ⟨x,Y,cy,rfl,_⟩:=rec_at hR
 exact ⟨⟨x,Y,cy,rfl,hR⟩,hB⟩
theorem ok_v {t:Bs} {k:Nat} {v m1 m2:Int} (h0:v=0) (hv:v=(readV (frT t k)).2) (h1:m1=mk 0 (frT t k)) (h2:m2=num4 (t.drop (k+4))):(m1 != m2) = !decide (frOk t k):=by
 by_cases h:frOk t k
 ·have h3:=h.2
  rw [← h1,← h2] at h3
  rw [decide_eq_true h,h3]
  simp
 ·have h3:m1≠m2:=fun e=>h ⟨by rw [← hv];exact h0,by rw [← h1,← h2];exact e⟩
  rw [decide_eq_false h]
  simpa using h3
theorem frames1_any (l Bp:Nat) (X:Option Addr) (c:Nat) (t:Bs) (ho:Oct t) (hc:t.length≤c) (hm:c≤maxLen) (hl:t.length≤4611686018427387904) (wS w0:World) (hS:Below wS.heap.size wS w0) (hBp:Bp < w0.heap.size) (hbx:w0.cell? ⟨Bp,0,none⟩=some (.slice X t.length c)) (hX:TxtAt wS X t)
    (J Jx:List FE→World→Prop) (W:World) (hW:Below w0.heap.size w0 W) (hJ:AbidesFrom W.heap.size J)
    (hY:∀ pre x W1,J pre W1→x.R w0.heap.size W1→keys (pre ++ [x]) <+: fr t (t.length+1) 0→YieldAt Fence.wide 3 Try.prog l x.enc W1 fun e W' =>
     (e = .returned (.bool true)∧J (pre ++ [x]) W'∧Kpt wS.heap.size Bp W1 W')∨(e = .returned (.bool false)∧Jx (pre ++ [x]) W'))
    (h0:J [] W) :
    Calls Try.prog 99 #[.func (.yield l) #[] #[],.pointer (some ⟨Bp,0,none⟩)] W fun e W' => (∃ v,e = .returned v) ∧
     ((∃ xs,keys xs=fr t (t.length+1) 0∧J xs W')∨(∃ pre,keys pre <+: fr t (t.length+1) 0∧Jx pre W')):=by
 have HY:=Lib.hid hY
 have HX:=Lib.hid (And.intro hX ho)
 have HJ:=Lib.hid hJ
 have HBX:=Lib.hid (And.intro hBp hbx)
 have hm2:=hm
 simp only [maxLen] at hm2
 have hcm:c≤9223372036854775807:=by omega
 have H0:=Lib.hid (show FrAt t wS.heap.size Bp w0 J 0 (t.length+1) [] W from ⟨by omega,rfl,h0,Kpt.of hS.size hBp hW⟩)
 have HS:=Lib.hid hS
 have HM:=Lib.hid hm
 clear hY hX ho hJ hm2 hbx hBp h0 hW hm hS
 go_enter Try.func99,Try.ntmps99
 go_wp2_with fail
 go_loopw [3] (fun i wr=>∃ (k f:Nat) (pre:List FE),k≤t.length∧i = .int .i64 k∧Hid (FrAt t wS.heap.size Bp w0 J k f pre wr)) (fun i _=>t.length - (intOf i).toNat)
 case atStart=>exact ⟨0,_,_,Nat.zero_le _,rfl,H0.out⟩
 case round =>
  clear H0
  obtain ⟨k,f,pre,hk,rfl,HL⟩:=hrel
  obtain ⟨f,rfl⟩:∃ g,f=g+1:=⟨f - 1,by have:=HL.out.fu;omega⟩
  have hcl:wr.cell? ⟨Bp,0,none⟩=some (.slice X t.length c):=HL.out.b.cell.trans HBX.out.2
  by_cases h8:t.length < k+8
  ·have h8i:¬ (8:Int)≤(t.length:Int) - (k:Int):=by omega
   go_wp2_with fail
   go_end0
   exact ⟨⟨_,rfl⟩,.inl ⟨pre,by have:=HL.out.eq;rw [fr_end h8,List.append_nil] at this;exact this,HL.out.j⟩⟩
  have h8i:(8:Int)≤(t.length:Int) - (k:Int):=by omega
  obtain ⟨tb,o,hXe,htb,hrr⟩:=HX.out.1 0 (t[0]'(by omega)) (List.getElem?_eq_getElem _)
  clear hrr htb
  subst hXe
  have hck:¬ c=k:=by omega
  have hki:¬ (c:Int)=(k:Int):=by omega
  have HT:=Lib.hid (HX.out.1.up (HS.out.trans HL.out.b.b))
  go_wp2_with fail
  have hdl:(t.drop k).length=t.length - k:=List.length_drop
  refine (num4_any (some ⟨tb,o+k,none⟩) (t.drop k) (t.length - k) (c - k) hdl.symm (by omega) (Oct.drop HX.out.2 k) (by omega) wr (TxtAt.drop HT.out k)).mono ?_
  rintro e w1 ⟨rfl,hB1⟩
  have HB1:=Lib.hid hB1
  have HN:=Lib.hid (num4_in (Oct.drop HX.out.2 k))
  obtain ⟨m,hm⟩:∃ m:Nat,(m:Int)=num4 (t.drop k):=⟨(num4 (t.drop k)).toNat,Int.toNat_of_nonneg HN.out.1⟩
  have hm32:(m:Int) < 4294967296:=by rw [hm];exact HN.out.2
  rw [← hm]
  have HM2:=Lib.hid hm
  have hcl1:w1.cell? ⟨Bp,0,none⟩=some (.slice (some ⟨tb,o,none⟩) t.length c):=keep_cell hcl hB1
  have HJ1:=Lib.hid (abides_below HJ.out HL.out.j hB1)
  clear hm hB1 hcl
  by_cases hbig:65536 < m
  ·have hbi:(65536:Int) < (m:Int):=by omega
   have hfull:=Lib.hid (show fr t (t.length+1) 0=keys (pre ++ [FE.bad]) by have:=HL.out.eq;rw [fr_big h8 (by rw [← HM2.out];exact hbi)] at this;rw [← this,keys_snoc];rfl)
   obtain ⟨fn,tmps,assign,body,hy,hR⟩:=HY.out pre FE.bad w1 HJ1.out FE.bad_at (by rw [hfull.out];exact List.prefix_refl _)
   have HR:=Lib.hid hR
   have hy2:(Instr.yield l #[.int .i64 (-1),.agg Sq.zzR]).run Try.prog w1 = .ok (.round l fn tmps assign body) w1:=hy
   clear hR hy
   go_upto_region 4 with fail
   refine (wpIn_wide (n:=4)).1 ?_
   gi_wp2
   refine HR.out.mono ?_
   rintro e W3 (⟨rfl,hJ3,hk3⟩ | ⟨rfl,hJx3⟩)
   ·have HJ3:=Lib.hid hJ3
    clear hJ3
    gi_wp2
    go_wp2_with fail
    refine bodyPost_ret (results_none rfl _ _ _) rfl ?_
    exact ⟨⟨_,rfl⟩,.inl ⟨_,hfull.out.symm,HJ3.out⟩⟩
   ·have HJ3:=Lib.hid hJx3
    clear hJx3
    gi_wp2
    go_wp2_with fail
    refine bodyPost_ret (results_none rfl _ _ _) rfl ?_
    exact ⟨⟨_,rfl⟩,.inr ⟨_,by rw [hfull.out];exact List.prefix_refl _,HJ3.out⟩⟩
  have hbi:¬ (65536:Int) < (m:Int):=by omega
  have HBI:=Lib.hid hbi
  have hbi2:decide ((65536:Int) < (m:Int))=false:=decide_eq_false hbi
  clear hbig hbi
  by_cases hcut:t.length < k+8+m
  ·have hcu:(t.length:Int) < (k:Int)+8+(m:Int):=by omega
   have HCU:=Lib.hid hcu
   have hcu2:decide ((t.length:Int) < (k:Int)+8+(m:Int))=true:=decide_eq_true hcu
   clear hdl hcu hcut
   go_wp2_with fail
   refine bodyPost_ret (results_none rfl _ _ _) rfl ?_
   exact ⟨⟨_,rfl⟩,.inl ⟨pre,by have:=HL.out.eq;rw [fr_cut h8 (by rw [← HM2.out];have:=HBI.out;omega) (by rw [← HM2.out];exact HCU.out),List.append_nil] at this;exact this,HJ1.out⟩⟩
  have hcu:¬ (t.length:Int) < (k:Int)+8+(m:Int):=by omega
  have HCU:=Lib.hid (And.intro hcut hcu)
  have hcu2:decide ((t.length:Int) < (k:Int)+8+(m:Int))=false:=decide_eq_false hcu
  clear hcut hcu
  go_upto_region 7 with fail
  have hfl:(frT t k).length=m:=by unfold frT;rw [List.length_take,List.length_drop,← HM2.out];have:=HCU.out.1;omega
  have HT1:=Lib.hid (HT.out.up HB1.out)
  have HCX:=Lib.hid (show m+(k+8)≤t.length from by have:=HCU.out.1;omega)
  go_cut [6] from 9 to 63 (fun s6 wx=>∃ (Z:Option Addr) (cz:Nat),s6 = .slice Z m cz∧m≤cz∧cz≤c∧TxtAt wx Z (frT t k)∧wx.cell? ⟨Bp,0,none⟩=some (.slice (some ⟨tb,o,none⟩) t.length c)∧TxtAt wx (some ⟨tb,o,none⟩) t∧J pre wx∧Kpt wS.heap.size Bp w0 wx)
  case first =>
   have HF0:=Lib.hid (show J pre w1∧Kpt wS.heap.size Bp w0 w1 from ⟨HJ1.out,HL.out.b.up HB1.out⟩)
   have HFL:=Lib.hid (And.intro hfl hc)
   have hcB:(k:Int)+8+(m:Int)≤(c:Int):=by have:=HCX.out;omega
   by_cases hk8:c=k+8
   ·have hki8:(c:Int)=(k:Int)+8:=by omega
    have HK8:=Lib.hid hk8
    clear hk8 hdl hck hki hbi2 hcu2 h8 h8i hk hm32 hc hl hki8 hfl
    go_wp2_with fail
    go_meet
    refine ⟨_,0,rfl,by have:=HCX.out;have:=HFL.out.2;have:=HK8.out;omega,Nat.zero_le _,?_,hcl1,HT1.out,HF0.out.1,HF0.out.2⟩
    intro i x hi
    have:=(List.getElem?_eq_some_iff.1 hi).1
    have:=HCX.out;have:=HFL.out;have:=HK8.out
    omega
   ·have hki8:¬ (c:Int)=(k:Int)+8:=by omega
    have HK8:=Lib.hid hk8
    clear hdl hck hki hbi2 hcu2 h8 h8i hk hm32 hc hl hki8 hfl
    go_wp2_with fail
    go_meet
    exact ⟨_,c - (k+8),rfl,by have:=HCX.out;have:=HFL.out.2;omega,Nat.sub_le _ _,TxtAt.take (TxtAt.drop HT1.out (k+8)) _,hcl1,HT1.out,HF0.out.1,HF0.out.2⟩
  case rest =>
   clear HT HT1 HB1 HJ1 hcl1
   obtain ⟨Z,cz,rfl,hnc,hcz,hZ,hcl2,hT2,hJ2,hB2⟩:=hcut
   have HW2:=Lib.hid (And.intro hZ (And.intro hT2 (And.intro hJ2 (And.intro hB2 (And.intro hnc (And.intro hcz (And.intro hfl hc)))))))
   have HKK:=Lib.hid (And.intro h8 (And.intro hk hl))
   clear hZ hT2 hJ2 hB2 hnc hcz hfl hc h8 hk hl hdl hck hki hbi2 hcu2 h8i hm32
   go_wp2_with fail
   refine (read_at Z (frT t k) m cz HW2.out.2.2.2.2.2.2.1.symm wc HW2.out.1 (Oct.take (Oct.drop HX.out.2 _) _) HW2.out.2.2.2.2.1 (Nat.le_trans HW2.out.2.2.2.2.2.1 HM.out)).mono ?_
   rintro e w2 ⟨⟨x,Y,cy,rfl,hI⟩,hB⟩
   have hI:=recR.mono hI HW2.out.2.2.2.1.b.size
   obtain ⟨q,hq⟩:∃ q,q=(readV (frT t k)).1:=⟨_,rfl⟩
   obtain ⟨v,hv⟩:∃ v,v=(readV (frT t k)).2:=⟨_,rfl⟩
   rw [← hq] at hI
   rw [← hq,← hv]
   have HQ:=Lib.hid (And.intro hq hv)
   have HB:=Lib.hid hB
   have HI:=Lib.hid hI
   have x5:=box_full (W:=w2) 51 Sq.zzR (vs:=rL q x Y cy) rfl
   clear hq hv hB hI
   go_upto_region 9 with (first | (refine wpList_store_mid rfl 51 _ _ rfl w2.heap.size 0 (rL q x Y cy).toArray rfl rfl (there_of (Blk.new w2 51 Sq.zzR) (Nat.le_of_ble_eq_true rfl)) (by kernel_rfl) (by kernel_rfl) ?_;simp only [List.toList_toArray];generalize World.setCells _ _ _ _=W5 at *;(try simp only [Act.put])))
   have HB5:=Lib.hid (below_up HB.out x5.2)
   have KB:=Lib.hid (And.intro x5.1 (at_below HI.out x5.2))
   obtain ⟨g5,hg5⟩:∃ n,n=w2.heap.size:=⟨_,rfl⟩
   rw [← hg5] at KB
   rw [← hg5]
   have hcl5:W5.cell? ⟨Bp,0,none⟩=some (.slice (some ⟨tb,o,none⟩) t.length c):=keep_cell hcl2 HB5.out
   have H5:=Lib.hid (And.intro (HW2.out.1.up HB5.out) (And.intro (HW2.out.2.1.up HB5.out) (And.intro (abides_below HJ.out HW2.out.2.2.1 HB5.out) (HW2.out.2.2.2.1.up HB5.out))))
   clear x5 HI HB hg5 hcl2
   obtain ⟨m1,hm1⟩:∃ n,n=mk 0 (frT t k):=⟨_,rfl⟩
   obtain ⟨m2,hm2⟩:∃ n,n=num4 (t.drop (k+4)):=⟨_,rfl⟩
   have HMK:=Lib.hid (And.intro hm1 hm2)
   clear hm1 hm2
   go_cut [54] from 9 to 63 (fun s54 wx=>s54 = .bool (!decide (frOk t k))∧Below W5.heap.size W5 wx)
   case first =>
    by_cases hv0:v=0
    ·have hv1:(v != 0)=false:=by simpa using hv0
     have HV0:=Lib.hid hv0
     clear hv0
     have HOF:=Lib.hid (show Calls Try.prog 68 #[.slice (some ⟨W5.heap.size,0,none⟩) 1 1] (W5.drew.alloc (.cells #[.slice Z m cz] 37)) fun e w' => e = .returned (.int .u32 m1)∧Below W5.heap.size W5 w' from by
      have h:=of_txt Z m cz (frT t k) HW2.out.2.2.2.2.2.2.1.symm (Oct.take (Oct.drop HX.out.2 _) _) (by have:=HW2.out.2.2.2.2.2.2.1;have:=HBI.out;omega) W5.drew 37 (H5.out.1.up (Below.refl _ W5).drew)
      rw [← HMK.out.1] at h
      exact h.mono fun e w' q=>⟨q.1,(Below.drew (Below.refl _ W5)).trans q.2⟩)
     have HNU:=Lib.hid (show ∀ W:World,Below W5.heap.size W5 W→Calls Try.prog 100 #[.slice (some ⟨tb,o+(k+4),none⟩) (t.length - (k+4)) (c - (k+4))] W fun e w' => e = .returned (.int .u32 m2)∧Below W.heap.size W w' from fun W hW=>by
      have h:=num4_any (some ⟨tb,o+(k+4),none⟩) (t.drop (k+4)) (t.length - (k+4)) (c - (k+4)) List.length_drop.symm (by rw [List.length_drop];have:=HKK.out.1;omega) (Oct.drop HX.out.2 _) (by rw [List.length_drop];have:=HKK.out.2.2;omega) W (TxtAt.drop (H5.out.2.1.up hW) (k+4))
      rw [← HMK.out.2] at h
      exact h)
     have K0:KeptL W5 [(⟨Bp,0,none⟩,.slice (some ⟨tb,o,none⟩) t.length c)] W5.drew:=KeptL.drew ⟨Below.refl _ _,hcl5⟩
     have K00:KeptL W5 [(⟨Bp,0,none⟩,.slice (some ⟨tb,o,none⟩) t.length c)] W5:=⟨Below.refl _ _,hcl5⟩
     have hk4a:(k:Int)+4≤(t.length:Int):=by have:=HKK.out.1;omega
     have s1:IntKind.i64.wrap ((k:Int)+4)=(k:Int)+4:=IntWalk.i64_in _ (by have:=HKK.out.2.1;have:=HKK.out.2.2;omega)
     have hk4n:k+4≤t.length:=by have:=HKK.out.1;omega
     have hk4m:t.length≤c:=HW2.out.2.2.2.2.2.2.2
     have hk4o:k+4≤c:=by omega
     have hk4p:(k:Int)+4≤(c:Int):=by omega
     have hk4b:(t.length:Int)≤(c:Int):=by have:=HW2.out.2.2.2.2.2.2.2;omega
     have hk4c:(0:Int)≤(k:Int)+4:=by omega
     have hk4d:¬ c=k+4:=by have:=HKK.out.1;have:=HW2.out.2.2.2.2.2.2.2;omega
     have hk4e:k+4≤9223372036854775807:=by have:=HKK.out.2.1;have:=HKK.out.2.2;omega
     go_region_held3 (fun W=>Below W5.heap.size W5 W∧W.cell? ⟨Bp,0,none⟩=some (.slice (some ⟨tb,o,none⟩) t.length c)) (first | exact K0 | (exact (fun h=>KeptL.up K00 h) (by assumption)) | exact KeptL.alloc (fs:=[(⟨Bp,0,none⟩,.slice (some ⟨tb,o,none⟩) t.length c)]) (by assumption) _ | exact KeptL.up (fs:=[(⟨Bp,0,none⟩,.slice (some ⟨tb,o,none⟩) t.length c)]) (by assumption) (by assumption) | assumption)
      (first
       | (go_at_call 68;refine HOF.out.mono ?_;rintro e w6 ⟨rfl,hB6⟩)
       | (go_at_call 100;refine (HNU.out _ (And.left (by assumption))).mono ?_;rintro e w7 ⟨rfl,hB7⟩))
     all_goals
      go_wp2_with fail
      go_meet
      refine ⟨?_,And.left (by assumption)⟩
      have hz:=ok_v HV0.out HQ.out.2 HMK.out.1 HMK.out.2
      first | exact congrArg Value.bool hz | (simp only [← hz];done) | trace_state
    ·have hv1:(v != 0)=true:=by simpa using hv0
     have HV0:=Lib.hid hv0
     clear hv0
     have kq0:=cell_regrown hcl5
     refine wp_region_quiet_below (by kernel_rfl) (by kernel_rfl) ?_
     repeat (go_big_quiet_step (first | fail))
     refine wpQuiet_nil ?_
     intro _ hw'
     obtain ⟨⟨dq,osq⟩,hw''⟩:=hw'
     subst hw''
     have hBq:=below_regrown W5 dq osq
     clear kq0
     generalize grow (redrawn W5 dq) osq=wq at *
     go_wp2_with fail
     go_meet
     exact ⟨by rw [decide_eq_false (show ¬ frOk t k from fun h=>HV0.out (HQ.out.2.trans h.1))];rfl,hBq⟩
   case rest =>
    obtain ⟨rfl,hBx⟩:=hcut
    have HJ6:=Lib.hid (And.intro (abides_below HJ.out H5.out.2.2.1 hBx) (H5.out.2.2.2.up hBx))
    have KX:=Lib.hid (And.intro (KB.out.1.below hBx KB.out.1.lt) (at_below KB.out.2 hBx))
    clear hBx hcl5 KB HB5
    have hf1:¬ 65536 < num4 (t.drop k):=by rw [← HM2.out];have:=HBI.out;omega
    have hf2:¬ (t.length:Int) < (k:Int)+8+num4 (t.drop k):=by rw [← HM2.out];have:=HCX.out;omega
    have HF:=Lib.hid (And.intro hf1 hf2)
    clear hf1 hf2
    by_cases hok:frOk t k
    rotate_left
    ·have hd:decide (frOk t k)=false:=decide_eq_false hok
     have HOK:=Lib.hid hok
     have hfull:=Lib.hid (show fr t (t.length+1) 0=keys (pre ++ [FE.bad]) by have:=HL.out.eq;rw [fr_bad (by have:=HKK.out.1;omega) (by have:=HF.out.1;omega) (by have:=HF.out.2;omega) HOK.out] at this;rw [← this,keys_snoc];rfl)
     obtain ⟨fn,tmps,assign,body,hy,hR⟩:=HY.out pre FE.bad wc HJ6.out.1 FE.bad_at (by rw [hfull.out];exact List.prefix_refl _)
     have HR:=Lib.hid hR
     have hy2:(Instr.yield l #[.int .i64 (-1),.agg Sq.zzR]).run Try.prog wc = .ok (.round l fn tmps assign body) wc:=hy
     clear hR hy hok
     simp only [hd,Bool.not_false]
     go_upto_region 10 with fail
     refine (wpIn_wide (n:=4)).1 ?_
     gi_wp2
     refine HR.out.mono ?_
     rintro e W3 (⟨rfl,hJ3,hk3⟩ | ⟨rfl,hJx3⟩)
     ·have HJ3:=Lib.hid hJ3
      clear hJ3
      gi_wp2
      go_wp2_with fail
      refine bodyPost_ret (results_none rfl _ _ _) rfl ?_
      exact ⟨⟨_,rfl⟩,.inl ⟨_,hfull.out.symm,HJ3.out⟩⟩
     ·have HJ3:=Lib.hid hJx3
      clear hJx3
      gi_wp2
      go_wp2_with fail
      refine bodyPost_ret (results_none rfl _ _ _) rfl ?_
      exact ⟨⟨_,rfl⟩,.inr ⟨_,by rw [hfull.out];exact List.prefix_refl _,HJ3.out⟩⟩
    have hd:decide (frOk t k)=true:=decide_eq_true hok
    have HOK:=Lib.hid hok
    obtain ⟨E,hE⟩:∃ E:FE,E=⟨(k:Int)+8+(m:Int),q,x,Y,cy⟩:=⟨_,rfl⟩
    have HE:=Lib.hid hE
    have R6:=Lib.hid (show wc.rangeAt g5 0 (rL q x Y cy) from range_part (n:=45) KX.out.1 rfl)
    have hfull:=Lib.hid (show fr t (t.length+1) 0=keys (pre ++ [E]) ++ fr t f (k+8+m) by
     have:=HL.out.eq
     rw [fr_ok (by have:=HKK.out.1;omega) (by have:=HF.out.1;omega) (by have:=HF.out.2;omega) HOK.out,← HM2.out,← HQ.out.1,Int.toNat_natCast] at this
     rw [← this,keys_snoc,List.append_assoc,HE.out]
     rfl)
    obtain ⟨fn,tmps,assign,body,hy,hR⟩:=HY.out pre E wc HJ6.out.1 (by rw [hE];exact KX.out.2) (by rw [hfull.out];exact List.prefix_append _ _)
    have HR:=Lib.hid hR
    rw [hE] at hy
    have hy2:(Instr.yield l #[.int .i64 ((k:Int)+8+(m:Int)),.agg (rL q x Y cy).toArray]).run Try.prog wc = .ok (.round l fn tmps assign body) wc:=hy
    clear hR hy hok hE
    simp only [hd,Bool.not_true]
    go_upto_region 12 with fail
    refine (wpIn_wide (n:=4)).1 ?_
    gi_wp2_with (first | (refine wpListIn_load_mid rfl 51 _ rfl g5 0 rfl (rL q x Y cy) _ R6.out Try.underlying51 rfl (by kernel_rfl) ?_))
    refine HR.out.mono ?_
    rintro e W3 (⟨rfl,hJ3,hk3⟩ | ⟨rfl,hJx3⟩)
    ·have HJ3:=Lib.hid (And.intro hJ3 hk3)
     clear hJ3 hk3
     gi_wp2
     go_wp2_with fail
     go_roundw
     case rel=>exact ⟨k+8+m,f,pre ++ [E],by have:=HCX.out;omega,by go_num,⟨by have:=HL.out.fu;omega,hfull.out.symm,HJ3.out.1,HJ6.out.2.trans HJ3.out.2⟩⟩
     case measure=>have:=HCX.out;simp [intOf];omega
    ·have HJ3:=Lib.hid hJx3
     clear hJx3
     gi_wp2
     go_wp2_with fail
     refine bodyPost_ret (results_none rfl _ _ _) rfl ?_
     exact ⟨⟨_,rfl⟩,.inr ⟨_,by rw [hfull.out];exact List.prefix_append _ _,HJ3.out⟩⟩
end Go.Proofs.Ytfdldbfjeamlcaa.LogFrames
namespace Go.Proofs.Ytfdldbfjeamlcaa.LogAllV
set_option maxRecDepth 100000
set_option maxHeartbeats 6000000
open Go Go.RowKit MarkMath Mem SeqKit RecMem RecByte RecNum RecEach RecMath RecCod RecVal RecSame RecWr0 RecRecC RecOwn RecCmdJ RecRd RecRL0 RecRRec RecRead RecAt RecAll LogFour LogJoin LogWrap RangeGiven LogFrm LogFrames
attribute [local go_sem] Oper.semAt_some
abbrev LT:TypeId:=86
abbrev ET:TypeId:=38
theorem frames_in (F:Fence) (n:Nat) (hf:F.fn 70) (hro:F.round=none) (v:Value) (w:World) (hv:v.oneCell' = true) :
    CallsIn F n Try.prog 70 #[v] w fun e w' => e = .returned (.func (.func 99) #[] #[.pointer (some ⟨w.heap.size,0,none⟩)])∧w' = w.alloc (.cells #[v] 37):=by
 refine callsIn_of_wp Try.func70 rfl hf ?_ hro
 simp only [Try.ntmps70,List.size_toArray,List.length_cons,List.length_nil,Nat.reduceAdd,Nat.reduceSub,Array.replicate_succ,Array.replicate_zero,List.push_toArray,List.append_toArray,List.nil_append,List.cons_append]
 gi_wp2
 go_ret
 exact ⟨rfl,rfl⟩
theorem frames_seq (Bp:Nat) (X:Option Addr) (c:Nat) (t:Bs) (ho:Oct t) (hc:t.length≤c) (hm:c≤maxLen) (hl:t.length≤4611686018427387904) (wS w0:World) (hS:Below wS.heap.size wS w0) (hBp:Bp < w0.heap.size) (hbx:w0.cell? ⟨Bp,0,none⟩=some (.slice X t.length c)) (hX:TxtAt wS X t) :
    SeqR Fence.wide 4 Try.prog 99 #[.pointer (some ⟨Bp,0,none⟩)] FE.enc (Kpt wS.heap.size Bp) (FE.R w0.heap.size) (fun xs=>keys xs=fr t (t.length+1) 0) (fun pre=>keys pre <+: fr t (t.length+1) 0) w0:=fun l J Jx W hW hJ _ hY h0 =>
 callsIn_wide.2 (frames1_any l Bp X c t ho hc hm hl wS w0 hS hBp hbx hX J Jx W hW hJ hY h0)
def endOf (l:List FE):Int:=(l.getLast?.map FE.e).getD 0
theorem endOf_snoc (l:List FE) (x:FE):endOf (l ++ [x])=x.e:=by simp [endOf]
structure AllIn (n0 B:Nat) (w0:World) (pre:List FE) (W:World):Prop where
 row:∃ V c,Blk W B LT #[.slice V pre.length c]∧recsR.At W w0.heap.size (pre.map FE.r) [.slice V pre.length c]
 c1:Blk W (B+1) INT #[.int .i64 (endOf pre)]
 c2:Blk W (B+2) ET #[.int .i64 0]
 ng:∀ x ∈ pre,¬ x.e < 0
 kp:Kpt n0 (B+3) w0 W
structure AllX (n0 B:Nat) (w0:World) (pre:List FE) (W:World):Prop where
 c0:Blk W B LT #[.slice none 0 0]
 c1:Blk W (B+1) INT #[.int .i64 0]
 c2:Blk W (B+2) ET #[.int .i64 290]
 ng:∃ x ∈ pre,x.e < 0
 kp:Kpt n0 (B+3) w0 W
theorem Kpt.grown {n0 Bp F:Nat} {w0 W W':World} {row:Option Nat} (h:Kpt n0 Bp w0 W) (hF:F=w0.heap.size) (hg:W.grownBy W' row) (hr:∀ r,row=some r→F≤r):Kpt n0 Bp w0 W':=by
 subst hF
 have ha:∀ k,k < w0.heap.size→W'.heap[k]? = W.heap[k]?:=fun k hk=>hg.block k (Nat.lt_of_lt_of_le hk h.b.size) fun e=>by have:=hr k e.symm;omega
 exact h.trans ⟨⟨hg.os,hg.tape,hg.output,hg.size,fun k hk=>ha k (Nat.lt_of_lt_of_le hk h.lo)⟩,ha Bp h.hb,Nat.le_trans h.lo h.b.size,Nat.lt_of_lt_of_le h.hb h.b.size⟩
theorem own_blk {F g:Nat} {t:TypeId} {cs:Array Value} {W W':World} {row:Option Nat} (h:Blk W g t cs) (hg:W.grownBy W' row) (hr:∀ r,row=some r→F≤r∧∃ o:Obj,W.heap[r]? = some o∧o.isCells=false):Blk W' g t cs:=h.grown hg fun e=>by
 obtain ⟨_,o,ho,hc⟩:=hr g e.symm
 rw [show W.heap[g]? = _ from h] at ho
 cases ho
 cases hc
theorem own_in (n0 B:Nat) (w0:World):OwnFrom w0.heap.size (AllIn n0 B w0):=fun pre W W' row hs hg hr=>by
 obtain ⟨⟨V,c,h0,h1⟩,h2,h3,h4,h5⟩:=hs
 exact ⟨⟨V,c,own_blk h0 hg hr,at_grown keeps_none h1 hg (fun r e=>(hr r e).2)⟩,own_blk h2 hg hr,own_blk h3 hg hr,h4,Kpt.grown h5 rfl hg (fun r e=>(hr r e).1)⟩
theorem own_x (n0 B:Nat) (w0:World) (c:Code):OwnFrom w0.heap.size (fun pre W=>c = .ret∧AllX n0 B w0 pre W):=fun pre W W' row hs hg hr=>by
 obtain ⟨hc,h0,h1,h2,h3,h4⟩:=hs
 exact ⟨hc,own_blk h0 hg hr,own_blk h1 hg hr,own_blk h2 hg hr,h3,Kpt.grown h4 rfl hg (fun r e=>(hr r e).1)⟩
theorem own_r (w0:World):OwnFrom w0.heap.size (FE.R w0.heap.size):=fun x W W' row hs hg hr=>at_grown keep_none hs hg (fun r e=>(hr r e).2)
theorem loadVar_slice {P:Program} {w:World} {ty e:TypeId} {a:Addr} {v:Value} (hu:P.underlying ty=some (.slice e)) (hc:w.cell? a=some v):(loadVar ty a).run P w = .ok v w:=by
 simp [loadVar,isAgg,run_underlying hu,go_sem,hc]
theorem results_three {P:Program} {fn:Func} {p q s:Tmp} {ty ty2 ty3 e:TypeId} {k k3:IntKind} (h:fn.results=#[.cell p ty,.cell q ty2,.cell s ty3]) (tmps:Array Value) (w:World) (g g2 g3:Nat) (v0 v v3:Value)
    (hp:tmps.getD p undef = .pointer (some ⟨g,0,none⟩)) (hq:tmps.getD q undef = .pointer (some ⟨g2,0,none⟩)) (hs:tmps.getD s undef = .pointer (some ⟨g3,0,none⟩)) (h0:w.cell? ⟨g,0,none⟩=some v0) (hc:w.cell? ⟨g2,0,none⟩=some v) (h3:w.cell? ⟨g3,0,none⟩=some v3)
    (hu:P.underlying ty=some (.slice e)) (hu2:P.underlying ty2=some (.int k)) (hu3:P.underlying ty3=some (.int k3)) :
    (results fn tmps).run P w = .ok (.tuple #[v0,v,v3]) w:=by
 have hp':tmps[p]?.getD undef = .pointer (some ⟨g,0,none⟩):=by simpa using hp
 have hq':tmps[q]?.getD undef = .pointer (some ⟨g2,0,none⟩):=by simpa using hq
 have hs':tmps[s]?.getD undef = .pointer (some ⟨g3,0,none⟩):=by simpa using hs
 simp [results,h,hp',hq',hs',asAddr,loadVar_slice hu h0,loadVar_int hu2 hc,loadVar_int hu3 h3]
def AllPost (t:Bs) (w:World) (e:Ending) (w':World):Prop:=
 (((∀ p ∈ fr t (t.length+1) 0,¬ p.1 < 0)∧∃ V c,e = .returned (.tuple #[.slice V (fr t (t.length+1) 0).length c,.int .i64 (((fr t (t.length+1) 0).getLast?.map (·.1)).getD 0),.int .i64 0])∧recsR.At w' w.heap.size ((fr t (t.length+1) 0).map (·.2)) [.slice V (fr t (t.length+1) 0).length c]) ∨
  ((∃ p ∈ fr t (t.length+1) 0,p.1 < 0)∧e = .returned (.tuple #[.slice none 0 0,.int .i64 0,.int .i64 290])))∧Below w.heap.size w w'
theorem AllIn.up {n0 B:Nat} {w0:World} {pre:List FE} {W W':World} (h:AllIn n0 B w0 pre W) (hB:Below W.heap.size W W'):AllIn n0 B w0 pre W':=own_in n0 B w0 pre W W' none h (grown_of_below hB) (fun r e=>by cases e)
theorem keeps_below {F:Nat} {W W':World} (hB:Below W.heap.size W W'):KeepsFrom F W W':=⟨hB.size,fun k o _ hk _=>(hB.block k (Array.getElem?_eq_some_iff.1 hk).1).trans hk⟩
theorem push {n0 B:Nat} {w0 W w3:World} {pre:List FE} {x:FE} {V V2:Option Addr} {c c2:Nat} {xs:List Value} {ob:Obj} (hn:n0≤B) (hF:w0.heap.size=B+4) (hI:AllIn n0 B w0 pre W) (hb:Blk W B LT #[.slice V pre.length c])
    (ho:W.ownsRow w0.heap.size RECT 45 (.slice V pre.length c) pre.length xs) (he:∀ i y,(pre.map FE.r)[i]? = some y→recR.At W w0.heap.size y ((xs.drop (i*recR.n)).take recR.n)) (hx:x.R w0.heap.size W) (hng:¬ x.e < 0)
    (ho3:w3.ownsRow w0.heap.size RECT 45 (.slice V2 (pre.length+1) c2) (pre.length+1) (xs ++ rL x.r x.x x.Y x.cy)) (hg:(W.alloc ob).grownBy w3 (Value.slice V pre.length c).ownBlock) :
    Blk w3 B LT #[.slice V pre.length c]∧Blk w3 (B+1) INT #[.int .i64 (endOf pre)]∧KeepsFrom w0.heap.size W ((w3.setCell ⟨B,0,none⟩ (.slice V2 (pre.length+1) c2)).setCell ⟨B+1,0,none⟩ (.int .i64 x.e))∧Kpt n0 (B+3) W ((w3.setCell ⟨B,0,none⟩ (.slice V2 (pre.length+1) c2)).setCell ⟨B+1,0,none⟩ (.int .i64 x.e)) ∧
    AllIn n0 B w0 (pre ++ [x]) ((w3.setCell ⟨B,0,none⟩ (.slice V2 (pre.length+1) c2)).setCell ⟨B+1,0,none⟩ (.int .i64 x.e)):=by
 have hsW:=hI.kp.b.size
 have hown:∀ g,(Value.slice V pre.length c).ownBlock=some g→w0.heap.size≤g∧∃ cur,W.heap[g]? = some (.cells cur RECT (0,0)):=fun g hgo=>by
  obtain ⟨a,_,q⟩:=own_ge ho hgo
  exact ⟨a,q⟩
 have hlow:∀ k,k < w0.heap.size→w3.heap[k]? = W.heap[k]?:=fun k hk=>by
  rw [hg.block k (by simp;omega) (fun e=>by have:=(hown k e.symm).1;omega),Below.heap_alloc W ob k (by omega)]
 have b0:Blk w3 B LT #[.slice V pre.length c]:=(hlow B (by omega)).trans hb
 have b1:Blk w3 (B+1) INT #[.int .i64 (endOf pre)]:=(hlow _ (by omega)).trans hI.c1
 have b2:Blk w3 (B+2) ET #[.int .i64 0]:=(hlow _ (by omega)).trans hI.c2
 obtain ⟨W',hW'⟩:∃ W',W' = (w3.setCell ⟨B,0,none⟩ (.slice V2 (pre.length+1) c2)).setCell ⟨B+1,0,none⟩ (.int .i64 x.e):=⟨_,rfl⟩
 rw [← hW']
 have hsame:∀ k,k≠B→k≠B+1→W'.heap[k]? = w3.heap[k]?:=fun k h1 h2=>by
  rw [hW',Below.heap_setCell _ _ _ k (by simpa using h2),Below.heap_setCell _ _ _ k (by simpa using h1)]
 have hsz:W.heap.size≤W'.heap.size:=by
  rw [hW'];have:=hg.size;simp at this ⊢;omega
 have hag:∀ k o,w0.heap.size≤k→W.heap[k]? = some o→(∀ cs,o≠.cells cs RECT (0,0))→W'.heap[k]? = W.heap[k]?:=fun k o hk hh hne=>by
  have hl:=(Array.getElem?_eq_some_iff.1 hh).1
  rw [hsame k (by omega) (by omega),hg.block k (by simp;omega) (fun e=>by
   obtain ⟨_,cur,hc⟩:=hown k e.symm
   rw [hc] at hh
   injection hh with hh
   exact hne cur hh.symm),Below.heap_alloc W ob k hl]
 have hkr:∀ (y:RV) (vs:List Value),recR.At W w0.heap.size y vs→recR.At W' w0.heap.size y vs:=fun y vs hy=>keep_row _ _ _ _ _ hy fun k cs e' he' hk hh=>hag k _ hk hh (fun cs' e=>by injection e with _ e;exact he' e)
 have hKpt:Kpt n0 (B+3) W W':=by
  refine ⟨?_,?_,by omega,by omega⟩
  ·rw [hW']
   have h3:Below n0 W w3:=⟨hg.os,hg.tape,hg.output,by have:=hg.size;simp at this;omega,fun k hk=>hlow k (by omega)⟩
   exact (h3.setCell (p:=⟨B,0,none⟩) hn _).setCell (p:=⟨B+1,0,none⟩) (by show n0≤B+1;omega) _
  ·rw [hsame _ (by omega) (by omega)];exact hlow _ (by omega)
 have hlen:xs.length=pre.length*45:=ho.1
 refine ⟨b0,b1,⟨hsz,fun k o hk hh hc=>(hag k o hk hh (fun cs e=>by subst e;cases hc)).trans hh⟩,hKpt,⟨V2,c2,?_,V2,c2,xs ++ rL x.r x.x x.Y x.cy,?_,?_,?_⟩,?_,?_,?_,hI.kp.trans hKpt⟩
 ·rw [hW',List.length_append]
  exact (b0.set_ 0 (.slice V2 (pre.length+1) c2)).far (p:=⟨B+1,0,none⟩) (by show B≠B+1;omega) _
 ·simp
 ·rw [hW']
  have e:(List.map FE.r (pre ++ [x])).length=pre.length+1:=by simp
  rw [e]
  exact Go.ownsRow_setCell_other (Go.ownsRow_setCell_other ho3 (a:=⟨B,0,none⟩) (fun e1=>by have:=(own_ge ho3 e1).1;simp at this;omega) _) (a:=⟨B+1,0,none⟩) (fun e1=>by have:=(own_ge ho3 e1).1;simp at this;omega) _
 ·intro i y hi
  rw [List.map_append] at hi
  rcases Nat.lt_or_ge i pre.length with hlt | hge
  ·rw [List.getElem?_append_left (by simpa using hlt)] at hi
   have hik:(i+1)*45≤pre.length*45:=Nat.mul_le_mul_right _ hlt
   rw [show recR.n=45 from rfl,List.drop_append_of_le_length (by omega),List.take_append_of_le_length (by rw [List.length_drop];omega)]
   exact hkr _ _ (he i y hi)
  ·rw [List.getElem?_append_right (by simpa using hge)] at hi
   have hi0:i=pre.length:=by
    have:=(List.getElem?_eq_some_iff.1 hi).1
    simp at this;omega
   subst hi0
   simp at hi
   subst hi
   rw [show recR.n=45 from rfl,← hlen,List.drop_left,List.take_of_length_le (Nat.le_refl 45)]
   exact hkr _ _ hx
 ·rw [hW',endOf_snoc]
  exact (b1.far (p:=⟨B,0,none⟩) (by show B+1≠B;omega) _).set_ 0 (.int .i64 x.e)
 ·rw [hW']
  exact (b2.far (p:=⟨B,0,none⟩) (by show B+2≠B;omega) _).far (p:=⟨B+1,0,none⟩) (by show B+2≠B+1;omega) _
 ·intro y hy
  rcases List.mem_append.1 hy with h | h
  ·exact hI.ng y h
  ·simp at h;subst h;exact hng
theorem keys_len (l:List FE):(keys l).length=l.length:=by simp [keys]
theorem keys_r (l:List FE):(keys l).map (·.2)=l.map FE.r:=by simp [keys,FE.key]
theorem keys_end (l:List FE):((keys l).getLast?.map (·.1)).getD 0=endOf l:=by
 unfold keys endOf
 rw [List.getLast?_map]
 cases l.getLast? <;> rfl
theorem post_ok {t:Bs} {w W0 W:World} {xs:List FE} {V:Option Addr} {c:Nat} (hS:keys xs=fr t (t.length+1) 0) (hI:AllIn w.heap.size w.heap.size W0 xs W) (hA:recsR.At W W0.heap.size (xs.map FE.r) [.slice V xs.length c]) (hB:Below w.heap.size w W) :
    AllPost t w (.returned (.tuple #[.slice V xs.length c,.int .i64 (endOf xs),.int .i64 0])) W:=by
 unfold AllPost
 rw [← hS,keys_len,keys_r,keys_end]
 refine ⟨.inl ⟨fun p hp=>?_,V,c,rfl,recsR.mono hA hI.kp.lo⟩,hB⟩
 obtain ⟨x,hx,rfl⟩:=List.mem_map.1 hp
 exact hI.ng x hx
theorem post_bad {t:Bs} {w W:World} {pre:List FE} (hS:keys pre <+: fr t (t.length+1) 0) (hn:∃ x ∈ pre,x.e < 0) (hB:Below w.heap.size w W):AllPost t w (.returned (.tuple #[.slice none 0 0,.int .i64 0,.int .i64 290])) W:=by
 obtain ⟨x,hx,h⟩:=hn
 exact ⟨.inr ⟨⟨x.key,hS.subset (List.mem_map.2 ⟨x,hx,rfl⟩),h⟩,rfl⟩,hB⟩
theorem fr_len (t:Bs):∀ f k,(fr t f k).length≤f
 | 0,k=>by simp [fr]
 | f+1,k=>by
  unfold fr
  have:=fr_len t f (k+8+(num4 (t.drop k)).toNat)
  split
  ·simp
  split
  ·simp
  split
  ·simp
  split
  ·simp;omega
  ·simp
theorem r_info:(Try.prog.info? RECT).map (fun i=>(i.zero,i.size,i.bytes))=some (some (.agg zA),45,464):=by kernel_rfl
theorem all_any (X:Option Addr) (c:Nat) (t:Bs) (ho:Oct t) (hc:t.length≤c) (hm:c≤maxLen) (hl:t.length≤1000000000) (w:World) (hX:TxtAt w X t) :
    Calls Try.prog 39 #[.slice X t.length c] w fun e w' => AllPost t w e w':=by
 refine (callsIn_wide (n:=5)).1 ?_
 refine callsIn_of_wp_marks Try.func39 rfl trivial ?_ rfl
 simp only [Try.ntmps39,List.size_toArray,List.length_cons,List.length_nil,Nat.reduceAdd,Nat.reduceSub,Array.replicate_succ,Array.replicate_zero,List.push_toArray,List.append_toArray,List.nil_append,List.cons_append]
 obtain ⟨i0,hi0,hz0,hz1,hz2⟩:=info_parts r_info
 have HI:=Lib.hid (And.intro hi0 (And.intro hz0 (And.intro hz1 hz2)))
 clear hi0 hz0 hz1 hz2
 have HX:=Lib.hid hX
 have HC:=Lib.hid (And.intro hc (And.intro hm hl))
 clear hX hc hm hl
 gi_wp2_with (refine ⟨trivial,?_⟩;gi_at_call 70;refine (frames_in Fence.wide 4 trivial rfl _ _ rfl).mono ?_;rintro e w' ⟨rfl,rfl⟩)
 have k0:Blk ((((w.alloc (.cells #[.slice none 0 0] LT)).alloc (.cells #[.int .i64 0] INT)).alloc (.cells #[.int .i64 0] ET)).alloc (.cells #[.slice X t.length c] 37)) w.heap.size LT #[.slice none 0 0]:=(((Blk.new w LT _).alloc _).alloc _).alloc _
 have k1:Blk ((((w.alloc (.cells #[.slice none 0 0] LT)).alloc (.cells #[.int .i64 0] INT)).alloc (.cells #[.int .i64 0] ET)).alloc (.cells #[.slice X t.length c] 37)) (w.heap.size+1) INT #[.int .i64 0]:=by
  have h:=((Blk.new (w.alloc (.cells #[.slice none 0 0] LT)) INT #[.int .i64 0]).alloc (.cells #[.int .i64 0] ET)).alloc (.cells #[.slice X t.length c] 37)
  rwa [World.size_alloc] at h
 have k2:Blk ((((w.alloc (.cells #[.slice none 0 0] LT)).alloc (.cells #[.int .i64 0] INT)).alloc (.cells #[.int .i64 0] ET)).alloc (.cells #[.slice X t.length c] 37)) (w.heap.size+2) ET #[.int .i64 0]:=by
  have h:=(Blk.new ((w.alloc (.cells #[.slice none 0 0] LT)).alloc (.cells #[.int .i64 0] INT)) ET #[.int .i64 0]).alloc (.cells #[.slice X t.length c] 37)
  rwa [World.size_alloc,World.size_alloc] at h
 have k3:Blk ((((w.alloc (.cells #[.slice none 0 0] LT)).alloc (.cells #[.int .i64 0] INT)).alloc (.cells #[.int .i64 0] ET)).alloc (.cells #[.slice X t.length c] 37)) (w.heap.size+3) 37 #[.slice X t.length c]:=by
  have h:=Blk.new (((w.alloc (.cells #[.slice none 0 0] LT)).alloc (.cells #[.int .i64 0] INT)).alloc (.cells #[.int .i64 0] ET)) 37 #[.slice X t.length c]
  rwa [World.size_alloc,World.size_alloc,World.size_alloc] at h
 have hB0:Below w.heap.size w ((((w.alloc (.cells #[.slice none 0 0] LT)).alloc (.cells #[.int .i64 0] INT)).alloc (.cells #[.int .i64 0] ET)).alloc (.cells #[.slice X t.length c] 37)):=below_alloc (below_alloc (below_alloc (below_alloc (Below.refl _ w))))
 have hs0:((((w.alloc (.cells #[.slice none 0 0] LT)).alloc (.cells #[.int .i64 0] INT)).alloc (.cells #[.int .i64 0] ET)).alloc (.cells #[.slice X t.length c] 37)).heap.size=w.heap.size+4:=by simp only [World.size_alloc]
 generalize (((w.alloc (.cells #[.slice none 0 0] LT)).alloc (.cells #[.int .i64 0] INT)).alloc (.cells #[.int .i64 0] ET)).alloc (.cells #[.slice X t.length c] 37)=w0 at *
 have kp0:Kpt w.heap.size (w.heap.size+3) w0 w0:=⟨Below.refl _ _,rfl,by omega,by omega⟩
 refine range_given rfl (by omega) (gf:=99) (lb:=#[.pointer (some ⟨w.heap.size+3,0,none⟩)]) rfl trivial (enters_of Try.func99 (by kernel_rfl) rfl)
  (frames_seq (w.heap.size+3) X c t ho HC.out.1 HC.out.2.1 (by have:=HC.out.2.2;omega) w w0 hB0 (by omega) (k3.cell 0) HX.out) Kpt.trans
  (fun W l o o' hl ho1 ho2 ho3=>⟨belowK_b (w:=w0) hB0.size W l o o' hl ho1 ho2 ho3,World.putObj_heap_other (by omega),by have:=(Array.getElem?_eq_some_iff.1 ho1).1;omega,by have:=(Array.getElem?_eq_some_iff.1 ho1).1;omega⟩)
  (Below.refl _ _) (fun _=>rfl)
  (AllIn w.heap.size w.heap.size w0) (fun c pre W=>c = .ret∧AllX w.heap.size w.heap.size w0 pre W)
  (own_in _ _ _) (fun c=>own_x _ _ _ c) (own_r w0)
  ⟨⟨none,0,k0,list_nil⟩,k1,k2,fun x hx=>by simp at hx,kp0⟩
  (fun x a' W=>∃ eb,w0.heap.size≤eb∧Blk W eb RECT (rL x.r x.x x.Y x.cy).toArray∧a' = { tmps:=#[.slice X t.length c,undef,.pointer (some ⟨w.heap.size,0,none⟩),.pointer (some ⟨w.heap.size+1,0,none⟩),.pointer (some ⟨w.heap.size+2,0,none⟩),.int .i64 x.e,.pointer (some ⟨eb,0,none⟩),.slice X t.length c,.func (.func 99) #[] #[.pointer (some ⟨w.heap.size+3,0,none⟩)],.int .i64 x.e,.agg (rL x.r x.x x.Y x.cy).toArray,undef,undef,undef,undef,undef,undef,undef],defers:=[] })
  (fun x a' _ Y Z row hs hg hr=>by
   obtain ⟨eb,h1,h2,h3⟩:=hs
   exact ⟨eb,h1,own_blk h2 hg hr,h3⟩)
  ?assign ?body ?done ?stop
 case assign =>
  rintro l pre x W K hI hR hK
  have HK:=Lib.hid hK
  have H1:=Lib.hid (And.intro hI hR)
  have hsz:w0.heap.size≤W.heap.size:=hI.kp.b.size
  have x5:=box_full (W:=W) RECT Sq.zzR (vs:=rL x.r x.x x.Y x.cy) rfl
  clear hK hI hR k0 k1 k2 k3
  unfold FE.enc
  gi_wp2_with (first | (refine wpListIn_store_mid rfl RECT _ _ rfl W.heap.size 0 (rL x.r x.x x.Y x.cy).toArray rfl rfl (there_of (Blk.new W RECT Sq.zzR) (Nat.le_of_ble_eq_true rfl)) (by kernel_rfl) (by kernel_rfl) ?_;simp only [List.toList_toArray];generalize World.setCells _ _ _ _=W5 at *;(try simp only [Act.put])) | gi_in)
  exact HK.out _ W5 (keeps_below x5.2) (Kpt.of (by omega) (by omega) x5.2) (H1.out.1.up x5.2) (at_below H1.out.2 x5.2) ⟨W.heap.size,hsz,x5.1,rfl⟩
 case body =>
  rintro l pre x a' W hl ⟨r,hr⟩ hI hR ⟨eb,heb,bX,rfl⟩ hsp
  obtain ⟨V,cv,hb0,V',cv',xs,heq,hown,hels⟩:=hI.row
  rw [List.length_map] at hown heq
  injection heq with heq _
  injection heq with e1 _ e3
  subst e1 e3
  have c0:W.cell? ⟨w.heap.size,0,none⟩=some (.slice V pre.length cv):=hb0.cell 0
  have f0:=hb0.frozen 0
  have c1:W.cell? ⟨w.heap.size+1,0,none⟩=some (.int .i64 (endOf pre)):=hI.c1.cell 0
  have f1:=hI.c1.frozen 0
  have c2:W.cell? ⟨w.heap.size+2,0,none⟩=some (.int .i64 0):=hI.c2.cell 0
  have f2:=hI.c2.frozen 0
  have hpn:pre.length≤1000000000:=by
   have h1:=hsp.length_le
   have h2:=fr_len t (t.length+1) 0
   have h3:=HC.out.2.2
   simp [keys] at h1
   omega
  clear hsp
  have hsW:w0.heap.size≤W.heap.size:=hI.kp.b.size
  have H1:=Lib.hid (And.intro hI (And.intro hR (And.intro hb0 (And.intro hown hels))))
  have HX1:=Lib.hid bX
  clear hI hR hb0 hown hels bX hr k0 k1 k2 k3
  obtain ⟨xe,hxe⟩:∃ n,n=x.e:=⟨_,rfl⟩
  rw [← hxe]
  have HXE:=Lib.hid hxe
  clear hxe
  by_cases hneg:xe < 0
  ·have hn1:decide (xe < 0)=true:=decide_eq_true hneg
   have HN:=Lib.hid hneg
   clear hneg
   gi_wp2
   refine ⟨?_,rfl,?_⟩
   ·exact (((KeepsOthers.setCell _ _ _).trans (KeepsOthers.setCell _ _ _)).trans (KeepsOthers.setCell _ _ _)).from _
   ·refine ⟨?_,?_,?_,⟨x,by simp,by rw [← HXE.out];exact HN.out⟩,?_⟩
    ·exact ((H1.out.2.2.1.set_ 0 (.slice none 0 0)).far (p:=⟨w.heap.size+1,0,none⟩) (by show w.heap.size≠w.heap.size+1;omega) _).far (p:=⟨w.heap.size+2,0,none⟩) (by show w.heap.size≠w.heap.size+2;omega) _
    ·exact ((H1.out.1.c1.far (p:=⟨w.heap.size,0,none⟩) (by show w.heap.size+1≠w.heap.size;omega) _).set_ 0 (.int .i64 0)).far (p:=⟨w.heap.size+2,0,none⟩) (by show w.heap.size+1≠w.heap.size+2;omega) _
    ·exact ((H1.out.1.c2.far (p:=⟨w.heap.size,0,none⟩) (by show w.heap.size+2≠w.heap.size;omega) _).far (p:=⟨w.heap.size+1,0,none⟩) (by show w.heap.size+2≠w.heap.size+1;omega) _).set_ 0 (.int .i64 290)
    ·refine H1.out.1.kp.trans ⟨?_,?_,by omega,by omega⟩
     ·exact (((Below.refl _ _).setCell (p:=⟨w.heap.size,0,none⟩) (Nat.le_refl _) _).setCell (p:=⟨w.heap.size+1,0,none⟩) (Nat.le_add_right _ _) _).setCell (p:=⟨w.heap.size+2,0,none⟩) (Nat.le_add_right _ _) _
     ·rw [Below.heap_setCell _ _ _ _ (by simp),Below.heap_setCell _ _ _ _ (by simp),Below.heap_setCell _ _ _ _ (by simp)]
  ·have hn1:decide (xe < 0)=false:=decide_eq_false hneg
   have HN:=Lib.hid hneg
   clear hneg
   have R6:=Lib.hid (show W.rangeAt eb 0 (rL x.r x.x x.Y x.cy) from range_part (n:=45) HX1.out rfl)
   gi_wp2_with (first
    | (refine wpListIn_load_mid rfl RECT _ rfl eb 0 rfl (rL x.r x.x x.Y x.cy) _ R6.out Try.underlying51 rfl (by kernel_rfl) ?_)
    | (gi_at_builtin
       refine wpListIn_append_own _ rfl _ _ LT rfl w0.heap.size RECT i0 (.agg zA) 45 464 Try.underlying86 HI.out.1 HI.out.2.1 HI.out.2.2.1 HI.out.2.2.2 rfl (by decide) _ _ _ rfl (H1.out.2.2.2.1.alloc _) ⟨W.heap.size,0,none⟩ 1 1 (rL x.r x.x x.Y x.cy) rfl rfl (fun j u hu=>by rw [add_flat,Nat.zero_add,(Blk.new W RECT (rL x.r x.x x.Y x.cy).toArray).cell j];simpa using hu) (one_rec _ _ _ _ H1.out.2.1) (by unfold maxLen;omega) (by omega) (by simp;omega) ?_
       intro v' w3 hown' hg3 _
       obtain ⟨V2,cc2,rfl⟩:=own_form2 hown'
       have HP:=Lib.hid (push (n0:=w.heap.size) (Nat.le_refl _) hs0 H1.out.1 H1.out.2.2.1 H1.out.2.2.2.1 H1.out.2.2.2.2 H1.out.2.1 (by rw [← HXE.out];exact HN.out) hown' hg3)
       have ca:=HP.out.1.cell 0
       have fa:=HP.out.1.frozen 0
       have cb:=HP.out.2.1.cell 0
       have fb:=HP.out.2.1.frozen 0
       clear hown' hg3
       simp only [Act.put,List.setIfInBounds_toArray,List.set_cons_succ,List.set_cons_zero])
    | gi_in)
   rw [HXE.out]
   refine ⟨?_,HP.out.2.2.2.1,HP.out.2.2.2.2⟩
   have hk:=HP.out.2.2.1
   rw [hs0] at hk
   exact hk
 case done =>
  rintro D xs W hD hS hI hK
  have hI2:=(own_in w.heap.size w.heap.size w0).putObj (o':=.deferred none) hI hD hK rfl
  have hBD:Below w.heap.size w (W.putObj D (.deferred none)):=hB0.trans hI2.kp.b
  have H2:=Lib.hid (And.intro hI2 (And.intro hBD hS))
  clear hI hI2 hBD hS k0 k1 k2 k3
  gi_wp2
  refine ⟨by simp,.inl ⟨_,_,rfl,run_takeDeferred hK,?_⟩⟩
  obtain ⟨V,cv,h0,hA⟩:=H2.out.1.row
  exact ⟨_,results_three rfl _ _ w.heap.size (w.heap.size+1) (w.heap.size+2) (.slice V xs.length cv) (.int .i64 (endOf xs)) (.int .i64 0) rfl rfl rfl (h0.cell 0) (H2.out.1.c1.cell 0) (H2.out.1.c2.cell 0) Try.underlying86 Try.underlying3 Try.underlying38,post_ok H2.out.2.2 H2.out.1 hA H2.out.2.1⟩
 case stop =>
  rintro D c pre W hD hSp ⟨rfl,hX⟩ hK
  have hI2:=(own_x w.heap.size w.heap.size w0 .ret).putObj (o':=.deferred none) (⟨rfl,hX⟩:(Code.ret = .ret∧AllX w.heap.size w.heap.size w0 pre W)) hD hK rfl
  have hBD:Below w.heap.size w (W.putObj D (.deferred none)):=hB0.trans hI2.2.kp.b
  have H2:=Lib.hid (And.intro hI2.2 (And.intro hBD hSp))
  clear hX hI2 hBD hSp k0 k1 k2 k3
  gi_wp2
  refine ⟨by simp,.inl ⟨_,_,rfl,run_takeDeferred hK,?_⟩⟩
  exact ⟨_,results_three rfl _ _ w.heap.size (w.heap.size+1) (w.heap.size+2) (.slice none 0 0) (.int .i64 0) (.int .i64 290) rfl rfl rfl (H2.out.1.c0.cell 0) (H2.out.1.c1.cell 0) (H2.out.1.c2.cell 0) Try.underlying86 Try.underlying3 Try.underlying38,post_bad H2.out.2.2 H2.out.1.ng H2.out.2.1⟩
end Go.Proofs.Ytfdldbfjeamlcaa.LogAllV
