/- Several texts joined: The reference's All. No conditions but those named. -/
import Derived.BigQuiet
import Derived.Deep.QuietTactic
import Derived.Deep.DeepCutAuto
import Derived.Deep.MidRow
import Derived.Lib.QuietBelow
import Derived.IntWalk
import Derived.Test.YtfdldbfjeamlcaaPU25
import Derived.Test.YtfdldbfjeamlcaaPU23
import Derived.Test.YtfdldbfjeamlcaaPT21
import Derived.Test.YtfdldbfjeamlcaaPU24
import Derived.Test.YtfdldbfjeamlcaaPG4
set_option linter.unusedVariables false
set_option linter.unusedSimpArgs false
namespace Go.Proofs.Ytfdldbfjeamlcaa.RlAll
set_option maxRecDepth 100000
set_option maxHeartbeats 20000000
open Go Go.Sort Go.RowKit MarkMath Mem RecMem RecByte RecNum RecEach RecMath RecCommand RecCmdJ RecWr0 RecVal RecCod RecCods RecSame RecOwn RecRecC RecRd RecRL0 RecRRec RecRead RecAt RecAll RwNum RwNums RwCmdI RwBytes RwWrite LogFour LogJoin LogWrap LogFrm RlSum RlFour RlWrap LogAllV RfRead
structure RAll (w:World) (t:Bs) (k f:Nat) (pre:List (Int × RV)) (V:Option Addr) (cv:Nat) (xs:List Value) (W:World):Prop where
 le:k≤t.length
 fu:t.length < k+f
 fr:fr t (t.length+1) 0=pre ++ fr t f k
 ng:∀ p ∈ pre,¬ p.1 < 0
 en:((pre.getLast?.map (·.1)).getD 0)=(k:Int)
 own:W.ownsRow w.heap.size RECT 45 (.slice V pre.length cv) pre.length xs
 els:∀ (i:Nat) (y:RV),(pre.map (·.2))[i]? = some y→recR.At W w.heap.size y ((xs.drop (i*45)).take 45)
 b:Below w.heap.size w W
section
variable {w W W2 w3:World} {t:Bs} {k f:Nat} {pre:List (Int × RV)} {V V2:Option Addr} {cv cv2:Nat} {xs vs:List Value}
theorem RAll.nil (w:World) (t:Bs):RAll w t 0 (t.length+1) [] none 0 [] w:=
 ⟨Nat.zero_le _,by omega,rfl,fun p hp=>by (cases hp),rfl,World.ownsRow_nil _ _ _ _,fun i y h=>by simp at h,Below.refl _ _⟩
theorem RAll.up (h:RAll w t k f pre V cv xs W) (hB:Below W.heap.size W W2):RAll w t k f pre V cv xs W2:=
 ⟨h.le,h.fu,h.fr,h.ng,h.en,RecRL0.ownsRow_agree h.own fun g cur _ hh=>hB.block g (Array.getElem?_eq_some_iff.1 hh).1,fun i y hi=>recR.keep (h.els i y hi) (fun k _ hk=>hB.block k hk) hB.size,below_up h.b hB⟩
theorem RAll.ok (h:RAll w t k f pre V cv xs W) (h0:LogFrm.fr t f k=[]):AllPost t w (.returned (.tuple #[.slice V pre.length cv,.int .i64 (k:Int),.int .i64 0])) W:=by
 unfold AllPost
 have e:LogFrm.fr t (t.length+1) 0=pre:=by rw [h.fr,h0,List.append_nil]
 rw [e,h.en]
 refine ⟨.inl ⟨h.ng,V,cv,rfl,V,cv,xs,by simp,?_,?_⟩,h.b⟩
 ·have:=h.own
  rw [List.length_map]
  exact this
 ·exact h.els
theorem RAll.bad (h:RAll w t k f pre V cv xs W) (h0:∃ p ∈ LogFrm.fr t f k,p.1 < 0) (hB:Below W.heap.size W W2):AllPost t w (.returned (.tuple #[.slice none 0 0,.int .i64 0,.int .i64 290])) W2:=by
 unfold AllPost
 obtain ⟨p,hp,hn⟩:=h0
 exact ⟨.inr ⟨⟨p,by rw [h.fr];exact List.mem_append_right _ hp,hn⟩,rfl⟩,below_up h.b hB⟩
theorem RAll.push {m:Nat} {ob:Obj} (h:RAll w t k f pre V cv xs W) (hm:num4 (t.drop k)=(m:Int)) (h8:¬ t.length < k+8) (hb:¬ 65536 < num4 (t.drop k)) (hc:¬ (t.length:Int) < (k:Int)+8+num4 (t.drop k)) (hok:frOk t k)
    (hq:recR.At W w.heap.size (readV (frT t k)).1 vs) (ho:w3.ownsRow w.heap.size RECT 45 (.slice V2 (pre.length+1) cv2) (pre.length+1) (xs ++ vs)) (hg:(W.alloc ob).grownBy w3 (Value.slice V pre.length cv).ownBlock) :
    ∃ f',RAll w t (k+8+m) f' (pre ++ [(((k+8+m:Nat):Int),(readV (frT t k)).1)]) V2 cv2 (xs ++ vs) w3:=by
 obtain ⟨f',rfl⟩:∃ f',f=f' + 1:=⟨f - 1,by have:=h.fu;have:=h.le;omega⟩
 have hfr:=fr_ok (f:=f') h8 hb hc hok
 rw [hm] at hfr
 have hown:∀ g,(Value.slice V pre.length cv).ownBlock=some g→w.heap.size≤g∧∃ cur,W.heap[g]? = some (.cells cur RECT (0,0)):=fun g hgo=>by
  obtain ⟨a,_,q⟩:=own_ge h.own hgo
  exact ⟨a,q⟩
 have hag:∀ (F:Nat) g cs e',e'≠RECT→F≤g→W.heap[g]? = some (.cells cs e' (0,0))→w3.heap[g]? = W.heap[g]?:=fun F g cs' e' he hg2 hh=>by
  have hl:=(Array.getElem?_eq_some_iff.1 hh).1
  rw [hg.block g (by simp;omega) (fun e1=>by
   obtain ⟨_,cur,hc⟩:=hown g e1.symm
   rw [hc] at hh
   injection hh with hh
   injection hh with _ hh
   exact he hh.symm),Below.heap_alloc W ob g hl]
 have hxl:xs.length=pre.length*45:=h.own.1
 have hvl:vs.length=45:=recR.len hq
 refine ⟨f',by omega,by have:=h.fu;omega,?_,?_,?_,?_,?_,?_⟩
 ·rw [h.fr,hfr,List.append_assoc]
  congr 2
 ·intro p hp
  rcases List.mem_append.1 hp with hp | hp
  ·exact h.ng p hp
  ·simp at hp;subst hp;simp only;omega
 ·simp
 ·rw [List.length_append];exact ho
 ·intro i y hi
  rw [List.map_append] at hi
  rcases Nat.lt_or_ge i pre.length with hlt | hge
  ·rw [List.getElem?_append_left (by simpa using hlt)] at hi
   have hik:(i+1)*45≤pre.length*45:=Nat.mul_le_mul_right _ hlt
   rw [List.drop_append_of_le_length (by omega),List.take_append_of_le_length (by rw [List.length_drop];omega)]
   exact keep_row _ _ _ _ _ (h.els i y hi) (fun k cs e' h1 h2 h3=>hag _ k cs e' h1 h2 h3)
  ·rw [List.getElem?_append_right (by simpa using hge)] at hi
   have hi0:i=pre.length:=by
    have:=(List.getElem?_eq_some_iff.1 hi).1
    simp at this;omega
   subst hi0
   simp at hi
   subst hi
   rw [← hxl,List.drop_left,List.take_of_length_le (by omega)]
   exact keep_row _ _ _ _ _ hq (fun k cs e' h1 h2 h3=>hag _ k cs e' h1 h2 h3)
 ·have h1:Below w.heap.size w (W.alloc ob):=h.b.alloc h.b.size ob
  exact h1.grown hg (by have:=h.b.size;simp;omega) (fun g hgo=>(hown g hgo).1)
end
theorem rall (X:Option Addr) (c:Nat) (t:Bs) (ho:Oct t) (hc:t.length≤c) (hm:c≤maxLen) (hl:t.length≤1000000000) (w:World) (hX:TxtAt w X t) :
    Calls Try.prog 40 #[.slice X t.length c] w fun e w' => AllPost t w e w':=by
 obtain ⟨i0,hi0,hz0,hz1,hz2⟩:=info_parts r_info
 have HI:=Lib.hid (And.intro hi0 (And.intro hz0 (And.intro hz1 hz2)))
 have HX:=Lib.hid (And.intro hX (And.intro ho (And.intro hc hm)))
 obtain ⟨N,hN⟩:∃ N,N=t.length:=⟨_,rfl⟩
 rw [← hN]
 have HN:=Lib.hid hN
 have hNl:N≤1000000000:=by omega
 clear hi0 hz0 hz1 hz2 hX ho hc hm hl hN
 go_enter Try.func40,Try.ntmps40
 go_wp2_with fail
 go_loopw [5,6,7,8,9,10] (fun l_ e_ _ _ _ _ wr=>∃ (k f:Nat) (pre:List (Int × RV)) (V:Option Addr) (cv:Nat) (xs:List Value),l_ = .slice V pre.length cv∧e_ = .int .i64 (k:Int)∧k≤N∧Hid (RAll w t k f pre V cv xs wr))
  (fun _ e_ _ _ _ _ _=>N - (intOf e_).toNat)
 case atStart=>exact ⟨0,N+1,[],none,0,[],rfl,rfl,Nat.zero_le _,by rw [HN.out];exact RAll.nil w t⟩
 case round =>
  obtain ⟨k,f,pre,V,cv,xs,rfl,rfl,hk,HR⟩:=hrel
  have s0:IntKind.i64.wrap ((N:Int) - (k:Int))=(N:Int) - (k:Int):=IntWalk.i64_in _ (by omega)
  have hfp:∃ f',f=f' + 1:=⟨f - 1,by have h1:=HR.out.fu;have h2:=HN.out;omega⟩
  by_cases h8:N < k+8
  ·have d8:decide ((8:Int)≤(N:Int) - (k:Int))=false:=decide_eq_false (by omega)
   have HE:=Lib.hid (show LogFrm.fr t f k=[] by obtain ⟨f',rfl⟩:=hfp;exact fr_end (by have:=HN.out;omega))
   clear hfp h8
   go_wp2_with fail
   refine bodyPost_ret (v:=.tuple #[.slice V pre.length cv,.int .i64 (k:Int),.int .i64 0]) (by simp [results,Try.results40,go_sem]) rfl ?_
   exact RAll.ok HR.out HE.out
  have d8:decide ((8:Int)≤(N:Int) - (k:Int))=true:=decide_eq_true (by omega)
  have HX1:=Lib.hid (HX.out.1.up HR.out.b)
  obtain ⟨m,hm⟩:∃ m:Nat,num4 (t.drop k)=(m:Int):=by
   have:=num4_in (t:=t.drop k) (Oct.drop HX.out.2.1 k)
   exact ⟨(num4 (t.drop k)).toNat,by omega⟩
  have hm32:(m:Int) < 4294967296:=by rw [← hm];exact (num4_in (Oct.drop HX.out.2.1 k)).2
  have HNUM:=Lib.hid (fun (W:World) (h:TxtAt W X t)=>rnumber X t N c k HN.out (by have:=HN.out;omega) HX.out.2.1 (by have:=HN.out;omega) W h)
  rw [hm] at HNUM
  have HM:=Lib.hid hm
  have H8:=Lib.hid h8
  clear hm h8
  go_wp2_with fail
  refine (HNUM.out wr HX1.out).mono ?_
  rintro e w1 ⟨rfl,hB⟩
  have HR1:=Lib.hid (HR.out.up hB)
  have HB01:=Lib.hid hB
  clear HNUM hB HX1
  by_cases hb:65536 < m
  ·have db:decide ((65536:Int) < (m:Int))=true:=decide_eq_true (by omega)
   have HE:=Lib.hid (show ∃ p ∈ LogFrm.fr t f k,p.1 < 0 by
    obtain ⟨f',rfl⟩:=hfp
    rw [fr_big (by have:=H8.out;have:=HN.out;omega) (by have:=HM.out;omega)]
    exact ⟨_,List.mem_cons_self,by decide⟩)
   clear hfp hb
   go_wp2_with fail
   refine bodyPost_ret (v:=.tuple #[.slice none 0 0,.int .i64 0,.int .i64 290]) (by simp [results,Try.results40,go_sem]) rfl ?_
   exact RAll.bad HR1.out HE.out (Below.refl _ _)
  have db:decide ((65536:Int) < (m:Int))=false:=decide_eq_false (by omega)
  have HBg:=Lib.hid hb
  have s1:IntKind.i64.wrap ((N:Int) - (k:Int) - 8)=(N:Int) - (k:Int) - 8:=IntWalk.i64_in _ (by omega)
  by_cases hcu:N < k+8+m
  ·have dc:decide ((N:Int) - (k:Int) - 8 < (m:Int))=true:=decide_eq_true (by omega)
   have HE:=Lib.hid (show LogFrm.fr t f k=[] by
    obtain ⟨f',rfl⟩:=hfp
    exact fr_cut (by have:=H8.out;have:=HN.out;omega) (by have:=HM.out;have:=HBg.out;omega) (by have:=HM.out;have:=HN.out;omega))
   clear hfp hcu hb
   go_wp2_with fail
   refine bodyPost_ret (v:=.tuple #[.slice V pre.length cv,.int .i64 (k:Int),.int .i64 0]) (by simp [results,Try.results40,go_sem]) rfl ?_
   exact RAll.ok HR1.out HE.out
  have dc:decide ((N:Int) - (k:Int) - 8 < (m:Int))=false:=decide_eq_false (by omega)
  have HC:=Lib.hid (show ¬ (t.length:Int) < (k:Int)+8+num4 (t.drop k) by have:=HM.out;have:=HN.out;omega)
  have s2:IntKind.i64.wrap ((k:Int)+8)=(k:Int)+8:=IntWalk.i64_in _ (by omega)
  have s3:IntKind.i64.wrap ((k:Int)+8+(m:Int))=(k:Int)+8+(m:Int):=IntWalk.i64_in _ (by omega)
  have HH:=Lib.hid (show (frT t k).length=m∧N≤c∧m+(k+8)≤N from ⟨by unfold frT;rw [List.length_take,List.length_drop];have:=HM.out;have:=HN.out;omega,by have:=HX.out.2.2.1;have:=HN.out;omega,by omega⟩)
  obtain ⟨tb,o,hXe⟩:∃ tb o,X=some ⟨tb,o,none⟩:=by
   obtain ⟨b,o,e,_⟩:=HX.out.1 0 (t[0]'(by have:=H8.out;have:=HN.out;omega)) (List.getElem?_eq_getElem _)
   exact ⟨b,o,e⟩
  subst hXe
  go_upto_region 9 with fail
  go_cut [8] from 11 to 62 (fun s8 wx=>∃ (Z:Option Addr) (cz:Nat),s8 = .slice Z m cz∧m≤cz∧TxtAt wx Z (frT t k)∧TxtAt wx (some ⟨tb,o,none⟩) t∧RAll w t k f pre V cv xs wx)
  case first =>
   have HT1:=Lib.hid (HX.out.1.up HR1.out.b)
   have hcB:(k:Int)+8+(m:Int)≤(c:Int):=by have:=HH.out;omega
   have hk88:(0:Int)≤(k:Int)+8:=by omega
   by_cases hk8:c=k+8
   ·have hki8:(c:Int)=(k:Int)+8:=by omega
    have HK8:=Lib.hid hk8
    clear hk8 hfp hb hcu
    go_wp2_with fail
    go_meet
    refine ⟨_,0,by rw [show k+8+m - (k+8)=m by omega],by have:=HH.out;have:=HK8.out;omega,?_,HT1.out,HR1.out⟩
    intro i x hi
    have h1:=(List.getElem?_eq_some_iff.1 hi).1
    have:=HH.out;have:=HK8.out
    omega
   ·have hki8:¬ (c:Int)=(k:Int)+8:=by omega
    have HK8:=Lib.hid hk8
    clear hfp hb hcu
    go_wp2_with fail
    go_meet
    exact ⟨_,c - (k+8),by rw [show k+8+m - (k+8)=m by omega],by have:=HH.out;omega,TxtAt.take (TxtAt.drop HT1.out (k+8)) _,HT1.out,HR1.out⟩
  case rest =>
   obtain ⟨Z,cz,rfl,hmz,hZ,hT,hR2⟩:=hcut
   have HRD:=Lib.hid (show Calls Try.prog 22 #[.slice Z m cz] wc fun e w' => RdPost (frT t k) wc e w' from by
    have h9:=rfread Z (frT t k) cz wc hZ (Oct.take (Oct.drop HX.out.2.1 _) _)
    rw [HH.out.1] at h9
    exact h9)
   have H2:=Lib.hid (And.intro hZ (And.intro hT hR2))
   clear hZ hT hR2 HR1 HB01 HR
   go_wp2_with fail
   refine HRD.out.mono ?_
   rintro e w3 ⟨vs,rfl,hAt,hB3⟩
   obtain ⟨xq,Yq,cq,rfl,_⟩:=rec_at hAt
   have H3:=Lib.hid (And.intro (H2.out.1.up hB3) (And.intro (H2.out.2.1.up hB3) (And.intro (H2.out.2.2.up hB3) (recR.mono hAt (H2.out.2.2.b.size)))))
   obtain ⟨q,hq⟩:∃ q,q=(readV (frT t k)).1:=⟨_,rfl⟩
   obtain ⟨v,hv⟩:∃ v,v=(readV (frT t k)).2:=⟨_,rfl⟩
   rw [← hq] at H3
   rw [← hq,← hv]
   have HQ:=Lib.hid (And.intro hq hv)
   clear hAt hB3 H2 HRD hq hv
   have x1:=box_full (W:=w3) 51 Sq.zzR (vs:=(rL q xq Yq cq)) rfl
   go_upto_region 11 with (first | (refine wpList_store_mid rfl 51 _ _ rfl w3.heap.size 0 (List.toArray (rL q xq Yq cq)) rfl rfl (there_of (Blk.new w3 51 Sq.zzR) (Nat.le_of_ble_eq_true rfl)) (by kernel_rfl) (by kernel_rfl) ?_;simp only [List.toList_toArray];generalize World.setCells _ _ _ _=w4 at *;(try simp only [Act.put])))
   have H4:=Lib.hid (And.intro (H3.out.1.up x1.2) (And.intro (H3.out.2.1.up x1.2) (And.intro (H3.out.2.2.1.up x1.2) (recR.keep H3.out.2.2.2 (fun k _ hk=>x1.2.block k hk) x1.2.size))))
   obtain ⟨g,hg⟩:∃ n,n=w3.heap.size:=⟨_,rfl⟩
   rw [← hg] at x1
   rw [← hg]
   have B4:=Lib.hid x1.1
   clear x1 hg H3
   by_cases hv0:v=0
   rotate_left
   ·have hv1:(v != 0)=true:=by simpa using hv0
    have HE:=Lib.hid (show ∃ p ∈ LogFrm.fr t f k,p.1 < 0 by
     obtain ⟨f',rfl⟩:=hfp
     rw [fr_bad (by have:=H8.out;have:=HN.out;omega) (by have:=HM.out;have:=HBg.out;omega) (Int.not_lt.2 HC.out) (fun h=>hv0 (by rw [HQ.out.2];exact h.1))]
     exact ⟨_,List.mem_cons_self,by decide⟩)
    clear hfp hv0
    go_wp2_with fail
    refine bodyPost_ret (v:=.tuple #[.slice none 0 0,.int .i64 0,.int .i64 290]) (by simp [results,Try.results40,go_sem]) rfl ?_
    exact RAll.bad H4.out.2.2.1 HE.out (Below.refl _ _)
   have hv1:(v != 0)=false:=by simpa using hv0
   have HV0:=Lib.hid hv0
   clear hv0
   have s4:IntKind.i64.wrap ((k:Int)+4)=((k+4:Nat):Int):=by rw [IntWalk.i64_in _ (by omega)];omega
   have HNU:=Lib.hid (rnumber (some ⟨tb,o,none⟩) t N c (k+4) HN.out (by have:=H8.out;have:=HN.out;omega) HX.out.2.1 (by have:=HN.out;omega) w4 H4.out.2.1)
   obtain ⟨n2,hn2⟩:∃ n,n=num4 (t.drop (k+4)):=⟨_,rfl⟩
   obtain ⟨s9,hs9⟩:∃ n,n=mk 0 (frT t k):=⟨_,rfl⟩
   rw [← hn2] at HNU
   have HNS:=Lib.hid (And.intro hn2 hs9)
   have hsr:0≤s9∧s9 < 4294967291:=by rw [hs9];exact mk_in
   obtain ⟨hsr0,hsr1⟩:=hsr
   clear hn2 hs9
   go_wp2_with fail
   refine HNU.out.mono ?_
   rintro e w5 ⟨rfl,hB5⟩
   have H5:=Lib.hid (And.intro (H4.out.1.up hB5) (And.intro (H4.out.2.1.up hB5) (And.intro (H4.out.2.2.1.up hB5) (recR.keep H4.out.2.2.2 (fun k _ hk=>hB5.block k hk) hB5.size))))
   have B5:=Lib.hid (B4.out.below hB5 B4.out.lt)
   clear hB5 H4 B4 HNU
   have HSU:=Lib.hid (sum_txt Z m cz (frT t k) HH.out.1.symm (Oct.take (Oct.drop HX.out.2.1 _) _) (by rw [HH.out.1];have:=HBg.out;omega) w5 H5.out.1)
   rw [← HNS.out.2] at HSU
   go_wp2_with fail
   refine HSU.out.mono ?_
   rintro e w6 ⟨rfl,hB6⟩
   have H6:=Lib.hid (And.intro (H5.out.2.2.1.up hB6) (recR.keep H5.out.2.2.2 (fun k _ hk=>hB6.block k hk) hB6.size))
   have B6:=Lib.hid (B5.out.below hB6 B5.out.lt)
   clear hB6 H5 B5 HSU
   by_cases he:n2=s9
   rotate_left
   ·have he1:(n2 != s9)=true:=by simpa using he
    have HE:=Lib.hid (show ∃ p ∈ LogFrm.fr t f k,p.1 < 0 by
     obtain ⟨f',rfl⟩:=hfp
     rw [fr_bad (by have:=H8.out;have:=HN.out;omega) (by have:=HM.out;have:=HBg.out;omega) (Int.not_lt.2 HC.out) (fun h=>he (by rw [HNS.out.1,HNS.out.2];exact h.2.symm))]
     exact ⟨_,List.mem_cons_self,by decide⟩)
    clear hfp he
    go_wp2_with fail
    refine bodyPost_ret (v:=.tuple #[.slice none 0 0,.int .i64 0,.int .i64 290]) (by simp [results,Try.results40,go_sem]) rfl ?_
    exact RAll.bad H6.out.1 HE.out (Below.refl _ _)
   have he1:(n2 != s9)=false:=by simpa using he
   have HOK:=Lib.hid (show frOk t k from ⟨by rw [← HQ.out.2];exact HV0.out,by rw [← HNS.out.1,← HNS.out.2];exact he.symm⟩)
   clear he hfp
   have R6:=Lib.hid (show w6.rangeAt g 0 (rL q xq Yq cq) from range_part (n:=45) B6.out rfl)
   have s5:IntKind.i64.wrap (8+(m:Int))=8+(m:Int):=IntWalk.i64_in _ (by have:=HH.out;omega)
   have s6:IntKind.i64.wrap ((k:Int)+(8+(m:Int)))=((k+8+m:Nat):Int):=by rw [IntWalk.i64_in _ (by have:=HH.out;omega)];omega
   have hsz:w.heap.size≤w6.heap.size:=H6.out.1.b.size
   have hpl:pre.length≤N+1:=by
    have h1:=congrArg List.length H6.out.1.fr
    have h2:=fr_len t (t.length+1) 0
    rw [List.length_append] at h1
    have:=HN.out;omega
   go_wp2_with (first | (refine wpList_load_mid rfl 51 _ rfl _ _ rfl _ _ R6.out Try.underlying51 rfl (by kernel_rfl) ?_) | (at_builtin;refine wpList_append_any _ rfl (.tmp 55) (.tmp 57) _ rfl w.heap.size RECT i0 (.agg zA) 45 464 Try.underlying86 HI.out.1 HI.out.2.1 HI.out.2.2.1 HI.out.2.2.2 rfl (by decide) _ _ _ rfl (H6.out.1.own.alloc _) _ (some ⟨w6.heap.size,0,none⟩) 1 1 (rL q xq Yq cq) rfl (reads_box w6 RECT (rL q xq Yq cq)) (one_rec _ _ _ _ H6.out.2) (by simp only [maxLen];omega) (by omega) (by simp;omega) ?_;intro v7 w7 hown hgr hat;obtain ⟨V7,c7,rfl⟩:=own_form2 hown;have H7:=Lib.hid (And.intro hown hgr);clear hown hgr hat))
   obtain ⟨f',hf'⟩:=H6.out.1.push HM.out (by have:=H8.out;have:=HN.out;omega) (by have:=HM.out;have:=HBg.out;omega) (by first | exact HC.out | exact Int.not_lt.2 HC.out) HOK.out (by rw [← HQ.out.1];exact H6.out.2) H7.out.1 H7.out.2
   exact ⟨⟨k+8+m,f',_,V7,c7,_,by rw [List.length_append];rfl,rfl,by have:=HH.out;omega,hf'⟩,by simp [intOf];have:=HH.out;omega⟩
end Go.Proofs.Ytfdldbfjeamlcaa.RlAll
namespace Go.Proofs.Ytfdldbfjeamlcaa.LogReadsW
set_option maxRecDepth 100000
set_option maxHeartbeats 8000000
open Go Go.RowKit MarkMath Mem RecMem RecByte RecNum RecMath RecCod RecVal RecSame RecWr0 RecRecC RecRd RecRead RecAt RecAll LogFour LogJoin LogWrap LogFrm LogAllV LogPlain LogCutP LogRows LogSameA LogAllW LogList LogMath RlWrap RlAll
def wpT (r:RV) (v:Int):Bs:=if v=0 then wrapB r else []
theorem wpT_reads {w:World} {r:RV} {v:Int} {X:Option Addr} {n:Nat} (h0:v≠0→n=0) (h1:v=0→n=(wrapB r).length∧BytesAt w X (wrapB r)):Reads w w.heap.size 1 X n ((wpT r v).map (Value.int .u8)):=by
 unfold wpT
 by_cases h:v=0
 ·obtain ⟨e,hb⟩:=h1 h
  rw [if_pos h,e]
  exact hb
 ·rw [if_neg h,h0 h]
  exact ⟨by simp,fun h=>absurd h (by omega)⟩
theorem wv_one {r:RV} {a b:Int} (h1:WV r a) (h2:WV r b):a=b:=by
 by_cases h:okR r
 ·by_cases hl:(recB r).length≤65536
  ·rw [h1.ok.2 ⟨h,hl⟩,h2.ok.2 ⟨h,hl⟩]
  ·have f:∀ v,WV r v→v=4:=fun v hv=>by
    rcases hv.any with e | e | e
    ·exact absurd (hv.ok.1 e).2 hl
    ·exact e
    ·exact absurd h (hv.bad.1 e)
   rw [f a h1,f b h2]
 ·rw [h1.bad.2 h,h2.bad.2 h]
def WrP (r:RV) (w:World) (e:Ending) (w':World):Prop:=
 (∃ v X n c,e = .returned (.tuple #[.slice X n c,.int .i64 v])∧WV r v∧Reads w' w'.heap.size 1 X n ((wpT r v).map (Value.int .u8)))∧Below w.heap.size w w'
theorem wrapP {w:World} {r:RV} {cs:List Value} (h:rRep w r cs) (F:RFacts r):Calls Try.prog 37 #[.agg cs.toArray] w fun e w' => WrP r w e w':=by
 obtain ⟨x,Y,cy,rfl,h⟩:=h
 refine (wrap_v r x Y cy F w h).mono ?_
 rintro e w' ⟨⟨v,X,n,c,rfl,hV,h0,h1⟩,hB⟩
 refine ⟨⟨v,X,n,c,rfl,hV,wpT_reads (fun hv=>(h0 hv).2.1) fun hv=>?_⟩,hB⟩
 obtain ⟨g,rfl,hn,hF⟩:=h1 hv
 exact ⟨hn,txt_bytes hF.txt⟩
theorem rwrapP {w:World} {r:RV} {cs:List Value} (h:rRep w r cs) (F:RFacts r):Calls Try.prog 38 #[.agg cs.toArray] w fun e w' => WrP r w e w':=by
 obtain ⟨x,Y,cy,rfl,h⟩:=h
 refine (rwrap r x Y cy F w h).mono ?_
 rintro e w' ⟨⟨X,n,c,v,rfl,hV,h0,h1⟩,hB⟩
 exact ⟨⟨v,X,n,c,rfl,hV,wpT_reads h0 fun hv=>⟨(h1 hv).1,(h1 hv).2.2⟩⟩,hB⟩
open Classical in
noncomputable def lsOf (t:Bs):List RV:=if Whole t then rows t else []
open Classical in
noncomputable def eOf (t:Bs):Int:=if Whole t then endV (frs t) else 0
open Classical in
noncomputable def vOf (t:Bs):Int:=if Whole t then 0 else 290
theorem ls_facts {t:Bs} (ho:Oct t):∀ r ∈ lsOf t,RFacts r:=by
 unfold lsOf
 split
 ·exact rows_facts ho
 ·intro r hr;cases hr
theorem ls_small (t:Bs):(lsOf t).length≤t.length+1:=by
 unfold lsOf
 split
 ·exact rows_small
 ·simp
def AlP (t:Bs) (w:World) (e:Ending) (w':World):Prop:=
 (∃ V c,e = .returned (.tuple #[.slice V (lsOf t).length c,.int .i64 (eOf t),.int .i64 (vOf t)])∧RsAt w' V (lsOf t))∧Below w.heap.size w w'
theorem all_of {t:Bs} {w w':World} {e:Ending} (h:AllPost t w e w'):AlP t w e w':=by
 obtain ⟨h,hB⟩:=h
 refine ⟨?_,hB⟩
 rcases h with ⟨hw,V,cv,rfl,hR⟩ | ⟨hb,rfl⟩
 ·have hW:Whole t:=hw
  unfold lsOf eOf vOf
  rw [if_pos hW,if_pos hW,if_pos hW]
  have e2:(rows t).length=(fr t (t.length+1) 0).length:=rows_len t
  have hR':recsR.At w' w.heap.size (rows t) [.slice V (rows t).length cv]:=by
   rw [e2];exact hR
  obtain ⟨V2,c2,e3,h1,h2,h3⟩:=rs_of hR'
  simp at e3
  obtain ⟨rfl,rfl⟩:=e3
  rw [e2]
  exact ⟨V,cv,rfl,h3⟩
 ·have hW:¬ Whole t:=fun hw=>by
   obtain ⟨p,hp,hlt⟩:=hb
   exact hw p hp hlt
  unfold lsOf eOf vOf
  rw [if_neg hW,if_neg hW,if_neg hW]
  exact ⟨none,0,rfl,fun k r hk=>by simp at hk⟩
structure RB (w:World) (r:RV) (cm:List Value) (W:World):Prop where
 m:Blk W w.heap.size 51 cm.toArray
 p:rRep W r cm
 b:Below w.heap.size w W
theorem RB.new {w:World} {r:RV} {cm:List Value} (h:rRep w r cm):RB w r cm (w.alloc (.cells cm.toArray 51)):=
 ⟨Blk.new w 51 cm.toArray,rStays _ _ _ _ h (below_alloc (Below.refl _ w)),below_alloc (Below.refl _ w)⟩
theorem RB.up {w:World} {r:RV} {cm:List Value} {W W':World} (h:RB w r cm W) (hB:Below W.heap.size W W'):RB w r cm W':=⟨h.m.below hB h.m.lt,rStays _ _ _ _ h.p hB,below_up h.b hB⟩
theorem RB.row {w:World} {r:RV} {cm:List Value} {W:World} (h:RB w r cm W) (hc:cm.length=45):W.rangeAt w.heap.size 0 cm:=range_part (n:=45) h.m (by simp [hc.symm])
theorem walkReads (w:World) (r:RV) (x:SA) (Y:Option Addr) (cy:Nat) (F0:RFacts r) (I0:RIs w r x Y cy) (X:Option Addr) (c:Nat) (t:Bs) (hc:t.length≤c) (hm:c≤maxLen) (hX:TxtAt w X t) (ho:Oct t) :
    Calls Try.prog 9 #[.agg (rL r x Y cy).toArray,.slice X t.length c] w fun e w' => e = .returned (.bool true)∧Below w.heap.size w w':=by
 obtain ⟨cm,hcm⟩:∃ cm,cm=rL r x Y cy:=⟨_,rfl⟩
 have HM:=Lib.hid (show rRep w r cm from ⟨x,Y,cy,hcm,I0⟩)
 have hcl:cm.length=45:=by rw [hcm];rfl
 rw [← hcm]
 clear hcm
 have hsm:cm.toArray.size=45:=by simpa using hcl
 have hzm:(Try.prog.info? 51).map (·.size)=some cm.length:=by rw [hcl];kernel_rfl
 have hzb:(Try.prog.info? 51).map (·.size)=some cm.toArray.size:=by rw [hsm];kernel_rfl
 have HX:=Lib.hid hX
 have HF:=Lib.hid (And.intro F0 (And.intro ho (And.intro hc hm)))
 have hlm:t.length≤9223372036854775807:=by simp only [maxLen] at hm;omega
 have HS:=Lib.hid (fun (W:World) (h:Below w.heap.size w W)=>run_strOf (n:=t.length) (c:=c) (show Reads W W.heap.size 1 X t.length (t.map (Value.int .u8)) from txt_bytes (HX.out.up h)))
 clear hX F0 I0 hc hm ho
 go_enter Try.func9,Try.ntmps9
 go_upto_region 1 with fail
 have K0:=Lib.hid (RB.new HM.out)
 generalize w.alloc (.cells cm.toArray 51)=W0 at *
 have R0:=Lib.hid (K0.out.row hcl)
 go_wp2_with (first | (refine wpList_load_mid rfl 51 _ rfl _ _ rfl _ _ R0.out Try.underlying51 rfl hzm ?_))
 refine (rgreatR K0.out.p HF.out.1).mono ?_
 rintro e w1 ⟨⟨B,rfl⟩,hB⟩
 have K1:=Lib.hid (K0.out.up hB)
 clear K0 hB R0
 cases B
 rotate_left
 ·go_wp2_with fail
  go_ret
  exact ⟨rfl,K1.out.b⟩
 by_cases hl7:70000 < t.length
 ·have hl8:(70000:Int) < (t.length:Int):=by omega
  go_wp2_with fail
  go_ret
  exact ⟨rfl,K1.out.b⟩
 have hl8:¬ (70000:Int) < (t.length:Int):=by omega
 have HL:=Lib.hid (show t.length≤70000 by omega)
 have k1:=HS.out w1 K1.out.b
 have R1:=Lib.hid (K1.out.row hcl)
 go_wp2_with (first | (refine wpList_load_mid rfl 51 _ rfl _ _ rfl _ _ R1.out Try.underlying51 rfl hzm ?_))
 clear hl7 hl8 k1
 refine (wrapP K1.out.p HF.out.1).mono ?_
 rintro e w2 ⟨⟨v2,X2,n2,c2,rfl,hV2,hT2⟩,hB⟩
 have K2:=Lib.hid (K1.out.up hB)
 have HT2:=Lib.hid (And.intro hV2 hT2)
 have R2:=Lib.hid (K2.out.row hcl)
 clear hB K1 R1 hV2 hT2
 go_wp2_with (first | (refine wpList_load_mid rfl 51 _ rfl _ _ rfl _ _ R2.out Try.underlying51 rfl hzm ?_))
 refine (rwrapP K2.out.p HF.out.1).mono ?_
 rintro e w3 ⟨⟨v3,X3,n3,c3,rfl,hV3,hT3⟩,hB⟩
 have K3:=Lib.hid (K2.out.up hB)
 obtain rfl:v2=v3:=wv_one HT2.out.1 hV3
 have HT3:=Lib.hid (And.intro ((HT2.out.2.below hB).more hB.size) hT3)
 clear hB K2 R2 hV3 hT3 HT2
 generalize wpT r v2=T at *
 go_wp2_with fail
 refine ((all_any X c t HF.out.2.1 HF.out.2.2.1 HF.out.2.2.2 (by have:=HL.out;omega) w3 (HX.out.up K3.out.b)).mono fun e w' h=>all_of h).mono ?_
 rintro e w4 ⟨⟨V4,c4,rfl,hR4⟩,hB⟩
 have K4:=Lib.hid (K3.out.up hB)
 have HT4:=Lib.hid (And.intro ((HT3.out.1.below hB).more hB.size) ((HT3.out.2.below hB).more hB.size))
 have HR4:=Lib.hid hR4
 clear K3 hB hR4 HT3
 have HAL:=Lib.hid ((rall X c t HF.out.2.1 HF.out.2.2.1 HF.out.2.2.2 (by have:=HL.out;omega) w4 (HX.out.up K4.out.b)).mono fun e w' h=>all_of h)
 have HLS:=Lib.hid (And.intro (ls_facts HF.out.2.1) (show (lsOf t).length≤70001 from by have:=HL.out;have:=ls_small t;omega))
 unfold AlP at HAL
 generalize lsOf t=ls at *
 generalize eOf t=E at *
 generalize vOf t=v at *
 go_wp2_with fail
 refine HAL.out.mono ?_
 rintro e w5 ⟨⟨V5,c5,rfl,hR5⟩,hB⟩
 have K5:=Lib.hid (K4.out.up hB)
 have HT5:=Lib.hid (And.intro ((HT4.out.1.below hB).more hB.size) ((HT4.out.2.below hB).more hB.size))
 have HSA:=Lib.hid (rsame_w V4 V5 ls.length ls.length c4 c5 ls ls rfl rfl rfl (by have:=HLS.out.2;omega) HLS.out.1 w5 (SlcAt.up rStays HR4.out hB) hR5)
 clear K4 hB HT4 HAL HR4 hR5 HLS
 have k1:=run_strOf (n:=n2) (c:=c2) HT5.out.1
 have k2:=run_strOf (n:=n3) (c:=c3) HT5.out.2
 go_wp2_with fail
 clear k1 k2
 refine HSA.out.mono ?_
 rintro e w6 ⟨rfl,hB⟩
 have K6:=Lib.hid (K5.out.up hB)
 have k3:=HS.out w6 K6.out.b
 clear K5 hB HSA HT5
 go_wp2_with fail
 go_ret
 exact ⟨rfl,K6.out.b⟩
end Go.Proofs.Ytfdldbfjeamlcaa.LogReadsW
